import Derived.Test.YgvahwGreatKd
import Derived.Test.YgvahwGreatKg0
namespace Go.Proofs.YgvahwGreat
open Go.RowKit
set_option linter.unusedSimpArgs false
set_option maxRecDepth 100000
set_option maxRecDepth 100000 in
set_option maxHeartbeats 6400000 in
theorem kPi {w : World} {B : Nat} {tt : TypeId} {c : Nat → Value} {A : Nat → Nat → Nat → Bool} (hB : Blk w B 1600 tt c) (hc : FB 1600 c (fl A)) : Calls Hvah.prog 399 #[.pointer (some ⟨B, 0, none⟩)] w fun e w' => ∃ r, e = .returned (.agg r) ∧ r.size = 1600 ∧ FB 1600 (cf r) (fl (bPi A)) ∧ Ext w w' := by
  go_enter Hvah.func399, Hvah.ntmps399
  go_upto_region 2 with (first | ((with_reducible (refine Veil.out ?_; apply wl_allocF z439)); rintro N W1 e1 bN0 gN))
  try simp only [Act.put]
  go_loopw [5] (fun iv wr => ∃ (x : Nat) (cN : Nat → Value), iv = .int .i64 (x : Nat) ∧ x ≤ 5 ∧ Blk wr N 1600 447 cN ∧ FB 1600 cN (onWay (fl (bPi A)) (fun _ => false) (x * 320)) ∧ Ext w wr) (fun iv _ => 5 - (intOf iv).toNat)
  case atStart => exact ⟨0, _, rfl, by decide, bN0, fun i hi => by rw [show (0 * 320 = 0) from rfl, onWay_0], by (repeat (first | with_reducible exact Ext.refl _ | with_reducible assumption | refine Ext.trans ?_ (by with_reducible assumption) | refine Ext.alloc ?_ _ _ | refine Ext.drew ?_ | refine Ext.drewN ?_ _))⟩
  case round =>
    obtain ⟨x, cN, rfl, hx5, hN, fN, hE⟩ := hrel
    rcases Nat.lt_or_ge x 5 with hlt | hge
    · have hxi : (x : Int) < 5 := by omega
      go_upto_region 5 with (fail)
      try simp only [Act.put]
      go_loopw [8] (fun iv wr => ∃ (y : Nat) (cN : Nat → Value), iv = .int .i64 (y : Nat) ∧ y ≤ 5 ∧ Blk wr N 1600 447 cN ∧ FB 1600 cN (onWay (fl (bPi A)) (fun _ => false) (x * 320 + y * 64)) ∧ Ext w wr) (fun iv _ => 5 - (intOf iv).toNat)
      case atStart => exact ⟨0, cN, rfl, by decide, by assumption, fN, by (repeat (first | with_reducible exact Ext.refl _ | with_reducible assumption | refine Ext.trans ?_ (by with_reducible assumption) | refine Ext.alloc ?_ _ _ | refine Ext.drew ?_ | refine Ext.drewN ?_ _))⟩
      case round =>
        clear fN hN hE
        obtain ⟨y, cN, rfl, hy5, hN, fN, hE⟩ := hrel
        rcases Nat.lt_or_ge y 5 with hlty | hge
        · have hyi : (y : Int) < 5 := by omega
          have j1 : IntKind.i64.wrap ((3 : Int) * y) = 3 * y := by rw [IntKind.wrap_i64]; omega
          have j2 : IntKind.i64.wrap ((x : Int) + 3 * y) = x + 3 * y := by rw [IntKind.wrap_i64]; omega
          obtain ⟨p, hp⟩ : ∃ p, Hid ((x + 3 * y) % 5 = p) := ⟨_, rfl⟩
          have hp2 := hp.out
          have hp5 : p < 5 := by omega
          have m3 : (p : Int) < 5 := by omega
          have htm : ((x : Int) + 3 * y).tmod 5 = (p : Int) := by rw [Int.tmod_eq_emod_of_nonneg (by omega)]; omega
          clear hp2
          have bA := hB.ext hE
          go_upto_region 7 with (fail)
          refine w_ext ?_
          rintro W0 hW0
          refine wp_region_held_drew (S := fun w' => (0 ≤ (w' : World).heap.size)) (by kernel_rfl) (Nat.zero_le _) (fun hHeld => ?_)
          have HH : Hid ((0 ≤ (_ : World).heap.size)) := hHeld
          clear hHeld
          refine wpAnyH_take (i := 0) (v := ?_) rfl (by kernel_rfl) (by kernel_rfl) (by kernel_rfl) (fun _ _ _ h => h) (Or.inl ⟨by rfl, ?_⟩) HH.out ?_
          rotate_left
          · intro w hSw; go_simp; try with_reducible rfl
          change wpAnyH _ _ _ _ _ _ _ (Act.put _ (some 11) _) _
          simp only [Act.put, List.setIfInBounds_toArray, List.set_cons_zero, List.set_cons_succ]
          refine wpAnyH_take (i := 1) (v := ?_) rfl (by kernel_rfl) (by kernel_rfl) (by kernel_rfl) (fun _ _ _ h => h) (Or.inl ⟨by rfl, ?_⟩) HH.out ?_
          rotate_left
          · intro w hSw; go_simp; try with_reducible rfl
          change wpAnyH _ _ _ _ _ _ _ (Act.put _ (some 12) _) _
          simp only [Act.put, List.setIfInBounds_toArray, List.set_cons_zero, List.set_cons_succ]
          refine wpAnyH_take (i := 2) (v := ?_) rfl (by kernel_rfl) (by kernel_rfl) (by kernel_rfl) (fun _ _ _ h => h) (Or.inl ⟨by rfl, ?_⟩) HH.out ?_
          rotate_left
          · intro w hSw; go_simp; try with_reducible rfl
          change wpAnyH _ _ _ _ _ _ _ (Act.put _ (some 13) _) _
          simp only [Act.put, List.setIfInBounds_toArray, List.set_cons_zero, List.set_cons_succ]
          refine wpAnyH_take (i := 3) (v := ?_) rfl (by kernel_rfl) (by kernel_rfl) (by kernel_rfl) (fun _ _ _ h => h) (Or.inl ⟨by rfl, ?_⟩) HH.out ?_
          rotate_left
          · intro w hSw; go_simp; try with_reducible rfl
          change wpAnyH _ _ _ _ _ _ _ (Act.put _ (some 14) _) _
          simp only [Act.put, List.setIfInBounds_toArray, List.set_cons_zero, List.set_cons_succ]
          refine wpAnyH_take (i := 4) (v := ?_) rfl (by kernel_rfl) (by kernel_rfl) (by kernel_rfl) (fun _ _ _ h => h) (Or.inl ⟨by rfl, ?_⟩) HH.out ?_
          rotate_left
          · intro w hSw; go_simp; try with_reducible rfl
          change wpAnyH _ _ _ _ _ _ _ (Act.put _ (some 15) _) _
          simp only [Act.put, List.setIfInBounds_toArray, List.set_cons_zero, List.set_cons_succ]
          refine wpAnyH_take (i := 5) (v := ?_) rfl (by kernel_rfl) (by kernel_rfl) (by kernel_rfl) (fun _ _ _ h => h) (Or.inl ⟨by rfl, ?_⟩) HH.out ?_
          rotate_left
          · intro w hSw; go_simp; try with_reducible rfl
          change wpAnyH _ _ _ _ _ _ _ (Act.put _ (some 16) _) _
          simp only [Act.put, List.setIfInBounds_toArray, List.set_cons_zero, List.set_cons_succ]
          refine wpAnyH_take (i := 6) (v := ?_) rfl (by kernel_rfl) (by kernel_rfl) (by kernel_rfl) (fun _ _ _ h => h) (Or.inl ⟨by rfl, ?_⟩) HH.out ?_
          rotate_left
          · intro w hSw; go_simp; try with_reducible rfl
          change wpAnyH _ _ _ _ _ _ _ (Act.put _ (some 17) _) _
          simp only [Act.put, List.setIfInBounds_toArray, List.set_cons_zero, List.set_cons_succ]
          refine wpAnyH_take (i := 7) (v := ?_) rfl (by kernel_rfl) (by kernel_rfl) (by kernel_rfl) (fun _ _ _ h => h) (Or.inl ⟨by rfl, ?_⟩) HH.out ?_
          rotate_left
          · intro w hSw; go_simp; try with_reducible rfl
          change wpAnyH _ _ _ _ _ _ _ (Act.put _ (some 18) _) _
          simp only [Act.put, List.setIfInBounds_toArray, List.set_cons_zero, List.set_cons_succ]
          refine wpAnyH_take (i := 8) (v := ?_) rfl (by kernel_rfl) (by kernel_rfl) (by kernel_rfl) (fun _ _ _ h => h) (Or.inl ⟨by rfl, ?_⟩) HH.out ?_
          rotate_left
          · intro w hSw; go_simp; try with_reducible rfl
          change wpAnyH _ _ _ _ _ _ _ (Act.put _ (some 19) _) _
          simp only [Act.put, List.setIfInBounds_toArray, List.set_cons_zero, List.set_cons_succ]
          refine wpAnyH_take (i := 9) (v := ?_) rfl (by kernel_rfl) (by kernel_rfl) (by kernel_rfl) (fun _ _ _ h => h) (Or.inl ⟨by rfl, ?_⟩) HH.out ?_
          rotate_left
          · intro w hSw; go_simp; try with_reducible rfl
          change wpAnyH _ _ _ _ _ _ _ (Act.put _ (some 20) _) _
          simp only [Act.put, List.setIfInBounds_toArray, List.set_cons_zero, List.set_cons_succ]
          refine wpAnyH_take (i := 10) (v := ?_) rfl (by kernel_rfl) (by kernel_rfl) (by kernel_rfl) (fun _ _ _ h => h) (Or.inl ⟨by rfl, ?_⟩) HH.out ?_
          rotate_left
          · intro w hSw; go_simp; try with_reducible rfl
          change wpAnyH _ _ _ _ _ _ _ (Act.put _ (some 21) _) _
          simp only [Act.put, List.setIfInBounds_toArray, List.set_cons_zero, List.set_cons_succ]
          refine wpAnyH_take (i := 11) (v := ?_) rfl (by kernel_rfl) (by kernel_rfl) (by kernel_rfl) (fun _ _ _ h => h) (Or.inl ⟨by rfl, ?_⟩) HH.out ?_
          rotate_left
          · intro w hSw; go_simp; try with_reducible rfl
          change wpAnyH _ _ _ _ _ _ _ (Act.put _ (some 22) _) _
          simp only [Act.put, List.setIfInBounds_toArray, List.set_cons_zero, List.set_cons_succ]
          refine wpAnyH_take (i := 13) (v := ?_) rfl (by kernel_rfl) (by kernel_rfl) (by kernel_rfl) (fun _ _ _ h => h) (Or.inl ⟨by rfl, ?_⟩) HH.out ?_
          rotate_left
          · intro w hSw; go_simp; try with_reducible rfl
          change wpAnyH _ _ _ _ _ _ _ (Act.put _ (some 24) _) _
          simp only [Act.put, List.setIfInBounds_toArray, List.set_cons_zero, List.set_cons_succ]
          refine wpAnyH_ready (rs := [12]) (by kernel_rfl) (by simp) ?_
          refine AllReadyH.cons rfl (fun K hK => ?_) AllReadyH.nil
          refine step_any rfl (op_loadRow rfl rt436 rfl (bA.ext (by (repeat (first | with_reducible exact Ext.refl _ | with_reducible assumption | refine Ext.trans ?_ (by with_reducible assumption) | refine Ext.alloc ?_ _ _ | refine Ext.drew ?_ | refine Ext.drewN ?_ _)))) (by omega) ?_)
          refine hK.out _ _ HH.out (fun hHeld => ?_)
          clear hK K HH
          have HH : Hid ((0 ≤ (_ : World).heap.size)) := hHeld
          clear hHeld
          change wpAnyH _ _ _ _ _ _ _ (Act.put _ (some 23) _) _
          simp only [Act.put, List.setIfInBounds_toArray, List.set_cons_zero, List.set_cons_succ]
          refine wpAnyH_take (i := 14) (v := ?_) rfl (by kernel_rfl) (by kernel_rfl) (by kernel_rfl) (fun _ _ _ h => h) (Or.inl ⟨by rfl, ?_⟩) HH.out ?_
          rotate_left
          · intro w hSw; go_simp; try with_reducible rfl
          change wpAnyH _ _ _ _ _ _ _ (Act.put _ (some 25) _) _
          simp only [Act.put, List.setIfInBounds_toArray, List.set_cons_zero, List.set_cons_succ]
          refine wpAnyH_ready (rs := [15]) (by kernel_rfl) (by simp) ?_
          refine AllReadyH.cons rfl (fun K hK => ?_) AllReadyH.nil
          refine step_any rfl (op_storeRow rfl rt436 rfl rfl (rowOf_size _ _ _) (hc.ones (by omega)) (hN.ext (by (repeat (first | with_reducible exact Ext.refl _ | with_reducible assumption | refine Ext.trans ?_ (by with_reducible assumption) | refine Ext.alloc ?_ _ _ | refine Ext.drew ?_ | refine Ext.drewN ?_ _)))) (by omega) ?_)
          rintro W5 b5 m5
          refine hK.out _ _ (Nat.zero_le _) (fun hHeld => ?_)
          clear hK K HH
          have HH : Hid ((0 ≤ (_ : World).heap.size)) := hHeld
          clear hHeld
          change wpAnyH _ _ _ _ _ _ _ (Act.put _ none _) _
          simp only [Act.put, List.setIfInBounds_toArray, List.set_cons_zero, List.set_cons_succ]
          refine wpAnyH_done (by kernel_rfl) ?_ _
          go_wp2
          go_roundw
          case rel =>
            refine ⟨y + 1, _, int_eq (by omega), by omega, b5, fun i hi => ?_, Ext.trans_mod (show Ext w W0 by (repeat (first | with_reducible exact Ext.refl _ | with_reducible assumption | refine Ext.trans ?_ (by with_reducible assumption) | refine Ext.alloc ?_ _ _ | refine Ext.drew ?_ | refine Ext.drewN ?_ _))).drew m5 (fun q hq => by have hq2 : q = N := hq; rw [hq2]; exact gN)⟩
            by_cases h1 : x * 320 + y * 64 ≤ i ∧ i < x * 320 + y * 64 + 64
            · obtain ⟨z, rfl⟩ : ∃ z, i = x * 320 + y * 64 + z := ⟨i - (x * 320 + y * 64), by omega⟩
              have hz : z < 64 := by omega
              have q1 := layv_in cN (x * 320 + y * 64) (rowOf c (p * 320 + x * 64) 64) (j := z) (by rw [rowOf_size]; exact hz)
              rw [cf_rowOf _ _ _ hz, hc _ (by omega), fl_at A hlt hz] at q1
              unfold onWay
              rw [if_pos (by omega), fl_at (bPi A) hlty hz]
              show _ = Value.bool (A ((x + 3 * y) % 5) x z)
              rw [hp.out, ← q1]
            · refine (layv_out _ _ _ (by rw [rowOf_size]; omega)).trans ?_
              rw [fN i hi]
              unfold onWay
              by_cases h2 : i < x * 320 + y * 64
              · rw [if_pos h2, if_pos (by omega)]
              · rw [if_neg h2, if_neg (by omega)]
          case measure => simp [intOf]; omega
        · have hyi : ¬ (y : Int) < 5 := by omega
          obtain rfl : y = 5 := by omega
          go_wp2
          go_roundw
          case rel => exact ⟨x + 1, cN, int_eq (by omega), by omega, hN, by rw [show (x + 1) * 320 = x * 320 + 5 * 64 by omega]; exact fN, hE⟩
          case measure => simp [intOf]; omega
    · have hxi : ¬ (x : Int) < 5 := by omega
      obtain rfl : x = 5 := by omega
      replace fN : FB 1600 cN (fl (bPi A)) := fN.congr (fun i hi => (onWay_all (n := 5 * 320) hi).symm)
      go_wp2_with (first | ((with_reducible (refine Veil.out ?_; apply wl_loadRow rt439)); (case hx => rfl); (case hB => exact hN.ext (by (repeat (first | with_reducible exact Ext.refl _ | with_reducible assumption | refine Ext.trans ?_ (by with_reducible assumption) | refine Ext.alloc ?_ _ _ | refine Ext.drew ?_ | refine Ext.drewN ?_ _)))); (case hi => decide)) | ((with_reducible (refine Veil.out ?_; apply wl_storeRow rt439)); (case hx => rfl); (case hy => rfl); (case hr => exact rowOf_size _ _ _); (case h1 => exact fN.ones (by decide)); (case hB => exact hN.ext (by (repeat (first | with_reducible exact Ext.refl _ | with_reducible assumption | refine Ext.trans ?_ (by with_reducible assumption) | refine Ext.alloc ?_ _ _ | refine Ext.drew ?_ | refine Ext.drewN ?_ _)))); (case hi => decide); rintro W9 b9 m9))
      have f9 := fN.lay0
      refine post_row rt439 (rowOf (layv cN 0 (rowOf cN 0 1600)) 0 1600) (rowOf_size _ _ _) rfl rfl (b9.rowIn (by decide)) rfl ?_
      exact ⟨_, rfl, rowOf_size _ _ _, f9.row_, Ext.trans_mod (show Ext w _ by (repeat (first | with_reducible exact Ext.refl _ | with_reducible assumption | refine Ext.trans ?_ (by with_reducible assumption) | refine Ext.alloc ?_ _ _ | refine Ext.drew ?_ | refine Ext.drewN ?_ _))) m9 (fun q hq => by have hq2 : q = N := hq; rw [hq2]; exact gN)⟩
end Go.Proofs.YgvahwGreat
