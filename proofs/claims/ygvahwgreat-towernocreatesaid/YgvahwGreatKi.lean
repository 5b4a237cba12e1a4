import Derived.Test.YgvahwGreatKd
import Derived.Test.YgvahwGreatKg0
namespace Go.Proofs.YgvahwGreat
open Go.RowKit
set_option linter.unusedSimpArgs false
set_option maxRecDepth 100000
set_option maxRecDepth 100000 in
set_option maxHeartbeats 6400000 in
theorem kChi_ {w : World} {B : Nat} {tt : TypeId} {c : Nat → Value} {A : Nat → Nat → Nat → Bool} (hB : Blk w B 1600 tt c) (hc : FB 1600 c (fl A)) : Calls Hvah.prog 400 #[.pointer (some ⟨B, 0, none⟩)] w fun e w' => ∃ r, e = .returned (.agg r) ∧ r.size = 1600 ∧ FB 1600 (cf r) (fl (bChi A)) ∧ Ext w w' := by
  go_enter Hvah.func400, Hvah.ntmps400
  go_upto_region 2 with (first | ((with_reducible (refine Veil.out ?_; apply wl_allocF z439)); rintro N W1 e1 bN0 gN))
  try simp only [Act.put]
  go_loopw [10] (fun iv wr => ∃ (x : Nat) (cN : Nat → Value), iv = .int .i64 (x : Nat) ∧ x ≤ 5 ∧ Blk wr N 1600 447 cN ∧ FB 1600 cN (onWay (fl (bChi A)) (fun _ => false) (x * 320)) ∧ Ext w wr) (fun iv _ => 5 - (intOf iv).toNat)
  case atStart => exact ⟨0, _, rfl, by decide, bN0, fun i hi => by rw [show (0 * 320 = 0) from rfl, onWay_0], by (repeat (first | with_reducible exact Ext.refl _ | with_reducible assumption | refine Ext.trans ?_ (by with_reducible assumption) | refine Ext.alloc ?_ _ _ | refine Ext.drew ?_ | refine Ext.drewN ?_ _))⟩
  case round =>
    obtain ⟨x, cN, rfl, hx5, hN, fN, hE⟩ := hrel
    rcases Nat.lt_or_ge x 5 with hlt | hge
    · have hxi : (x : Int) < 5 := by omega
      go_upto_region 5 with (fail)
      try simp only [Act.put]
      go_loopw [13] (fun iv wr => ∃ (y : Nat) (cN : Nat → Value), iv = .int .i64 (y : Nat) ∧ y ≤ 5 ∧ Blk wr N 1600 447 cN ∧ FB 1600 cN (onWay (fl (bChi A)) (fun _ => false) (x * 320 + y * 64)) ∧ Ext w wr) (fun iv _ => 5 - (intOf iv).toNat)
      case atStart => exact ⟨0, cN, rfl, by decide, by assumption, fN, by (repeat (first | with_reducible exact Ext.refl _ | with_reducible assumption | refine Ext.trans ?_ (by with_reducible assumption) | refine Ext.alloc ?_ _ _ | refine Ext.drew ?_ | refine Ext.drewN ?_ _))⟩
      case round =>
        clear fN hN hE
        obtain ⟨y, cN, rfl, hy5, hN, fN, hE⟩ := hrel
        rcases Nat.lt_or_ge y 5 with hlty | hge
        · have hyi : (y : Int) < 5 := by omega
          obtain ⟨p, hp⟩ : ∃ p, Hid ((x + 1) % 5 = p) := ⟨_, rfl⟩
          obtain ⟨q, hq⟩ : ∃ q, Hid ((x + 2) % 5 = q) := ⟨_, rfl⟩
          have hp2 := hp.out
          have hq2 := hq.out
          have hp5 : p < 5 := by omega
          have hq5 : q < 5 := by omega
          have m3 : (p : Int) < 5 := by omega
          have m4 : (q : Int) < 5 := by omega
          have j1 : IntKind.i64.wrap ((x : Int) + 1) = x + 1 := by rw [IntKind.wrap_i64]; omega
          have j2 : IntKind.i64.wrap ((x : Int) + 2) = x + 2 := by rw [IntKind.wrap_i64]; omega
          have t1 : ((x : Int) + 1).tmod 5 = (p : Int) := by rw [Int.tmod_eq_emod_of_nonneg (by omega)]; omega
          have t2 : ((x : Int) + 2).tmod 5 = (q : Int) := by rw [Int.tmod_eq_emod_of_nonneg (by omega)]; omega
          have t3 : ((x : Int) + 1) % 5 = (p : Int) := by omega
          have t4 : ((x : Int) + 2) % 5 = (q : Int) := by omega
          clear hp2 hq2
          go_upto_region 12 with (fail)
          try simp only [Act.put]
          go_loopw [42] (fun iv wr => ∃ (z : Nat) (cN : Nat → Value), iv = .int .i64 (z : Nat) ∧ z ≤ 64 ∧ Blk wr N 1600 447 cN ∧ FB 1600 cN (onWay (fl (bChi A)) (fun _ => false) (x * 320 + y * 64 + z)) ∧ Ext w wr) (fun iv _ => 64 - (intOf iv).toNat)
          case atStart => exact ⟨0, cN, rfl, by decide, by assumption, fN, by (repeat (first | with_reducible exact Ext.refl _ | with_reducible assumption | refine Ext.trans ?_ (by with_reducible assumption) | refine Ext.alloc ?_ _ _ | refine Ext.drew ?_ | refine Ext.drewN ?_ _))⟩
          case round =>
            clear fN hN hE
            obtain ⟨z, cN, rfl, hz5, hN, fN, hE⟩ := hrel
            rcases Nat.lt_or_ge z 64 with hltz | hge
            · have hzi : (z : Int) < 64 := by omega
              have hch : fl (bChi A) (x * 320 + y * 64 + z) = (fl A (x * 320 + y * 64 + z) ^^ (fl A (q * 320 + y * 64 + z) && !fl A (p * 320 + y * 64 + z))) := by rw [fl_at _ hlty hltz, fl_at _ hlty hltz, fl_at _ hlty hltz, fl_at _ hlty hltz, ← hp.out, ← hq.out]; rfl
              obtain ⟨hv, hhv⟩ : ∃ b, Hid (fl A (x * 320 + y * 64 + z) = b) := ⟨_, rfl⟩
              obtain ⟨lv_, hlv⟩ : ∃ b, Hid (fl A (q * 320 + y * 64 + z) = b) := ⟨_, rfl⟩
              obtain ⟨nv, hnv⟩ : ∃ b, Hid (fl A (p * 320 + y * 64 + z) = b) := ⟨_, rfl⟩
              rw [hhv.out, hlv.out, hnv.out] at hch
              have hBN : ¬ B = N := fun q => by have := hB.lt; omega
              have KH : ∀ W i, Mod (· = N) wr W → i = x * 320 + y * 64 + z → W.cell? ⟨B, i, none⟩ = some (.bool hv) := fun W i hW hi => by
                rw [hi, ((hB.ext hE).mod hW hBN).cell (by omega), hc _ (by omega), hhv.out]
              have KL : ∀ W i, Mod (· = N) wr W → i = q * 320 + y * 64 + z → W.cell? ⟨B, i, none⟩ = some (.bool lv_) := fun W i hW hi => by
                rw [hi, ((hB.ext hE).mod hW hBN).cell (by omega), hc _ (by omega), hlv.out]
              have KX : ∀ W i, Mod (· = N) wr W → i = p * 320 + y * 64 + z → W.cell? ⟨B, i, none⟩ = some (.bool nv) := fun W i hW hi => by
                rw [hi, ((hB.ext hE).mod hW hBN).cell (by omega), hc _ (by omega), hnv.out]
              go_upto_region 14 with (fail)
              refine w_ext ?_
              rintro W0 hW0
              refine wp_region_held_drew (S := fun w' => Mod (fun x => x = N) W0 w') (by kernel_rfl) (Mod.refl _ _).drew (fun hHeld => ?_)
              have HH : Hid (Mod (fun x => x = N) W0 _) := hHeld
              clear hHeld
              refine wpAnyH_take (i := 0) (v := ?_) rfl (by kernel_rfl) (by kernel_rfl) (by kernel_rfl) (fun _ _ _ h => h) (Or.inl ⟨by rfl, ?_⟩) HH.out ?_
              rotate_left
              · intro w hSw; go_simp; try with_reducible rfl
              change wpAnyH _ _ _ _ _ _ _ (Act.put _ (some 45) _) _
              simp only [Act.put, List.setIfInBounds_toArray, List.set_cons_zero, List.set_cons_succ]
              refine wpAnyH_take (i := 1) (v := ?_) rfl (by kernel_rfl) (by kernel_rfl) (by kernel_rfl) (fun _ _ _ h => h) (Or.inl ⟨by rfl, ?_⟩) HH.out ?_
              rotate_left
              · intro w hSw; go_simp; try with_reducible rfl
              change wpAnyH _ _ _ _ _ _ _ (Act.put _ (some 46) _) _
              simp only [Act.put, List.setIfInBounds_toArray, List.set_cons_zero, List.set_cons_succ]
              refine wpAnyH_take (i := 2) (v := ?_) rfl (by kernel_rfl) (by kernel_rfl) (by kernel_rfl) (fun _ _ _ h => h) (Or.inl ⟨by rfl, ?_⟩) HH.out ?_
              rotate_left
              · intro w hSw; go_simp; try with_reducible rfl
              change wpAnyH _ _ _ _ _ _ _ (Act.put _ (some 47) _) _
              simp only [Act.put, List.setIfInBounds_toArray, List.set_cons_zero, List.set_cons_succ]
              refine wpAnyH_take (i := 3) (v := ?_) rfl (by kernel_rfl) (by kernel_rfl) (by kernel_rfl) (fun _ _ _ h => h) (Or.inl ⟨by rfl, ?_⟩) HH.out ?_
              rotate_left
              · intro w hSw; go_simp; try with_reducible rfl
              change wpAnyH _ _ _ _ _ _ _ (Act.put _ (some 48) _) _
              simp only [Act.put, List.setIfInBounds_toArray, List.set_cons_zero, List.set_cons_succ]
              refine wpAnyH_take (i := 4) (v := ?_) rfl (by kernel_rfl) (by kernel_rfl) (by kernel_rfl) (fun _ _ _ h => h) (Or.inl ⟨by rfl, ?_⟩) HH.out ?_
              rotate_left
              · intro w hSw; go_simp; try with_reducible rfl
              change wpAnyH _ _ _ _ _ _ _ (Act.put _ (some 49) _) _
              simp only [Act.put, List.setIfInBounds_toArray, List.set_cons_zero, List.set_cons_succ]
              refine wpAnyH_take (i := 5) (v := ?_) rfl (by kernel_rfl) (by kernel_rfl) (by kernel_rfl) (fun _ _ _ h => h) (Or.inl ⟨by rfl, ?_⟩) HH.out ?_
              rotate_left
              · intro w hSw; go_simp; try with_reducible rfl
              change wpAnyH _ _ _ _ _ _ _ (Act.put _ (some 50) _) _
              simp only [Act.put, List.setIfInBounds_toArray, List.set_cons_zero, List.set_cons_succ]
              refine wpAnyH_take (i := 6) rfl (by kernel_rfl) (by kernel_rfl) (by kernel_rfl) (fun _ _ _ h => h) (yieldsIf_load1 (by rfl) _ _ rfl _ _ rfl onek4 _ (fun w hSw => KH _ _ (((show Ext wr W0 by assumption).mod _).trans hSw) (by omega))) HH.out ?_
              change wpAnyH _ _ _ _ _ _ _ (Act.put _ (some 51) _) _
              simp only [Act.put, List.setIfInBounds_toArray, List.set_cons_zero, List.set_cons_succ]
              refine wpAnyH_take (i := 7) (v := ?_) rfl (by kernel_rfl) (by kernel_rfl) (by kernel_rfl) (fun _ _ _ h => h) (Or.inl ⟨by rfl, ?_⟩) HH.out ?_
              rotate_left
              · intro w hSw; go_simp; try with_reducible rfl
              change wpAnyH _ _ _ _ _ _ _ (Act.put _ (some 52) _) _
              simp only [Act.put, List.setIfInBounds_toArray, List.set_cons_zero, List.set_cons_succ]
              refine wpAnyH_take (i := 8) (v := ?_) rfl (by kernel_rfl) (by kernel_rfl) (by kernel_rfl) (fun _ _ _ h => h) (Or.inl ⟨by rfl, ?_⟩) HH.out ?_
              rotate_left
              · intro w hSw; go_simp; try with_reducible rfl
              change wpAnyH _ _ _ _ _ _ _ (Act.put _ (some 53) _) _
              simp only [Act.put, List.setIfInBounds_toArray, List.set_cons_zero, List.set_cons_succ]
              refine wpAnyH_take (i := 9) (v := ?_) rfl (by kernel_rfl) (by kernel_rfl) (by kernel_rfl) (fun _ _ _ h => h) (Or.inl ⟨by rfl, ?_⟩) HH.out ?_
              rotate_left
              · intro w hSw; go_simp; try with_reducible rfl
              change wpAnyH _ _ _ _ _ _ _ (Act.put _ (some 54) _) _
              simp only [Act.put, List.setIfInBounds_toArray, List.set_cons_zero, List.set_cons_succ]
              refine wpAnyH_take (i := 10) (v := ?_) rfl (by kernel_rfl) (by kernel_rfl) (by kernel_rfl) (fun _ _ _ h => h) (Or.inl ⟨by rfl, ?_⟩) HH.out ?_
              rotate_left
              · intro w hSw; go_simp; try with_reducible rfl
              change wpAnyH _ _ _ _ _ _ _ (Act.put _ (some 55) _) _
              simp only [Act.put, List.setIfInBounds_toArray, List.set_cons_zero, List.set_cons_succ]
              refine wpAnyH_take (i := 11) rfl (by kernel_rfl) (by kernel_rfl) (by kernel_rfl) (fun _ _ _ h => h) (yieldsIf_load1 (by rfl) _ _ rfl _ _ rfl onek4 _ (fun w hSw => KL _ _ (((show Ext wr W0 by assumption).mod _).trans hSw) (by omega))) HH.out ?_
              change wpAnyH _ _ _ _ _ _ _ (Act.put _ (some 56) _) _
              simp only [Act.put, List.setIfInBounds_toArray, List.set_cons_zero, List.set_cons_succ]
              refine wpAnyH_take (i := 13) (v := ?_) rfl (by kernel_rfl) (by kernel_rfl) (by kernel_rfl) (fun _ _ _ h => h) (Or.inl ⟨by rfl, ?_⟩) HH.out ?_
              rotate_left
              · intro w hSw; go_simp; try with_reducible rfl
              change wpAnyH _ _ _ _ _ _ _ (Act.put _ (some 58) _) _
              simp only [Act.put, List.setIfInBounds_toArray, List.set_cons_zero, List.set_cons_succ]
              refine wpAnyH_take (i := 14) (v := ?_) rfl (by kernel_rfl) (by kernel_rfl) (by kernel_rfl) (fun _ _ _ h => h) (Or.inl ⟨by rfl, ?_⟩) HH.out ?_
              rotate_left
              · intro w hSw; go_simp; try with_reducible rfl
              change wpAnyH _ _ _ _ _ _ _ (Act.put _ (some 59) _) _
              simp only [Act.put, List.setIfInBounds_toArray, List.set_cons_zero, List.set_cons_succ]
              refine wpAnyH_take (i := 15) (v := ?_) rfl (by kernel_rfl) (by kernel_rfl) (by kernel_rfl) (fun _ _ _ h => h) (Or.inl ⟨by rfl, ?_⟩) HH.out ?_
              rotate_left
              · intro w hSw; go_simp; try with_reducible rfl
              change wpAnyH _ _ _ _ _ _ _ (Act.put _ (some 60) _) _
              simp only [Act.put, List.setIfInBounds_toArray, List.set_cons_zero, List.set_cons_succ]
              refine wpAnyH_take (i := 16) (v := ?_) rfl (by kernel_rfl) (by kernel_rfl) (by kernel_rfl) (fun _ _ _ h => h) (Or.inl ⟨by rfl, ?_⟩) HH.out ?_
              rotate_left
              · intro w hSw; go_simp; try with_reducible rfl
              change wpAnyH _ _ _ _ _ _ _ (Act.put _ (some 61) _) _
              simp only [Act.put, List.setIfInBounds_toArray, List.set_cons_zero, List.set_cons_succ]
              refine wpAnyH_take (i := 17) rfl (by kernel_rfl) (by kernel_rfl) (by kernel_rfl) (fun _ _ _ h => h) (yieldsIf_load1 (by rfl) _ _ rfl _ _ rfl onek4 _ (fun w hSw => KX _ _ (((show Ext wr W0 by assumption).mod _).trans hSw) (by omega))) HH.out ?_
              change wpAnyH _ _ _ _ _ _ _ (Act.put _ (some 62) _) _
              simp only [Act.put, List.setIfInBounds_toArray, List.set_cons_zero, List.set_cons_succ]
              refine wpAnyH_take (i := 21) (v := ?_) rfl (by kernel_rfl) (by kernel_rfl) (by kernel_rfl) (fun _ _ _ h => h) (Or.inl ⟨by rfl, ?_⟩) HH.out ?_
              rotate_left
              · intro w hSw; go_simp; try with_reducible rfl
              change wpAnyH _ _ _ _ _ _ _ (Act.put _ (some 66) _) _
              simp only [Act.put, List.setIfInBounds_toArray, List.set_cons_zero, List.set_cons_succ]
              refine wpAnyH_ready (rs := [12]) (by kernel_rfl) (by simp) ?_
              refine AllReadyH.cons rfl (fun K hK => ?_) AllReadyH.nil
              go_simp
              go_at_call 423; refine (kBit _ _).mono ?_; rintro e w1 ⟨rfl, hww⟩; replace hww := hww.symm; subst hww
              refine hK.out _ _ ?_ (fun hHeld => ?_)
              · first | exact HH.out.trans hmY | exact HH.out.trans_ext he | exact HH.out
              clear hK K HH
              have HH : Hid (Mod (fun x => x = N) W0 _) := hHeld
              clear hHeld
              refine wpAnyH_ready (rs := [18]) (by kernel_rfl) (by simp) ?_
              refine AllReadyH.cons rfl (fun K hK => ?_) AllReadyH.nil
              go_simp
              go_at_call 423; refine (kBit _ _).mono ?_; rintro e w1 ⟨rfl, hww⟩; replace hww := hww.symm; subst hww
              refine hK.out _ _ ?_ (fun hHeld => ?_)
              · first | exact HH.out.trans hmY | exact HH.out.trans_ext he | exact HH.out
              clear hK K HH
              have HH : Hid (Mod (fun x => x = N) W0 _) := hHeld
              clear hHeld
              refine wpAnyH_take (i := 19) (v := .bool (lv_ && !nv)) rfl (by kernel_rfl) (by kernel_rfl) (by kernel_rfl) (fun _ _ _ h => h) (Or.inl ⟨by rfl, ?_⟩) HH.out ?_
              · intro w hSw; go_simp; cases lv_ <;> cases nv <;> rfl
              change wpAnyH _ _ _ _ _ _ _ (Act.put _ (some 64) _) _
              simp only [Act.put, List.setIfInBounds_toArray, List.set_cons_zero, List.set_cons_succ]
              refine wpAnyH_take (i := 20) (v := ?_) rfl (by kernel_rfl) (by kernel_rfl) (by kernel_rfl) (fun _ _ _ h => h) (Or.inl ⟨by rfl, ?_⟩) HH.out ?_
              rotate_left
              · intro w hSw; go_simp; try with_reducible rfl
              change wpAnyH _ _ _ _ _ _ _ (Act.put _ (some 65) _) _
              simp only [Act.put, List.setIfInBounds_toArray, List.set_cons_zero, List.set_cons_succ]
              refine wpAnyH_take (i := 22) (v := ?_) rfl (by kernel_rfl) (by kernel_rfl) (by kernel_rfl) (fun _ _ _ h => h) (Or.inl ⟨by rfl, ?_⟩) HH.out ?_
              rotate_left
              · intro w hSw; go_simp; try with_reducible rfl
              change wpAnyH _ _ _ _ _ _ _ (Act.put _ (some 67) _) _
              simp only [Act.put, List.setIfInBounds_toArray, List.set_cons_zero, List.set_cons_succ]
              refine wpAnyH_ready (rs := [23]) (by kernel_rfl) (by simp) ?_
              refine AllReadyH.cons rfl (fun K hK => ?_) AllReadyH.nil
              refine step_any rfl (op_store1 rfl onek4 rfl rfl rfl (hN.ext (by (repeat (first | with_reducible exact Ext.refl _ | with_reducible assumption | refine Ext.trans ?_ (by with_reducible assumption) | refine Ext.alloc ?_ _ _ | refine Ext.drew ?_ | refine Ext.drewN ?_ _)))) (by omega) ?_)
              rintro W6 b6 m6
              refine hK.out _ _ (HH.out.trans m6) (fun hHeld => ?_)
              clear hK K HH
              have HH : Hid (Mod (fun x => x = N) W0 _) := hHeld
              clear hHeld
              change wpAnyH _ _ _ _ _ _ _ (Act.put _ none _) _
              simp only [Act.put, List.setIfInBounds_toArray, List.set_cons_zero, List.set_cons_succ]
              refine wpAnyH_done (by kernel_rfl) ?_ _
              go_wp2
              go_roundw
              case rel =>
                refine ⟨z + 1, _, int_eq (by omega), by omega, b6, onWay_put (p := x * 320 + y * 64 + z) fN (by omega) ((xor_v hv (lv_ && !nv)).trans (by rw [hch])), Ext.trans_mod (show Ext w W0 by (repeat (first | with_reducible exact Ext.refl _ | with_reducible assumption | refine Ext.trans ?_ (by with_reducible assumption) | refine Ext.alloc ?_ _ _ | refine Ext.drew ?_ | refine Ext.drewN ?_ _))).drew m6 (fun q hq => by have hq2 : q = N := hq; rw [hq2]; exact gN)⟩
              case measure => simp [intOf]; omega
            · have hzi : ¬ (z : Int) < 64 := by omega
              obtain rfl : z = 64 := by omega
              go_wp2
              go_roundw
              case rel => exact ⟨y + 1, cN, int_eq (by omega), by omega, hN, by rw [show x * 320 + (y + 1) * 64 = x * 320 + y * 64 + 64 by omega]; exact fN, hE⟩
              case measure => simp [intOf]; omega
        · have hyi : ¬ (y : Int) < 5 := by omega
          obtain rfl : y = 5 := by omega
          go_wp2
          go_roundw
          case rel => exact ⟨x + 1, cN, int_eq (by omega), by omega, hN, by rw [show (x + 1) * 320 = x * 320 + 5 * 64 by omega]; exact fN, hE⟩
          case measure => simp [intOf]; omega
    · have hxi : ¬ (x : Int) < 5 := by omega
      obtain rfl : x = 5 := by omega
      replace fN : FB 1600 cN (fl (bChi A)) := fN.congr (fun i hi => (onWay_all (n := 5 * 320) hi).symm)
      go_wp2_with (first | ((with_reducible (refine Veil.out ?_; apply wl_loadRow rt439)); (case hx => rfl); (case hB => exact hN.ext (by (repeat (first | with_reducible exact Ext.refl _ | with_reducible assumption | refine Ext.trans ?_ (by with_reducible assumption) | refine Ext.alloc ?_ _ _ | refine Ext.drew ?_ | refine Ext.drewN ?_ _)))); (case hi => decide)) | ((with_reducible (refine Veil.out ?_; apply wl_storeRow rt439)); (case hx => rfl); (case hy => rfl); (case hr => exact rowOf_size _ _ _); (case h1 => exact fN.ones (by decide)); (case hB => exact hN.ext (by (repeat (first | with_reducible exact Ext.refl _ | with_reducible assumption | refine Ext.trans ?_ (by with_reducible assumption) | refine Ext.alloc ?_ _ _ | refine Ext.drew ?_ | refine Ext.drewN ?_ _)))); (case hi => decide); rintro W9 b9 m9))
      have f9 := fN.lay0
      refine post_row rt439 (rowOf (layv cN 0 (rowOf cN 0 1600)) 0 1600) (rowOf_size _ _ _) rfl rfl (b9.rowIn (by decide)) rfl ?_
      exact ⟨_, rfl, rowOf_size _ _ _, f9.row_, Ext.trans_mod (show Ext w _ by (repeat (first | with_reducible exact Ext.refl _ | with_reducible assumption | refine Ext.trans ?_ (by with_reducible assumption) | refine Ext.alloc ?_ _ _ | refine Ext.drew ?_ | refine Ext.drewN ?_ _))) m9 (fun q hq => by have hq2 : q = N := hq; rw [hq2]; exact gN)⟩
end Go.Proofs.YgvahwGreat
