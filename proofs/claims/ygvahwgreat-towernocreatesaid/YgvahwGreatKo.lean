import Derived.Test.YgvahwGreatKn
import Derived.Test.YgvahwGreatRowsK
namespace Go.Proofs.YgvahwGreat
open Go.RowKit
set_option linter.unusedSimpArgs false
/-- The lanes. -/
def LAt (c : Nat → Value) (a : List Nat) : Prop := ∀ i, i < 25 → c i = .int .u64 (kget a i : Nat)
theorem onek26 : OneT 24 := oneT_of (by kernel_rfl) (by kernel_rfl)
/-- The contract of the engine's round. -/
def KRnd : Prop := ∀ (w : World) (g : Nat) (c : Nat → Value) (a : List Nat), Blk w g 25 327 c → LAt c a → K64 a → Calls Hvah.prog 406 #[.pointer (some ⟨g, 0, none⟩)] w fun e w' => e = .returned (.tuple #[]) ∧ ∃ c', Blk w' g 25 327 c' ∧ LAt c' (kround a) ∧ Mod (· = g) w w'
/-- The contract of the engine's RC. -/
def KRCe : Prop := ∀ (i : Nat) (w : World), i < 24 → Calls Hvah.prog 407 #[.int .u8 i] w fun e w' => e = .returned (.int .u64 (kRC.getD i 0 : Nat)) ∧ Ext w w'
set_option maxRecDepth 100000 in
set_option maxHeartbeats 6400000 in
theorem kFe (HK : KRnd) (HRC : KRCe) {w : World} {g : Nat} {c : Nat → Value} {a : List Nat} (hB : Blk w g 25 327 c) (hA : LAt c a) (hk : K64 a) : Calls Hvah.prog 362 #[.pointer (some ⟨g, 0, none⟩)] w fun e w' => e = .returned (.tuple #[]) ∧ ∃ c', Blk w' g 25 327 c' ∧ LAt c' (kF a) ∧ Mod (· = g) w w' := by
  go_enter Hvah.func362, Hvah.ntmps362
  go_upto_region 2 with (fail)
  try simp only [Act.put]
  go_loopw [2] (fun iv wr => ∃ (i : Nat) (c' : Nat → Value), iv = .int .u8 (i : Nat) ∧ i ≤ 24 ∧ Blk wr g 25 327 c' ∧ LAt c' ((List.range i).foldl kstep a) ∧ K64 ((List.range i).foldl kstep a) ∧ Mod (· = g) w wr) (fun iv _ => 24 - (intOf iv).toNat)
  case atStart => exact ⟨0, c, rfl, by decide, hB, hA, hk, Mod.refl _ _⟩
  case round =>
    obtain ⟨i, c', rfl, hi, bB, hL, hK2, hM⟩ := hrel
    rcases Nat.lt_or_ge i 24 with hlt | hge
    · have hii : (i : Int) < 24 := by omega
      have hst : (List.range (i + 1)).foldl kstep a = kstep ((List.range i).foldl kstep a) i := by rw [List.range_succ, List.foldl_append]; rfl
      have hk3 := kstep_lt hK2 i
      generalize (List.range i).foldl kstep a = A at *
      have HR := fun W (hW : W = wr) => HK W g c' A (by rw [hW]; exact bB) hL hK2
      have HC := fun W => HRC i W hlt
      have hrl := kRC_lt i
      obtain ⟨rc, hrc⟩ : ∃ r, Hid (kRC.getD i 0 = r) := ⟨_, rfl⟩
      rw [hrc.out] at HC hrl
      go_upto_region 5 with (go_at_call 406; refine (HR _ rfl).mono ?_; rintro e w3 ⟨rfl, c3, b3, h3, m3⟩)
      have hx0 := h3 0 (by decide)
      have hl0 := kround_lt hK2 0
      obtain ⟨x0, hx0e⟩ : ∃ x, Hid (kget (kround A) 0 = x) := ⟨_, rfl⟩
      rw [hx0e.out] at hx0 hl0
      have K0 : ∀ W, Ext w3 W → W.cell? ⟨g, 0, none⟩ = some (.int .u64 (x0 : Nat)) := fun W hW => by rw [(b3.ext hW).cell (by decide), hx0]
      have hxor : bits .xor .u64 (x0 : Int) (rc : Int) = ((x0 ^^^ rc : Nat) : Int) := u64_xor_nat x0 rc hl0 hrl
      refine w_ext ?_
      rintro W0 hW0
      refine wp_region_held_drew (S := fun w' => (0 ≤ (w' : World).heap.size)) (by kernel_rfl) (Nat.zero_le _) (fun hHeld => ?_)
      have HH : Hid ((0 ≤ (_ : World).heap.size)) := hHeld
      clear hHeld
      refine wpAnyH_take (i := 0) (v := ?_) rfl (by kernel_rfl) (by kernel_rfl) (by kernel_rfl) (fun _ _ _ h => h) (Or.inl ⟨by rfl, ?_⟩) HH.out ?_
      rotate_left
      · intro w hSw; go_simp; try with_reducible rfl
      change wpAnyH _ _ _ _ _ _ _ (Act.put _ (some 11) _) _
      simp only [Act.put, List.setIfInBounds_toArray, List.set_cons_zero, List.set_cons_succ]
      refine wpAnyH_take (i := 1) (v := ?_) rfl (by kernel_rfl) (by kernel_rfl) (by kernel_rfl) (fun _ _ _ h => h) (Or.inl ⟨by rfl, ?_⟩) HH.out ?_
      rotate_left
      · intro w hSw; go_simp; try with_reducible rfl
      change wpAnyH _ _ _ _ _ _ _ (Act.put _ (some 12) _) _
      simp only [Act.put, List.setIfInBounds_toArray, List.set_cons_zero, List.set_cons_succ]
      refine wpAnyH_take (i := 2) (v := ?_) rfl (by kernel_rfl) (by kernel_rfl) (by kernel_rfl) (fun _ _ _ h => h) (Or.inl ⟨by rfl, ?_⟩) HH.out ?_
      rotate_left
      · intro w hSw; go_simp; try with_reducible rfl
      change wpAnyH _ _ _ _ _ _ _ (Act.put _ (some 13) _) _
      simp only [Act.put, List.setIfInBounds_toArray, List.set_cons_zero, List.set_cons_succ]
      refine wpAnyH_take (i := 4) (v := ?_) rfl (by kernel_rfl) (by kernel_rfl) (by kernel_rfl) (fun _ _ _ h => h) (Or.inl ⟨by rfl, ?_⟩) HH.out ?_
      rotate_left
      · intro w hSw; go_simp; try with_reducible rfl
      change wpAnyH _ _ _ _ _ _ _ (Act.put _ (some 15) _) _
      simp only [Act.put, List.setIfInBounds_toArray, List.set_cons_zero, List.set_cons_succ]
      refine wpAnyH_take (i := 7) (v := ?_) rfl (by kernel_rfl) (by kernel_rfl) (by kernel_rfl) (fun _ _ _ h => h) (Or.inl ⟨by rfl, ?_⟩) HH.out ?_
      rotate_left
      · intro w hSw; go_simp; try with_reducible rfl
      change wpAnyH _ _ _ _ _ _ _ (Act.put _ (some 18) _) _
      simp only [Act.put, List.setIfInBounds_toArray, List.set_cons_zero, List.set_cons_succ]
      refine wpAnyH_ready (rs := [3, 5]) (by kernel_rfl) (by simp) ?_
      refine (AllReadyH.cons rfl (fun K hK => ?_) (AllReadyH.cons rfl (fun K hK => ?_) AllReadyH.nil))
      refine step_any rfl (op_loadK rfl onek26 rfl (K0 _ (by (repeat (first | with_reducible exact Ext.refl _ | with_reducible assumption | refine Ext.trans ?_ (by with_reducible assumption) | refine Ext.alloc ?_ _ _ | refine Ext.drew ?_ | refine Ext.drewN ?_ _)))) ?_)
      refine hK.out _ _ HH.out (fun hHeld => ?_)
      clear hK K HH
      have HH : Hid ((0 ≤ (_ : World).heap.size)) := hHeld
      clear hHeld
      change wpAnyH _ _ _ _ _ _ _ (Act.put _ (some 14) _) _
      simp only [Act.put, List.setIfInBounds_toArray, List.set_cons_zero, List.set_cons_succ]
      refine wpAnyH_ready (rs := [5]) (by kernel_rfl) (by simp) ?_
      refine AllReadyH.cons rfl (fun K hK => ?_) AllReadyH.nil
      go_simp
      go_at_call 407; refine (HC _).mono ?_; rintro e w8 ⟨rfl, he⟩
      refine hK.out _ _ ?_ (fun hHeld => ?_)
      · exact Nat.zero_le _
      clear hK K HH
      have HH : Hid ((0 ≤ (_ : World).heap.size)) := hHeld
      clear hHeld
      refine wpAnyH_take (i := 6) (v := ?_) rfl (by kernel_rfl) (by kernel_rfl) (by kernel_rfl) (fun _ _ _ h => h) (Or.inl ⟨by rfl, ?_⟩) HH.out ?_
      rotate_left
      · intro w hSw; go_simp; try with_reducible rfl
      change wpAnyH _ _ _ _ _ _ _ (Act.put _ (some 17) _) _
      simp only [Act.put, List.setIfInBounds_toArray, List.set_cons_zero, List.set_cons_succ]
      refine wpAnyH_take (i := 8) (v := ?_) rfl (by kernel_rfl) (by kernel_rfl) (by kernel_rfl) (fun _ _ _ h => h) (Or.inl ⟨by rfl, ?_⟩) HH.out ?_
      rotate_left
      · intro w hSw; go_simp; try with_reducible rfl
      change wpAnyH _ _ _ _ _ _ _ (Act.put _ (some 19) _) _
      simp only [Act.put, List.setIfInBounds_toArray, List.set_cons_zero, List.set_cons_succ]
      refine wpAnyH_ready (rs := [9]) (by kernel_rfl) (by simp) ?_
      refine AllReadyH.cons rfl (fun K hK => ?_) AllReadyH.nil
      refine step_any rfl (op_store1 rfl onek26 rfl rfl rfl (b3.ext (by (repeat (first | with_reducible exact Ext.refl _ | with_reducible assumption | refine Ext.trans ?_ (by with_reducible assumption) | refine Ext.alloc ?_ _ _ | refine Ext.drew ?_ | refine Ext.drewN ?_ _)))) (by decide) ?_)
      rintro W7 b7 m7
      refine hK.out _ _ (Nat.zero_le _) (fun hHeld => ?_)
      clear hK K HH
      have HH : Hid ((0 ≤ (_ : World).heap.size)) := hHeld
      clear hHeld
      change wpAnyH _ _ _ _ _ _ _ (Act.put _ none _) _
      simp only [Act.put, List.setIfInBounds_toArray, List.set_cons_zero, List.set_cons_succ]
      refine wpAnyH_done (by kernel_rfl) ?_ _
      · go_wp2
        go_roundw
        case rel =>
          have eW : Ext w3 W0 := by (repeat (first | with_reducible exact Ext.refl _ | with_reducible assumption | refine Ext.trans ?_ (by with_reducible assumption) | refine Ext.alloc ?_ _ _ | refine Ext.drew ?_ | refine Ext.drewN ?_ _))
          refine ⟨i + 1, _, int_eq (by omega), by omega, b7, fun j hj => ?_, by rw [hst]; exact hk3, (hM.trans m3).trans (((show Ext w3 w8 by (repeat (first | with_reducible exact Ext.refl _ | with_reducible assumption | refine Ext.trans ?_ (by with_reducible assumption) | refine Ext.alloc ?_ _ _ | refine Ext.drew ?_ | refine Ext.drewN ?_ _))).mod _).trans m7)⟩
          rw [hst]
          unfold kstep
          rw [kget_set _ _ _ _ (by rw [kround_len]; decide)]
          by_cases e : j = 0
          · subst e
            rw [if_pos rfl, hx0e.out, hrc.out]
            exact (updv_same _ _ _).trans (by first | exact int_eq hxor | rfl)
          · rw [if_neg e, updv_ne _ _ e]; exact h3 j hj
        case measure => simp [intOf]; omega
      go_simp
      go_at_call 407; refine (HC _).mono ?_; rintro e w8 ⟨rfl, he⟩
      refine hK.out _ _ ?_ (fun hHeld => ?_)
      · exact Nat.zero_le _
      clear hK K HH
      have HH : Hid ((0 ≤ (_ : World).heap.size)) := hHeld
      clear hHeld
      refine wpAnyH_ready (rs := [3]) (by kernel_rfl) (by simp) ?_
      refine AllReadyH.cons rfl (fun K hK => ?_) AllReadyH.nil
      refine step_any rfl (op_loadK rfl onek26 rfl (K0 _ (by (repeat (first | with_reducible exact Ext.refl _ | with_reducible assumption | refine Ext.trans ?_ (by with_reducible assumption) | refine Ext.alloc ?_ _ _ | refine Ext.drew ?_ | refine Ext.drewN ?_ _)))) ?_)
      refine hK.out _ _ HH.out (fun hHeld => ?_)
      clear hK K HH
      have HH : Hid ((0 ≤ (_ : World).heap.size)) := hHeld
      clear hHeld
      change wpAnyH _ _ _ _ _ _ _ (Act.put _ (some 14) _) _
      simp only [Act.put, List.setIfInBounds_toArray, List.set_cons_zero, List.set_cons_succ]
      refine wpAnyH_take (i := 6) (v := ?_) rfl (by kernel_rfl) (by kernel_rfl) (by kernel_rfl) (fun _ _ _ h => h) (Or.inl ⟨by rfl, ?_⟩) HH.out ?_
      rotate_left
      · intro w hSw; go_simp; try with_reducible rfl
      change wpAnyH _ _ _ _ _ _ _ (Act.put _ (some 17) _) _
      simp only [Act.put, List.setIfInBounds_toArray, List.set_cons_zero, List.set_cons_succ]
      refine wpAnyH_take (i := 8) (v := ?_) rfl (by kernel_rfl) (by kernel_rfl) (by kernel_rfl) (fun _ _ _ h => h) (Or.inl ⟨by rfl, ?_⟩) HH.out ?_
      rotate_left
      · intro w hSw; go_simp; try with_reducible rfl
      change wpAnyH _ _ _ _ _ _ _ (Act.put _ (some 19) _) _
      simp only [Act.put, List.setIfInBounds_toArray, List.set_cons_zero, List.set_cons_succ]
      refine wpAnyH_ready (rs := [9]) (by kernel_rfl) (by simp) ?_
      refine AllReadyH.cons rfl (fun K hK => ?_) AllReadyH.nil
      refine step_any rfl (op_store1 rfl onek26 rfl rfl rfl (b3.ext (by (repeat (first | with_reducible exact Ext.refl _ | with_reducible assumption | refine Ext.trans ?_ (by with_reducible assumption) | refine Ext.alloc ?_ _ _ | refine Ext.drew ?_ | refine Ext.drewN ?_ _)))) (by decide) ?_)
      rintro W7 b7 m7
      refine hK.out _ _ (Nat.zero_le _) (fun hHeld => ?_)
      clear hK K HH
      have HH : Hid ((0 ≤ (_ : World).heap.size)) := hHeld
      clear hHeld
      change wpAnyH _ _ _ _ _ _ _ (Act.put _ none _) _
      simp only [Act.put, List.setIfInBounds_toArray, List.set_cons_zero, List.set_cons_succ]
      refine wpAnyH_done (by kernel_rfl) ?_ _
      · go_wp2
        go_roundw
        case rel =>
          have eW : Ext w3 W0 := by (repeat (first | with_reducible exact Ext.refl _ | with_reducible assumption | refine Ext.trans ?_ (by with_reducible assumption) | refine Ext.alloc ?_ _ _ | refine Ext.drew ?_ | refine Ext.drewN ?_ _))
          refine ⟨i + 1, _, int_eq (by omega), by omega, b7, fun j hj => ?_, by rw [hst]; exact hk3, (hM.trans m3).trans (((show Ext w3 w8 by (repeat (first | with_reducible exact Ext.refl _ | with_reducible assumption | refine Ext.trans ?_ (by with_reducible assumption) | refine Ext.alloc ?_ _ _ | refine Ext.drew ?_ | refine Ext.drewN ?_ _))).mod _).trans m7)⟩
          rw [hst]
          unfold kstep
          rw [kget_set _ _ _ _ (by rw [kround_len]; decide)]
          by_cases e : j = 0
          · subst e
            rw [if_pos rfl, hx0e.out, hrc.out]
            exact (updv_same _ _ _).trans (by first | exact int_eq hxor | rfl)
          · rw [if_neg e, updv_ne _ _ e]; exact h3 j hj
        case measure => simp [intOf]; omega
    · have hii : ¬ (i : Int) < 24 := by omega
      obtain rfl : i = 24 := by omega
      go_wp2
      go_end0
      exact ⟨rfl, c', bB, hL, hM⟩
end Go.Proofs.YgvahwGreat
