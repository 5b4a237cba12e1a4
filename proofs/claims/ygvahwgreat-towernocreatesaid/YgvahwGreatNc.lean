import Derived.Test.YgvahwGreatNb
namespace Go.Proofs.YgvahwGreat
open Go.RowKit
set_option linter.unusedSimpArgs false
theorem ret_4 {a b c : Int} {o : Bool} {a' b' c' : Int} {o' : Bool} (h1 : a = a') (h2 : b = b') (h3 : c = c') (h4 : o = o') : Ending.returned (.tuple #[.int .u64 a, .int .u64 b, .int .u64 c, .bool o]) = .returned (.tuple #[.int .u64 a', .int .u64 b', .int .u64 c', .bool o']) := by rw [h1, h2, h3, h4]
/-- What lengths gives. -/
def lensV (L : List Nat) : Value := match natLens L with
  | none => .tuple #[.int .u64 0, .int .u64 0, .int .u64 0, .bool false]
  | some (b, e, m) => .tuple #[.int .u64 (b : Nat), .int .u64 (e : Nat), .int .u64 (m : Nat), .bool true]
theorem lens_no {L : List Nat} {k : Nat} (hk : k < 3) (h : 64 < natPart L (32 * k) 32) : natLens L = none := by
  unfold natLens
  have : k = 0 ∨ k = 1 ∨ k = 2 := by omega
  rcases this with rfl | rfl | rfl <;> simp at h ⊢ <;> intros <;> omega
theorem lens_yes {L : List Nat} (h : ∀ k, k < 3 → natPart L (32 * k) 32 ≤ 64) : natLens L = some (natPart L 0 32, natPart L 32 32, natPart L 64 32) := by
  unfold natLens
  have h0 := h 0 (by decide)
  have h1 := h 1 (by decide)
  have h2 := h 2 (by decide)
  simp at h0 h1 h2
  simp
  omega
section
variable {O O' : Nat → Prop} {w : World} {v : Value} {L : List Nat}
set_option maxRecDepth 100000 in
set_option maxHeartbeats 6400000 in
theorem yLengths (hO : Small O w) (h : NL O' w v L) : Calls Hvah.prog 228 #[v] w fun e w' => e = .returned (lensV L) ∧ Ext w w' := by
  have hB0 := blk_new w #[.int .u64 0, .int .u64 0, .int .u64 0] 395 (.int .u64 0)
  have hE0 : Ext w (w.alloc (.cells #[.int .u64 0, .int .u64 0, .int .u64 0] 395)) := (Ext.refl w).alloc _ _
  go_enter Hvah.func228, Hvah.ntmps228
  go_wp2
  go_loopw [9] (fun ix wr => ∃ k cc, k ≤ 3 ∧ ix = .int .i64 (k : Nat) ∧ Ext w wr ∧ Blk wr w.heap.size 3 395 cc ∧ (∀ i, i < k → cc i = .int .u64 (natPart L (32 * i) 32 : Nat) ∧ natPart L (32 * i) 32 ≤ 64)) (fun ix _ => 3 - (intOf ix).toNat)
  case atStart => exact ⟨0, _, by omega, rfl, hE0, hB0, fun i hi => absurd hi (Nat.not_lt_zero _)⟩
  case round =>
    obtain ⟨k, cc, hk, rfl, hE, hB, hc⟩ := hrel
    by_cases hlt : k < 3
    · have hki : (k : Int) < 3 := by omega
      have i1 : IntKind.u64.wrap (32 * (k : Int)) = ((32 * k : Nat) : Int) := by rw [IntKind.wrap_u64]; omega
      have HP := fun W (hW : Ext w W) => yPart (hO.ext hW) (h.ext hW) (32 * k) 32 (by omega) (by decide)
      simp only [Int.cast_ofNat_Int] at HP
      have hck := hc
      obtain ⟨P, hP⟩ : ∃ P, Hid (natPart L (32 * k) 32 = P) := ⟨_, rfl⟩
      have hPe : bev (cutA L (32 * k) 32) = P := hP.out
      have hYY : w.heap.size < wr.heap.size := hB.lt
      by_cases h64 : P ≤ 64
      · have hcm : cmpI P 64 ≤ 0 := (cmpI_nn P 64).2 h64
        have hcm2 : ¬ 0 < cmpI P 64 := by omega
        have HS := fun W v (hv : NV O W v P) => ySmall hv
        rw [if_pos (show P < 18446744073709551616 by omega)] at HS
        have HQ : Hid (_ = _) := hPe
        clear hPe
        go_wp2_with (first
          | (go_at_call 230; refine (HP _ hE).mono ?_; rintro e w1 ⟨r1, rfl, hr1, he1⟩)
          | (go_at_call 43; refine (nFromBE (hO.ext (hE.trans he1)) hr1).mono ?_; rintro e w2 ⟨r2, rfl, hr2, he2⟩; replace hr2 := hr2.cast HQ.out)
          | (go_at_call 42; refine (nNum O 64 _ (hO.ext ((hE.trans he1).trans he2)) (by decide)).mono ?_; rintro e w3 ⟨r3, rfl, hr3, he3⟩)
          | (go_at_call 130; refine (nCmp O _ _ _ _ _ (hr2.ext he3) hr3).mono ?_; rintro e w4 ⟨rfl, hdr⟩; have he4 := drew_ext hdr; clear hdr)
          | (go_at_call 34; refine (HS _ _ ((hr2.ext he3).ext he4)).mono ?_; rintro e w5 ⟨rfl, hww⟩; replace hww := hww.symm; subst hww)
          | ((with_reducible (refine Veil.out ?_; apply wl_store1 one26)); (case hx => rfl); (case hy => rfl); (case h1 => rfl); (case hB => exact hB.ext (((he1.trans he2).trans he3).trans he4)); (case ho => exact hlt); rintro W5 hB5 hm5))
        refine ⟨⟨k + 1, _, by omega, int_eq (by omega), Ext.trans_mod (hE.trans (((he1.trans he2).trans he3).trans he4)) hm5 (fun i hi => by have hi2 : i = w.heap.size := hi; rw [hi2]; exact Nat.le_refl _), hB5, fun i hi => ?_⟩, by simp [intOf]; omega⟩
        by_cases hik : i = k
        · subst hik
          rw [updv_same, hP.out]
          exact ⟨rfl, h64⟩
        · rw [updv_ne _ _ hik]
          exact hck i (by omega)
      · have hcm : 0 < cmpI P 64 := (cmpI_p P 64).2 (by omega)
        have HQ : Hid (_ = _) := hPe
        clear hPe
        have hno : Hid (lensV L = .tuple #[.int .u64 0, .int .u64 0, .int .u64 0, .bool false]) := by
          unfold Hid lensV
          rw [lens_no hlt (by rw [hP.out]; omega)]
        go_wp2_with (first
          | (go_at_call 230; refine (HP _ hE).mono ?_; rintro e w1 ⟨r1, rfl, hr1, he1⟩)
          | (go_at_call 43; refine (nFromBE (hO.ext (hE.trans he1)) hr1).mono ?_; rintro e w2 ⟨r2, rfl, hr2, he2⟩; replace hr2 := hr2.cast HQ.out)
          | (go_at_call 42; refine (nNum O 64 _ (hO.ext ((hE.trans he1).trans he2)) (by decide)).mono ?_; rintro e w3 ⟨r3, rfl, hr3, he3⟩)
          | (go_at_call 130; refine (nCmp O _ _ _ _ _ (hr2.ext he3) hr3).mono ?_; rintro e w4 ⟨rfl, hdr⟩; have he4 := drew_ext hdr; clear hdr))
        refine bodyPost_ret (v := .tuple #[.int .u64 0, .int .u64 0, .int .u64 0, .bool false]) (by simp [results, Hvah.results228, go_sem]; try rfl) rfl ?_
        exact ⟨by rw [hno.out], hE.trans (((he1.trans he2).trans he3).trans he4)⟩
    · have hk3 : k = 3 := by omega
      subst hk3
      have c0 := (hc 0 (by decide)).1
      have c1 := (hc 1 (by decide)).1
      have c2 := (hc 2 (by decide)).1
      have hys : Hid (lensV L = .tuple #[.int .u64 (natPart L 0 32 : Nat), .int .u64 (natPart L 32 32 : Nat), .int .u64 (natPart L 64 32 : Nat), .bool true]) := by
        unfold Hid lensV
        rw [lens_yes (fun i hi => (hc i hi).2)]
      clear hc
      go_wp2
      refine w_ext ?_
      rintro W0 hW0
      have hBz := hB.ext (show Ext wr W0 by (repeat (first | with_reducible exact Ext.refl _ | with_reducible assumption | refine Ext.trans ?_ (by with_reducible assumption) | refine Ext.alloc ?_ _ _ | refine Ext.drew ?_ | refine Ext.drewN ?_ _)))
      refine wp_region_held_drew (S := fun w' => Ext W0 w') (by kernel_rfl) (Ext.refl _).drew (fun hHeld => ?_)
      have HH : Hid (Ext W0 _) := hHeld
      clear hHeld
      refine wpAnyH_take (i := 0) (v := ?_) rfl (by kernel_rfl) (by kernel_rfl) (by kernel_rfl) (fun _ _ _ h => h) (Or.inl ⟨by rfl, ?_⟩) HH.out ?_
      rotate_left
      · intro w hSw; go_simp; try with_reducible rfl
      change wpAnyH _ _ _ _ _ _ _ (Act.put _ (some 27) _) _
      simp only [Act.put, List.setIfInBounds_toArray, List.set_cons_zero, List.set_cons_succ]
      refine wpAnyH_take (i := 1) rfl (by kernel_rfl) (by kernel_rfl) (by kernel_rfl) (fun _ _ _ h => h) (yieldsIf_load1 (by rfl) _ _ rfl _ _ rfl one26 _ (fun w hSw => (hBz.ext hSw).cell (i := 0) (by decide))) HH.out ?_
      change wpAnyH _ _ _ _ _ _ _ (Act.put _ (some 28) _) _
      simp only [Act.put, List.setIfInBounds_toArray, List.set_cons_zero, List.set_cons_succ]
      refine wpAnyH_take (i := 2) (v := ?_) rfl (by kernel_rfl) (by kernel_rfl) (by kernel_rfl) (fun _ _ _ h => h) (Or.inl ⟨by rfl, ?_⟩) HH.out ?_
      rotate_left
      · intro w hSw; go_simp; try with_reducible rfl
      change wpAnyH _ _ _ _ _ _ _ (Act.put _ (some 29) _) _
      simp only [Act.put, List.setIfInBounds_toArray, List.set_cons_zero, List.set_cons_succ]
      refine wpAnyH_take (i := 3) rfl (by kernel_rfl) (by kernel_rfl) (by kernel_rfl) (fun _ _ _ h => h) (yieldsIf_load1 (by rfl) _ _ rfl _ _ rfl one26 _ (fun w hSw => (hBz.ext hSw).cell (i := 1) (by decide))) HH.out ?_
      change wpAnyH _ _ _ _ _ _ _ (Act.put _ (some 30) _) _
      simp only [Act.put, List.setIfInBounds_toArray, List.set_cons_zero, List.set_cons_succ]
      refine wpAnyH_take (i := 4) (v := ?_) rfl (by kernel_rfl) (by kernel_rfl) (by kernel_rfl) (fun _ _ _ h => h) (Or.inl ⟨by rfl, ?_⟩) HH.out ?_
      rotate_left
      · intro w hSw; go_simp; try with_reducible rfl
      change wpAnyH _ _ _ _ _ _ _ (Act.put _ (some 31) _) _
      simp only [Act.put, List.setIfInBounds_toArray, List.set_cons_zero, List.set_cons_succ]
      refine wpAnyH_take (i := 5) rfl (by kernel_rfl) (by kernel_rfl) (by kernel_rfl) (fun _ _ _ h => h) (yieldsIf_load1 (by rfl) _ _ rfl _ _ rfl one26 _ (fun w hSw => (hBz.ext hSw).cell (i := 2) (by decide))) HH.out ?_
      change wpAnyH _ _ _ _ _ _ _ (Act.put _ (some 32) _) _
      simp only [Act.put, List.setIfInBounds_toArray, List.set_cons_zero, List.set_cons_succ]
      refine wpAnyH_take (i := 6) (v := ?_) rfl (by kernel_rfl) (by kernel_rfl) (by kernel_rfl) (fun _ _ _ h => h) (Or.inl ⟨by rfl, ?_⟩) HH.out ?_
      rotate_left
      · intro w hSw; go_simp; try with_reducible rfl
      change wpAnyH _ _ _ _ _ _ _ (Act.put _ (some 2) _) _
      simp only [Act.put, List.setIfInBounds_toArray, List.set_cons_zero, List.set_cons_succ]
      refine wpAnyH_take (i := 7) (v := ?_) rfl (by kernel_rfl) (by kernel_rfl) (by kernel_rfl) (fun _ _ _ h => h) (Or.inl ⟨by rfl, ?_⟩) HH.out ?_
      rotate_left
      · intro w hSw; go_simp; try with_reducible rfl
      change wpAnyH _ _ _ _ _ _ _ (Act.put _ (some 3) _) _
      simp only [Act.put, List.setIfInBounds_toArray, List.set_cons_zero, List.set_cons_succ]
      refine wpAnyH_take (i := 8) (v := ?_) rfl (by kernel_rfl) (by kernel_rfl) (by kernel_rfl) (fun _ _ _ h => h) (Or.inl ⟨by rfl, ?_⟩) HH.out ?_
      rotate_left
      · intro w hSw; go_simp; try with_reducible rfl
      change wpAnyH _ _ _ _ _ _ _ (Act.put _ (some 4) _) _
      simp only [Act.put, List.setIfInBounds_toArray, List.set_cons_zero, List.set_cons_succ]
      refine wpAnyH_take (i := 9) (v := ?_) rfl (by kernel_rfl) (by kernel_rfl) (by kernel_rfl) (fun _ _ _ h => h) (Or.inl ⟨by rfl, ?_⟩) HH.out ?_
      rotate_left
      · intro w hSw; go_simp; try with_reducible rfl
      change wpAnyH _ _ _ _ _ _ _ (Act.put _ (some 5) _) _
      simp only [Act.put, List.setIfInBounds_toArray, List.set_cons_zero, List.set_cons_succ]
      refine wpAnyH_done (by kernel_rfl) ?_ _
      go_wp2
      refine bodyPost_ret (v := .tuple #[.int .u64 (natPart L 0 32 : Nat), .int .u64 (natPart L 32 32 : Nat), .int .u64 (natPart L 64 32 : Nat), .bool true]) (by simp [results, Hvah.results228, go_sem, c0, c1, c2]; try rfl) rfl ?_
      exact ⟨by rw [hys.out], by (repeat (first | with_reducible exact Ext.refl _ | with_reducible assumption | refine Ext.trans ?_ (by with_reducible assumption) | refine Ext.alloc ?_ _ _ | refine Ext.drew ?_ | refine Ext.drewN ?_ _))⟩
end
end Go.Proofs.YgvahwGreat
