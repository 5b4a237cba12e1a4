import Derived.Test.YgvahwGreatAp
namespace Go.Proofs.YgvahwGreat
open Go.RowKit
set_option linter.unusedSimpArgs false

section
variable {w : World} {g : Nat} {r : Array Value}
set_option maxRecDepth 100000 in
set_option maxHeartbeats 6400000 in
theorem eStepW (Q : Value → World → Prop) (H : Calls Hvah.prog 46 #[.pointer (some ⟨g, 0, none⟩)] w fun e w' => ∃ v, e = .returned v ∧ Q v w') : Calls Hvah.prog 25 #[.pointer (some ⟨g, 0, none⟩)] w fun e w' => ∃ v, e = .returned v ∧ Q v w' := by
  go_enter Hvah.func25, Hvah.ntmps25
  go_wp2_with (go_at_call 46; refine H.mono ?_; rintro e w1 ⟨v, rfl, hQ⟩)
  go_ret
  exact ⟨_, rfl, hQ⟩
set_option maxRecDepth 100000 in
set_option maxHeartbeats 6400000 in
theorem eExportW (Q : Value → World → Prop) (H : Calls Hvah.prog 32 #[.pointer (some ⟨g, 2435, none⟩)] w fun e w' => ∃ v, e = .returned v ∧ Q v w') : Calls Hvah.prog 14 #[.pointer (some ⟨g, 0, none⟩)] w fun e w' => ∃ v, e = .returned v ∧ Q v w' := by
  go_enter Hvah.func14, Hvah.ntmps14
  go_wp2_with (go_at_call 32; refine H.mono ?_; rintro e w1 ⟨v, rfl, hQ⟩)
  go_ret
  exact ⟨_, rfl, hQ⟩
set_option maxRecDepth 100000 in
set_option maxHeartbeats 6400000 in
theorem eBeginW (hr : r.size = 174) (Q : Value → World → Prop) (H : ∀ W, Ext w W → Calls Hvah.prog 45 #[.pointer (some ⟨g, 0, none⟩), .agg r] W fun e w' => ∃ v, e = .returned v ∧ Q v w') : Calls Hvah.prog 24 #[.pointer (some ⟨g, 0, none⟩), .agg r] w fun e w' => ∃ v, e = .returned v ∧ Q v w' := by
  go_enter Hvah.func24, Hvah.ntmps24
  go_upto_region 1 with (first | ((with_reducible (refine Veil.out ?_; apply wl_boxB)); (case hx => rfl); (case hn => exact hr); rintro B1 W1 e1 b1 g1))
  refine w_ext ?_
  rintro W0 hW0
  refine wp_region_held_drew (S := fun w' => (0 ≤ (w' : World).heap.size)) (by kernel_rfl) (Nat.zero_le _) (fun hHeld => ?_)
  have HH : Hid ((0 ≤ (_ : World).heap.size)) := hHeld
  clear hHeld
  refine wpAnyH_take (i := 0) (v := ?_) rfl (by kernel_rfl) (by kernel_rfl) (by kernel_rfl) (fun _ _ _ h => h) (Or.inl ⟨by rfl, ?_⟩) HH.out ?_
  rotate_left
  · intro w hSw; go_simp; try with_reducible rfl
  change wpAnyH _ _ _ _ _ _ _ (Act.put _ (some 5) _) _
  simp only [Act.put, List.setIfInBounds_toArray, List.set_cons_zero, List.set_cons_succ]
  refine wpAnyH_take (i := 1) (v := ?_) rfl (by kernel_rfl) (by kernel_rfl) (by kernel_rfl) (fun _ _ _ h => h) (Or.inl ⟨by rfl, ?_⟩) HH.out ?_
  rotate_left
  · intro w hSw; go_simp; try with_reducible rfl
  change wpAnyH _ _ _ _ _ _ _ (Act.put _ (some 6) _) _
  simp only [Act.put, List.setIfInBounds_toArray, List.set_cons_zero, List.set_cons_succ]
  refine wpAnyH_take (i := 2) (v := ?_) rfl (by kernel_rfl) (by kernel_rfl) (by kernel_rfl) (fun _ _ _ h => h) (Or.inl ⟨by rfl, ?_⟩) HH.out ?_
  rotate_left
  · intro w hSw; go_simp; try with_reducible rfl
  change wpAnyH _ _ _ _ _ _ _ (Act.put _ (some 7) _) _
  simp only [Act.put, List.setIfInBounds_toArray, List.set_cons_zero, List.set_cons_succ]
  refine wpAnyH_ready (rs := [3]) (by kernel_rfl) (by simp) ?_
  refine AllReadyH.cons rfl (fun K hK => ?_) AllReadyH.nil
  refine step_any rfl (op_loadRow rfl rt35v rfl (b1.ext (by (repeat (first | with_reducible exact Ext.refl _ | with_reducible assumption | refine Ext.trans ?_ (by with_reducible assumption) | refine Ext.alloc ?_ _ _ | refine Ext.drew ?_ | refine Ext.drewN ?_ _)))) (by decide) ?_)
  rw [rowOf_cf hr]
  refine hK.out _ _ (Nat.zero_le _) (fun hHeld => ?_)
  clear hK K HH
  have HH : Hid (0 ≤ (_ : World).heap.size) := hHeld
  clear hHeld
  change wpAnyH _ _ _ _ _ _ _ (Act.put _ (some 8) _) _
  simp only [Act.put, List.setIfInBounds_toArray, List.set_cons_zero, List.set_cons_succ]
  refine wpAnyH_ready (rs := [4]) (by kernel_rfl) (by simp) ?_
  refine AllReadyH.cons rfl (fun K hK => ?_) AllReadyH.nil
  go_simp
  go_at_call 45; refine (H _ (e1.trans (by (repeat (first | with_reducible exact Ext.refl _ | with_reducible assumption | refine Ext.trans ?_ (by with_reducible assumption) | refine Ext.alloc ?_ _ _ | refine Ext.drew ?_ | refine Ext.drewN ?_ _))))).mono ?_; rintro e w5 ⟨v, rfl, hQ⟩
  refine hK.out _ _ ?_ (fun hHeld => ?_)
  · exact Nat.zero_le _
  clear hK K HH
  have HH : Hid ((0 ≤ (_ : World).heap.size)) := hHeld
  clear hHeld
  refine wpAnyH_take (i := 5) (v := ?_) rfl (by kernel_rfl) (by kernel_rfl) (by kernel_rfl) (fun _ _ _ h => h) (Or.inl ⟨by rfl, ?_⟩) HH.out ?_
  rotate_left
  · intro w hSw; go_simp; try with_reducible rfl
  change wpAnyH _ _ _ _ _ _ _ (Act.put _ (some 4) _) _
  simp only [Act.put, List.setIfInBounds_toArray, List.set_cons_zero, List.set_cons_succ]
  refine wpAnyH_done (by kernel_rfl) ?_ _
  go_wp2
  go_ret
  exact ⟨_, rfl, hQ⟩
end
section
variable {w : World} {v : Value} {r : Array Value}
set_option maxRecDepth 100000 in
set_option maxHeartbeats 6400000 in
theorem lBothGood (hr : r.size = 120) (A B : Nat → World → Prop) (hA : ∀ g W W', A g W → Ext W W' → A g W') (hB : ∀ g W W', B g W → Ext W W' → B g W')
    (HE : ∀ W, Ext w W → Calls Hvah.prog 21 #[v, .agg r] W fun e w' => ∃ g, e = .returned (.tuple #[.pointer (some ⟨g, 0, none⟩), .bool true]) ∧ A g w' ∧ Ext W w')
    (HY : ∀ W, Ext w W → Calls Hvah.prog 22 #[v, .agg r] W fun e w' => ∃ g, e = .returned (.tuple #[.pointer (some ⟨g, 0, none⟩), .bool true]) ∧ B g w' ∧ Ext W w')
    (HN : ∀ W, Ext w W → Calls Hvah.prog 23 #[v, .agg r, .bool true, .bool true] W fun e w' => e = .returned (.bool true) ∧ Ext W w') :
    Calls Hvah.prog 9 #[v, .agg r] w fun e w' => ∃ g Y, e = .returned (.tuple #[.pointer (some ⟨g, 0, none⟩), .pointer (some ⟨Y, 0, none⟩), .bool true]) ∧ A g w' ∧ B Y w' ∧ Ext w w' := by
  go_enter Hvah.func9, Hvah.ntmps9
  go_wp2_with (first
    | ((with_reducible (refine Veil.out ?_; apply wl_boxB)); (case hx => rfl); (case hn => exact hr); rintro B3 W3 e3 b3 g3)
    | ((with_reducible (refine Veil.out ?_; apply wl_loadRow rt31i)); (case hx => rfl); (case hB => exact b3.ext (by (repeat (first | with_reducible exact Ext.refl _ | with_reducible assumption | refine Ext.trans ?_ (by with_reducible assumption) | refine Ext.alloc ?_ _ _ | refine Ext.drew ?_ | refine Ext.drewN ?_ _)))); (case hi => decide); rw [rowOf_cf hr])
    | (go_at_call 21; refine (HE _ (by (repeat (first | with_reducible exact Ext.refl _ | with_reducible assumption | refine Ext.trans ?_ (by with_reducible assumption) | refine Ext.alloc ?_ _ _ | refine Ext.drew ?_ | refine Ext.drewN ?_ _)))).mono ?_; rintro e w4 ⟨g, rfl, hAg, e4⟩)
    | (go_at_call 22; refine (HY _ (by (repeat (first | with_reducible exact Ext.refl _ | with_reducible assumption | refine Ext.trans ?_ (by with_reducible assumption) | refine Ext.alloc ?_ _ _ | refine Ext.drew ?_ | refine Ext.drewN ?_ _)))).mono ?_; rintro e w5 ⟨Y, rfl, hBY, e5⟩)
    | (go_at_call 23; refine (HN _ (by (repeat (first | with_reducible exact Ext.refl _ | with_reducible assumption | refine Ext.trans ?_ (by with_reducible assumption) | refine Ext.alloc ?_ _ _ | refine Ext.drew ?_ | refine Ext.drewN ?_ _)))).mono ?_; rintro e w6 ⟨rfl, e6⟩))
  go_ret3
  exact ⟨g, Y, rfl, hA _ _ _ hAg (e5.trans e6), hB _ _ _ hBY e6, by (repeat (first | with_reducible exact Ext.refl _ | with_reducible assumption | refine Ext.trans ?_ (by with_reducible assumption) | refine Ext.alloc ?_ _ _ | refine Ext.drew ?_ | refine Ext.drewN ?_ _))⟩
set_option maxRecDepth 100000 in
set_option maxHeartbeats 6400000 in
theorem lBothBad (hr : r.size = 120)
    (HE : ∀ W, Ext w W → Calls Hvah.prog 21 #[v, .agg r] W fun e w' => e = .returned (.tuple #[.pointer none, .bool false]) ∧ Ext W w')
    (HY : ∀ W, Ext w W → Calls Hvah.prog 22 #[v, .agg r] W fun e w' => e = .returned (.tuple #[.pointer none, .bool false]) ∧ Ext W w')
    (HN : ∀ W, Ext w W → Calls Hvah.prog 23 #[v, .agg r, .bool false, .bool false] W fun e w' => e = .returned (.bool true) ∧ Ext W w') :
    Calls Hvah.prog 9 #[v, .agg r] w fun e w' => e = .returned (.tuple #[.pointer none, .pointer none, .bool true]) ∧ Ext w w' := by
  go_enter Hvah.func9, Hvah.ntmps9
  go_wp2_with (first
    | ((with_reducible (refine Veil.out ?_; apply wl_boxB)); (case hx => rfl); (case hn => exact hr); rintro B3 W3 e3 b3 g3)
    | ((with_reducible (refine Veil.out ?_; apply wl_loadRow rt31i)); (case hx => rfl); (case hB => exact b3.ext (by (repeat (first | with_reducible exact Ext.refl _ | with_reducible assumption | refine Ext.trans ?_ (by with_reducible assumption) | refine Ext.alloc ?_ _ _ | refine Ext.drew ?_ | refine Ext.drewN ?_ _)))); (case hi => decide); rw [rowOf_cf hr])
    | (go_at_call 21; refine (HE _ (by (repeat (first | with_reducible exact Ext.refl _ | with_reducible assumption | refine Ext.trans ?_ (by with_reducible assumption) | refine Ext.alloc ?_ _ _ | refine Ext.drew ?_ | refine Ext.drewN ?_ _)))).mono ?_; rintro e w4 ⟨rfl, e4⟩)
    | (go_at_call 22; refine (HY _ (by (repeat (first | with_reducible exact Ext.refl _ | with_reducible assumption | refine Ext.trans ?_ (by with_reducible assumption) | refine Ext.alloc ?_ _ _ | refine Ext.drew ?_ | refine Ext.drewN ?_ _)))).mono ?_; rintro e w5 ⟨rfl, e5⟩)
    | (go_at_call 23; refine (HN _ (by (repeat (first | with_reducible exact Ext.refl _ | with_reducible assumption | refine Ext.trans ?_ (by with_reducible assumption) | refine Ext.alloc ?_ _ _ | refine Ext.drew ?_ | refine Ext.drewN ?_ _)))).mono ?_; rintro e w6 ⟨rfl, e6⟩))
  go_ret3
  exact ⟨rfl, by (repeat (first | with_reducible exact Ext.refl _ | with_reducible assumption | refine Ext.trans ?_ (by with_reducible assumption) | refine Ext.alloc ?_ _ _ | refine Ext.drew ?_ | refine Ext.drewN ?_ _))⟩
end
end Go.Proofs.YgvahwGreat
