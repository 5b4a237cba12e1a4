import Derived.Test.YgvahwGreatDz0
namespace Go.Proofs.YgvahwGreat
open Go.RowKit
set_option linter.unusedSimpArgs false
theorem amag_lt {x : Nat} (hx : x < P256) : amag x < P256 := by
  unfold amag
  split
  · exact Nat.mod_lt _ (by decide)
  · exact hx
theorem dmod_lt256 {x y : Nat} (hx : x < P256) : dmod x y < P256 := by
  unfold dmod
  split
  · exact pos256
  · exact Nat.lt_of_le_of_lt (Nat.mod_le _ _) hx
theorem uSigned' (x : Nat) (b : Bool) (w : World) (hx : x < P256) : Calls Hvah.prog 384 #[wv x, .bool b] w fun e w' => e = .returned (wv (asg x b)) ∧ Ext w w' := by
  have h := uSigned x b w hx
  unfold asg
  exact h
theorem uMagn (x : Nat) (w : World) (hx : x < P256) : Calls Hvah.prog 384 #[wv x, .bool (negW x)] w fun e w' => e = .returned (wv (amag x)) ∧ Ext w w' := by
  have h := uSigned x (negW x) w hx
  unfold amag
  exact h
set_option maxRecDepth 100000 in
set_option maxHeartbeats 6400000 in
theorem uSDiv (x y : Nat) (w : World) (hx : x < P256) (hy : y < P256) : Calls Hvah.prog 283 #[wv x, wv y] w fun e w' => e = .returned (wv (asg (amag x / amag y) (negW x != negW y))) ∧ Ext w w' := by
  have HN1 := fun W => uNegative x W hx
  have HN2 := fun W => uNegative y W hy
  have HM1 := fun W => uMagn x W hx
  have HM2 := fun W => uMagn y W hy
  have HQ := fun W => uDiv (amag x) (amag y) W (amag_lt hx) (amag_lt hy)
  have hqv : amag x / amag y < P256 := Nat.lt_of_le_of_lt (Nat.div_le_self _ _) (amag_lt hx)
  have HS := fun W b => uSigned' (amag x / amag y) b W hqv
  obtain ⟨qv, hqv2⟩ : ∃ q, Hid (amag x / amag y = q) := ⟨_, rfl⟩
  rw [hqv2.out] at HQ HS hqv
  rw [hqv2.out]
  clear hqv2
  generalize amag x = mx at *
  generalize amag y = my at *
  generalize negW x = nx at *
  generalize negW y = ny at *
  go_enter Hvah.func283, Hvah.ntmps283
  go_upto_region 1 with (first | ((with_reducible (refine Veil.out ?_; apply wl_boxW (x := Operand.tmp 0))); (case hx => rfl); rintro B1 W1 c1 e1 b1 a1 g1) | ((with_reducible (refine Veil.out ?_; apply wl_boxW (x := Operand.tmp 1))); (case hx => rfl); rintro B2 W2 c2 e2 b2 a2 g2) | ((with_reducible (refine Veil.out ?_; apply wl_allocW (dst := some 4))); rintro B3 W3 c3 e3 b3 _ g3))
  refine w_ext ?_
  rintro W0 hW0
  refine' joinB (P := _) (Fc := fun B W1 c1 => Ext W0 W1 ∧ Blk W1 B 4 79 c1 ∧ WAt c1 0 (qv) ∧ W0.heap.size ≤ B) (fun key => _) _
  rotate_left
  refine wp_region_held_drew (S := fun w' => Ext W0 w') (by kernel_rfl) (Ext.refl _).drew (fun hHeld => ?_)
  have HH : Hid (Ext W0 _) := hHeld
  clear hHeld
  refine wpAnyH_take (i := 0) rfl (by kernel_rfl) (by kernel_rfl) (by kernel_rfl) (fun _ _ _ h => h) (yields_W (by rfl) rfl rfl (fun w hSw => Blk.ext (by with_reducible assumption) (Ext.trans (by (repeat (first | with_reducible exact Ext.refl _ | with_reducible assumption | refine Ext.trans ?_ (by with_reducible assumption) | refine Ext.alloc ?_ _ _ | refine Ext.drew ?_ | refine Ext.drewN ?_ _))) hSw)) (by with_reducible assumption) (by decide)) HH.out ?_
  change wpAnyH _ _ _ _ _ _ _ (Act.put _ (some 6) _) _
  simp only [Act.put, List.setIfInBounds_toArray, List.set_cons_zero, List.set_cons_succ]
  refine wpAnyH_take (i := 1) rfl (by kernel_rfl) (by kernel_rfl) (by kernel_rfl) (fun _ _ _ h => h) (yields_W (by rfl) rfl rfl (fun w hSw => Blk.ext (by with_reducible assumption) (Ext.trans (by (repeat (first | with_reducible exact Ext.refl _ | with_reducible assumption | refine Ext.trans ?_ (by with_reducible assumption) | refine Ext.alloc ?_ _ _ | refine Ext.drew ?_ | refine Ext.drewN ?_ _))) hSw)) (by with_reducible assumption) (by decide)) HH.out ?_
  change wpAnyH _ _ _ _ _ _ _ (Act.put _ (some 7) _) _
  simp only [Act.put, List.setIfInBounds_toArray, List.set_cons_zero, List.set_cons_succ]
  refine wpAnyH_take (i := 4) rfl (by kernel_rfl) (by kernel_rfl) (by kernel_rfl) (fun _ _ _ h => h) (yields_W (by rfl) rfl rfl (fun w hSw => Blk.ext (by with_reducible assumption) (Ext.trans (by (repeat (first | with_reducible exact Ext.refl _ | with_reducible assumption | refine Ext.trans ?_ (by with_reducible assumption) | refine Ext.alloc ?_ _ _ | refine Ext.drew ?_ | refine Ext.drewN ?_ _))) hSw)) (by with_reducible assumption) (by decide)) HH.out ?_
  change wpAnyH _ _ _ _ _ _ _ (Act.put _ (some 10) _) _
  simp only [Act.put, List.setIfInBounds_toArray, List.set_cons_zero, List.set_cons_succ]
  refine wpAnyH_take (i := 5) rfl (by kernel_rfl) (by kernel_rfl) (by kernel_rfl) (fun _ _ _ h => h) (yields_W (by rfl) rfl rfl (fun w hSw => Blk.ext (by with_reducible assumption) (Ext.trans (by (repeat (first | with_reducible exact Ext.refl _ | with_reducible assumption | refine Ext.trans ?_ (by with_reducible assumption) | refine Ext.alloc ?_ _ _ | refine Ext.drew ?_ | refine Ext.drewN ?_ _))) hSw)) (by with_reducible assumption) (by decide)) HH.out ?_
  change wpAnyH _ _ _ _ _ _ _ (Act.put _ (some 11) _) _
  simp only [Act.put, List.setIfInBounds_toArray, List.set_cons_zero, List.set_cons_succ]
  refine wpAnyH_ready (rs := [2, 9]) (by kernel_rfl) (by simp) ?_
  refine (AllReadyH.cons rfl (fun K hK => ?_) (AllReadyH.cons rfl (fun K hK => ?_) AllReadyH.nil))
  go_simp
  go_at_call 385; refine (HN1 _).mono ?_; rintro e w1 ⟨rfl, he⟩
  refine hK.out _ _ ?_ (fun hHeld => ?_)
  · first | exact HH.out.trans hmY | exact HH.out.trans he | exact HH.out
  clear hK K HH
  have HH : Hid (Ext W0 _) := hHeld
  clear hHeld
  refine wpAnyH_ready (rs := [3, 9]) (by kernel_rfl) (by simp) ?_
  refine (AllReadyH.cons rfl (fun K hK => ?_) (AllReadyH.cons rfl (fun K hK => ?_) AllReadyH.nil))
  go_simp
  go_at_call 384; refine (HM1 _).mono ?_; rintro e w1 ⟨rfl, he⟩
  refine hK.out _ _ ?_ (fun hHeld => ?_)
  · first | exact HH.out.trans hmY | exact HH.out.trans he | exact HH.out
  clear hK K HH
  have HH : Hid (Ext W0 _) := hHeld
  clear hHeld
  refine wpAnyH_ready (rs := [6, 9]) (by kernel_rfl) (by simp) ?_
  refine (AllReadyH.cons rfl (fun K hK => ?_) (AllReadyH.cons rfl (fun K hK => ?_) AllReadyH.nil))
  go_simp
  go_at_call 385; refine (HN2 _).mono ?_; rintro e w1 ⟨rfl, he⟩
  refine hK.out _ _ ?_ (fun hHeld => ?_)
  · first | exact HH.out.trans hmY | exact HH.out.trans he | exact HH.out
  clear hK K HH
  have HH : Hid (Ext W0 _) := hHeld
  clear hHeld
  refine wpAnyH_ready (rs := [7, 9]) (by kernel_rfl) (by simp) ?_
  refine (AllReadyH.cons rfl (fun K hK => ?_) (AllReadyH.cons rfl (fun K hK => ?_) AllReadyH.nil))
  go_simp
  go_at_call 384; refine (HM2 _).mono ?_; rintro e w1 ⟨rfl, he⟩
  refine hK.out _ _ ?_ (fun hHeld => ?_)
  · first | exact HH.out.trans hmY | exact HH.out.trans he | exact HH.out
  clear hK K HH
  have HH : Hid (Ext W0 _) := hHeld
  clear hHeld
  refine wpAnyH_ready (rs := [8, 9]) (by kernel_rfl) (by simp) ?_
  refine (AllReadyH.cons rfl (fun K hK => ?_) (AllReadyH.cons rfl (fun K hK => ?_) AllReadyH.nil))
  go_simp
  go_at_call 282; refine (HQ _).mono ?_; rintro e w1 ⟨rfl, he⟩
  refine hK.out _ _ ?_ (fun hHeld => ?_)
  · first | exact HH.out.trans hmY | exact HH.out.trans he | exact HH.out
  clear hK K HH
  have HH : Hid (Ext W0 _) := hHeld
  clear hHeld
  refine wpAnyH_ready (rs := [9]) (by kernel_rfl) (by simp) ?_
  refine AllReadyH.cons rfl (fun K hK => ?_) AllReadyH.nil
  refine step_any rfl (op_allocW rfl ?_)
  rintro B5 W5 c5 e5 b5 _ g5
  refine hK.out _ _ ?_ (fun hHeld => ?_)
  · exact HH.out.trans e5
  clear hK K HH
  have HH : Hid (Ext W0 _) := hHeld
  clear hHeld
  change wpAnyH _ _ _ _ _ _ _ (Act.put _ (some 5) _) _
  simp only [Act.put, List.setIfInBounds_toArray, List.set_cons_zero, List.set_cons_succ]
  refine wpAnyH_ready (rs := [10]) (by kernel_rfl) (by simp) ?_
  refine AllReadyH.cons rfl (fun K hK => ?_) AllReadyH.nil
  refine step_any rfl (op_storeWB rfl rfl rfl (b5.ext (by (repeat (first | with_reducible exact Ext.refl _ | with_reducible assumption | refine Ext.trans ?_ (by with_reducible assumption) | refine Ext.alloc ?_ _ _ | refine Ext.drew ?_ | refine Ext.drewN ?_ _)))) (by decide) ?_)
  rintro W6 c6 b6 a6 _ m6
  refine hK.out _ _ ?_ (fun hHeld => ?_)
  · exact Ext.trans_mod HH.out m6 (fun i hi => by have hi2 : i = B5 := hi; rw [hi2]; exact Nat.le_trans (Ext.size (by (repeat (first | with_reducible exact Ext.refl _ | with_reducible assumption | refine Ext.trans ?_ (by with_reducible assumption) | refine Ext.alloc ?_ _ _ | refine Ext.drew ?_ | refine Ext.drewN ?_ _)))) g5)
  clear hK K HH
  have HH : Hid (Ext W0 _) := hHeld
  clear hHeld
  change wpAnyH _ _ _ _ _ _ _ (Act.put _ none _) _
  simp only [Act.put, List.setIfInBounds_toArray, List.set_cons_zero, List.set_cons_succ]
  refine wpAnyH_done (by kernel_rfl) ?_ _
  exact key B5 W6 c6 ⟨HH.out, b6, a6, Nat.le_trans (Ext.size (by (repeat (first | with_reducible exact Ext.refl _ | with_reducible assumption | refine Ext.trans ?_ (by with_reducible assumption) | refine Ext.alloc ?_ _ _ | refine Ext.drew ?_ | refine Ext.drewN ?_ _)))) g5⟩
  refine step_any rfl (op_allocW rfl ?_)
  rintro B5 W5 c5 e5 b5 _ g5
  refine hK.out _ _ ?_ (fun hHeld => ?_)
  · exact HH.out.trans e5
  clear hK K HH
  have HH : Hid (Ext W0 _) := hHeld
  clear hHeld
  change wpAnyH _ _ _ _ _ _ _ (Act.put _ (some 5) _) _
  simp only [Act.put, List.setIfInBounds_toArray, List.set_cons_zero, List.set_cons_succ]
  refine wpAnyH_ready (rs := [8]) (by kernel_rfl) (by simp) ?_
  refine AllReadyH.cons rfl (fun K hK => ?_) AllReadyH.nil
  go_simp
  go_at_call 282; refine (HQ _).mono ?_; rintro e w1 ⟨rfl, he⟩
  refine hK.out _ _ ?_ (fun hHeld => ?_)
  · first | exact HH.out.trans hmY | exact HH.out.trans he | exact HH.out
  clear hK K HH
  have HH : Hid (Ext W0 _) := hHeld
  clear hHeld
  refine wpAnyH_ready (rs := [10]) (by kernel_rfl) (by simp) ?_
  refine AllReadyH.cons rfl (fun K hK => ?_) AllReadyH.nil
  refine step_any rfl (op_storeWB rfl rfl rfl (b5.ext (by (repeat (first | with_reducible exact Ext.refl _ | with_reducible assumption | refine Ext.trans ?_ (by with_reducible assumption) | refine Ext.alloc ?_ _ _ | refine Ext.drew ?_ | refine Ext.drewN ?_ _)))) (by decide) ?_)
  rintro W6 c6 b6 a6 _ m6
  refine hK.out _ _ ?_ (fun hHeld => ?_)
  · exact Ext.trans_mod HH.out m6 (fun i hi => by have hi2 : i = B5 := hi; rw [hi2]; exact Nat.le_trans (Ext.size (by (repeat (first | with_reducible exact Ext.refl _ | with_reducible assumption | refine Ext.trans ?_ (by with_reducible assumption) | refine Ext.alloc ?_ _ _ | refine Ext.drew ?_ | refine Ext.drewN ?_ _)))) g5)
  clear hK K HH
  have HH : Hid (Ext W0 _) := hHeld
  clear hHeld
  change wpAnyH _ _ _ _ _ _ _ (Act.put _ none _) _
  simp only [Act.put, List.setIfInBounds_toArray, List.set_cons_zero, List.set_cons_succ]
  refine wpAnyH_done (by kernel_rfl) ?_ _
  exact key B5 W6 c6 ⟨HH.out, b6, a6, Nat.le_trans (Ext.size (by (repeat (first | with_reducible exact Ext.refl _ | with_reducible assumption | refine Ext.trans ?_ (by with_reducible assumption) | refine Ext.alloc ?_ _ _ | refine Ext.drew ?_ | refine Ext.drewN ?_ _)))) g5⟩
  refine step_any rfl (op_allocW rfl ?_)
  rintro B5 W5 c5 e5 b5 _ g5
  refine hK.out _ _ ?_ (fun hHeld => ?_)
  · exact HH.out.trans e5
  clear hK K HH
  have HH : Hid (Ext W0 _) := hHeld
  clear hHeld
  change wpAnyH _ _ _ _ _ _ _ (Act.put _ (some 5) _) _
  simp only [Act.put, List.setIfInBounds_toArray, List.set_cons_zero, List.set_cons_succ]
  refine wpAnyH_ready (rs := [7]) (by kernel_rfl) (by simp) ?_
  refine AllReadyH.cons rfl (fun K hK => ?_) AllReadyH.nil
  go_simp
  go_at_call 384; refine (HM2 _).mono ?_; rintro e w1 ⟨rfl, he⟩
  refine hK.out _ _ ?_ (fun hHeld => ?_)
  · first | exact HH.out.trans hmY | exact HH.out.trans he | exact HH.out
  clear hK K HH
  have HH : Hid (Ext W0 _) := hHeld
  clear hHeld
  refine wpAnyH_ready (rs := [8]) (by kernel_rfl) (by simp) ?_
  refine AllReadyH.cons rfl (fun K hK => ?_) AllReadyH.nil
  go_simp
  go_at_call 282; refine (HQ _).mono ?_; rintro e w1 ⟨rfl, he⟩
  refine hK.out _ _ ?_ (fun hHeld => ?_)
  · first | exact HH.out.trans hmY | exact HH.out.trans he | exact HH.out
  clear hK K HH
  have HH : Hid (Ext W0 _) := hHeld
  clear hHeld
  refine wpAnyH_ready (rs := [10]) (by kernel_rfl) (by simp) ?_
  refine AllReadyH.cons rfl (fun K hK => ?_) AllReadyH.nil
  refine step_any rfl (op_storeWB rfl rfl rfl (b5.ext (by (repeat (first | with_reducible exact Ext.refl _ | with_reducible assumption | refine Ext.trans ?_ (by with_reducible assumption) | refine Ext.alloc ?_ _ _ | refine Ext.drew ?_ | refine Ext.drewN ?_ _)))) (by decide) ?_)
  rintro W6 c6 b6 a6 _ m6
  refine hK.out _ _ ?_ (fun hHeld => ?_)
  · exact Ext.trans_mod HH.out m6 (fun i hi => by have hi2 : i = B5 := hi; rw [hi2]; exact Nat.le_trans (Ext.size (by (repeat (first | with_reducible exact Ext.refl _ | with_reducible assumption | refine Ext.trans ?_ (by with_reducible assumption) | refine Ext.alloc ?_ _ _ | refine Ext.drew ?_ | refine Ext.drewN ?_ _)))) g5)
  clear hK K HH
  have HH : Hid (Ext W0 _) := hHeld
  clear hHeld
  change wpAnyH _ _ _ _ _ _ _ (Act.put _ none _) _
  simp only [Act.put, List.setIfInBounds_toArray, List.set_cons_zero, List.set_cons_succ]
  refine wpAnyH_done (by kernel_rfl) ?_ _
  exact key B5 W6 c6 ⟨HH.out, b6, a6, Nat.le_trans (Ext.size (by (repeat (first | with_reducible exact Ext.refl _ | with_reducible assumption | refine Ext.trans ?_ (by with_reducible assumption) | refine Ext.alloc ?_ _ _ | refine Ext.drew ?_ | refine Ext.drewN ?_ _)))) g5⟩
  refine step_any rfl (op_allocW rfl ?_)
  rintro B5 W5 c5 e5 b5 _ g5
  refine hK.out _ _ ?_ (fun hHeld => ?_)
  · exact HH.out.trans e5
  clear hK K HH
  have HH : Hid (Ext W0 _) := hHeld
  clear hHeld
  change wpAnyH _ _ _ _ _ _ _ (Act.put _ (some 5) _) _
  simp only [Act.put, List.setIfInBounds_toArray, List.set_cons_zero, List.set_cons_succ]
  refine wpAnyH_ready (rs := [6]) (by kernel_rfl) (by simp) ?_
  refine AllReadyH.cons rfl (fun K hK => ?_) AllReadyH.nil
  go_simp
  go_at_call 385; refine (HN2 _).mono ?_; rintro e w1 ⟨rfl, he⟩
  refine hK.out _ _ ?_ (fun hHeld => ?_)
  · first | exact HH.out.trans hmY | exact HH.out.trans he | exact HH.out
  clear hK K HH
  have HH : Hid (Ext W0 _) := hHeld
  clear hHeld
  refine wpAnyH_ready (rs := [7]) (by kernel_rfl) (by simp) ?_
  refine AllReadyH.cons rfl (fun K hK => ?_) AllReadyH.nil
  go_simp
  go_at_call 384; refine (HM2 _).mono ?_; rintro e w1 ⟨rfl, he⟩
  refine hK.out _ _ ?_ (fun hHeld => ?_)
  · first | exact HH.out.trans hmY | exact HH.out.trans he | exact HH.out
  clear hK K HH
  have HH : Hid (Ext W0 _) := hHeld
  clear hHeld
  refine wpAnyH_ready (rs := [8]) (by kernel_rfl) (by simp) ?_
  refine AllReadyH.cons rfl (fun K hK => ?_) AllReadyH.nil
  go_simp
  go_at_call 282; refine (HQ _).mono ?_; rintro e w1 ⟨rfl, he⟩
  refine hK.out _ _ ?_ (fun hHeld => ?_)
  · first | exact HH.out.trans hmY | exact HH.out.trans he | exact HH.out
  clear hK K HH
  have HH : Hid (Ext W0 _) := hHeld
  clear hHeld
  refine wpAnyH_ready (rs := [10]) (by kernel_rfl) (by simp) ?_
  refine AllReadyH.cons rfl (fun K hK => ?_) AllReadyH.nil
  refine step_any rfl (op_storeWB rfl rfl rfl (b5.ext (by (repeat (first | with_reducible exact Ext.refl _ | with_reducible assumption | refine Ext.trans ?_ (by with_reducible assumption) | refine Ext.alloc ?_ _ _ | refine Ext.drew ?_ | refine Ext.drewN ?_ _)))) (by decide) ?_)
  rintro W6 c6 b6 a6 _ m6
  refine hK.out _ _ ?_ (fun hHeld => ?_)
  · exact Ext.trans_mod HH.out m6 (fun i hi => by have hi2 : i = B5 := hi; rw [hi2]; exact Nat.le_trans (Ext.size (by (repeat (first | with_reducible exact Ext.refl _ | with_reducible assumption | refine Ext.trans ?_ (by with_reducible assumption) | refine Ext.alloc ?_ _ _ | refine Ext.drew ?_ | refine Ext.drewN ?_ _)))) g5)
  clear hK K HH
  have HH : Hid (Ext W0 _) := hHeld
  clear hHeld
  change wpAnyH _ _ _ _ _ _ _ (Act.put _ none _) _
  simp only [Act.put, List.setIfInBounds_toArray, List.set_cons_zero, List.set_cons_succ]
  refine wpAnyH_done (by kernel_rfl) ?_ _
  exact key B5 W6 c6 ⟨HH.out, b6, a6, Nat.le_trans (Ext.size (by (repeat (first | with_reducible exact Ext.refl _ | with_reducible assumption | refine Ext.trans ?_ (by with_reducible assumption) | refine Ext.alloc ?_ _ _ | refine Ext.drew ?_ | refine Ext.drewN ?_ _)))) g5⟩
  refine step_any rfl (op_allocW rfl ?_)
  rintro B5 W5 c5 e5 b5 _ g5
  refine hK.out _ _ ?_ (fun hHeld => ?_)
  · exact HH.out.trans e5
  clear hK K HH
  have HH : Hid (Ext W0 _) := hHeld
  clear hHeld
  change wpAnyH _ _ _ _ _ _ _ (Act.put _ (some 5) _) _
  simp only [Act.put, List.setIfInBounds_toArray, List.set_cons_zero, List.set_cons_succ]
  refine wpAnyH_ready (rs := [3]) (by kernel_rfl) (by simp) ?_
  refine AllReadyH.cons rfl (fun K hK => ?_) AllReadyH.nil
  go_simp
  go_at_call 384; refine (HM1 _).mono ?_; rintro e w1 ⟨rfl, he⟩
  refine hK.out _ _ ?_ (fun hHeld => ?_)
  · first | exact HH.out.trans hmY | exact HH.out.trans he | exact HH.out
  clear hK K HH
  have HH : Hid (Ext W0 _) := hHeld
  clear hHeld
  refine wpAnyH_ready (rs := [6]) (by kernel_rfl) (by simp) ?_
  refine AllReadyH.cons rfl (fun K hK => ?_) AllReadyH.nil
  go_simp
  go_at_call 385; refine (HN2 _).mono ?_; rintro e w1 ⟨rfl, he⟩
  refine hK.out _ _ ?_ (fun hHeld => ?_)
  · first | exact HH.out.trans hmY | exact HH.out.trans he | exact HH.out
  clear hK K HH
  have HH : Hid (Ext W0 _) := hHeld
  clear hHeld
  refine wpAnyH_ready (rs := [7]) (by kernel_rfl) (by simp) ?_
  refine AllReadyH.cons rfl (fun K hK => ?_) AllReadyH.nil
  go_simp
  go_at_call 384; refine (HM2 _).mono ?_; rintro e w1 ⟨rfl, he⟩
  refine hK.out _ _ ?_ (fun hHeld => ?_)
  · first | exact HH.out.trans hmY | exact HH.out.trans he | exact HH.out
  clear hK K HH
  have HH : Hid (Ext W0 _) := hHeld
  clear hHeld
  refine wpAnyH_ready (rs := [8]) (by kernel_rfl) (by simp) ?_
  refine AllReadyH.cons rfl (fun K hK => ?_) AllReadyH.nil
  go_simp
  go_at_call 282; refine (HQ _).mono ?_; rintro e w1 ⟨rfl, he⟩
  refine hK.out _ _ ?_ (fun hHeld => ?_)
  · first | exact HH.out.trans hmY | exact HH.out.trans he | exact HH.out
  clear hK K HH
  have HH : Hid (Ext W0 _) := hHeld
  clear hHeld
  refine wpAnyH_ready (rs := [10]) (by kernel_rfl) (by simp) ?_
  refine AllReadyH.cons rfl (fun K hK => ?_) AllReadyH.nil
  refine step_any rfl (op_storeWB rfl rfl rfl (b5.ext (by (repeat (first | with_reducible exact Ext.refl _ | with_reducible assumption | refine Ext.trans ?_ (by with_reducible assumption) | refine Ext.alloc ?_ _ _ | refine Ext.drew ?_ | refine Ext.drewN ?_ _)))) (by decide) ?_)
  rintro W6 c6 b6 a6 _ m6
  refine hK.out _ _ ?_ (fun hHeld => ?_)
  · exact Ext.trans_mod HH.out m6 (fun i hi => by have hi2 : i = B5 := hi; rw [hi2]; exact Nat.le_trans (Ext.size (by (repeat (first | with_reducible exact Ext.refl _ | with_reducible assumption | refine Ext.trans ?_ (by with_reducible assumption) | refine Ext.alloc ?_ _ _ | refine Ext.drew ?_ | refine Ext.drewN ?_ _)))) g5)
  clear hK K HH
  have HH : Hid (Ext W0 _) := hHeld
  clear hHeld
  change wpAnyH _ _ _ _ _ _ _ (Act.put _ none _) _
  simp only [Act.put, List.setIfInBounds_toArray, List.set_cons_zero, List.set_cons_succ]
  refine wpAnyH_done (by kernel_rfl) ?_ _
  exact key B5 W6 c6 ⟨HH.out, b6, a6, Nat.le_trans (Ext.size (by (repeat (first | with_reducible exact Ext.refl _ | with_reducible assumption | refine Ext.trans ?_ (by with_reducible assumption) | refine Ext.alloc ?_ _ _ | refine Ext.drew ?_ | refine Ext.drewN ?_ _)))) g5⟩
  refine step_any rfl (op_allocW rfl ?_)
  rintro B5 W5 c5 e5 b5 _ g5
  refine hK.out _ _ ?_ (fun hHeld => ?_)
  · exact HH.out.trans e5
  clear hK K HH
  have HH : Hid (Ext W0 _) := hHeld
  clear hHeld
  change wpAnyH _ _ _ _ _ _ _ (Act.put _ (some 5) _) _
  simp only [Act.put, List.setIfInBounds_toArray, List.set_cons_zero, List.set_cons_succ]
  refine wpAnyH_ready (rs := [2]) (by kernel_rfl) (by simp) ?_
  refine AllReadyH.cons rfl (fun K hK => ?_) AllReadyH.nil
  go_simp
  go_at_call 385; refine (HN1 _).mono ?_; rintro e w1 ⟨rfl, he⟩
  refine hK.out _ _ ?_ (fun hHeld => ?_)
  · first | exact HH.out.trans hmY | exact HH.out.trans he | exact HH.out
  clear hK K HH
  have HH : Hid (Ext W0 _) := hHeld
  clear hHeld
  refine wpAnyH_ready (rs := [3]) (by kernel_rfl) (by simp) ?_
  refine AllReadyH.cons rfl (fun K hK => ?_) AllReadyH.nil
  go_simp
  go_at_call 384; refine (HM1 _).mono ?_; rintro e w1 ⟨rfl, he⟩
  refine hK.out _ _ ?_ (fun hHeld => ?_)
  · first | exact HH.out.trans hmY | exact HH.out.trans he | exact HH.out
  clear hK K HH
  have HH : Hid (Ext W0 _) := hHeld
  clear hHeld
  refine wpAnyH_ready (rs := [6]) (by kernel_rfl) (by simp) ?_
  refine AllReadyH.cons rfl (fun K hK => ?_) AllReadyH.nil
  go_simp
  go_at_call 385; refine (HN2 _).mono ?_; rintro e w1 ⟨rfl, he⟩
  refine hK.out _ _ ?_ (fun hHeld => ?_)
  · first | exact HH.out.trans hmY | exact HH.out.trans he | exact HH.out
  clear hK K HH
  have HH : Hid (Ext W0 _) := hHeld
  clear hHeld
  refine wpAnyH_ready (rs := [7]) (by kernel_rfl) (by simp) ?_
  refine AllReadyH.cons rfl (fun K hK => ?_) AllReadyH.nil
  go_simp
  go_at_call 384; refine (HM2 _).mono ?_; rintro e w1 ⟨rfl, he⟩
  refine hK.out _ _ ?_ (fun hHeld => ?_)
  · first | exact HH.out.trans hmY | exact HH.out.trans he | exact HH.out
  clear hK K HH
  have HH : Hid (Ext W0 _) := hHeld
  clear hHeld
  refine wpAnyH_ready (rs := [8]) (by kernel_rfl) (by simp) ?_
  refine AllReadyH.cons rfl (fun K hK => ?_) AllReadyH.nil
  go_simp
  go_at_call 282; refine (HQ _).mono ?_; rintro e w1 ⟨rfl, he⟩
  refine hK.out _ _ ?_ (fun hHeld => ?_)
  · first | exact HH.out.trans hmY | exact HH.out.trans he | exact HH.out
  clear hK K HH
  have HH : Hid (Ext W0 _) := hHeld
  clear hHeld
  refine wpAnyH_ready (rs := [10]) (by kernel_rfl) (by simp) ?_
  refine AllReadyH.cons rfl (fun K hK => ?_) AllReadyH.nil
  refine step_any rfl (op_storeWB rfl rfl rfl (b5.ext (by (repeat (first | with_reducible exact Ext.refl _ | with_reducible assumption | refine Ext.trans ?_ (by with_reducible assumption) | refine Ext.alloc ?_ _ _ | refine Ext.drew ?_ | refine Ext.drewN ?_ _)))) (by decide) ?_)
  rintro W6 c6 b6 a6 _ m6
  refine hK.out _ _ ?_ (fun hHeld => ?_)
  · exact Ext.trans_mod HH.out m6 (fun i hi => by have hi2 : i = B5 := hi; rw [hi2]; exact Nat.le_trans (Ext.size (by (repeat (first | with_reducible exact Ext.refl _ | with_reducible assumption | refine Ext.trans ?_ (by with_reducible assumption) | refine Ext.alloc ?_ _ _ | refine Ext.drew ?_ | refine Ext.drewN ?_ _)))) g5)
  clear hK K HH
  have HH : Hid (Ext W0 _) := hHeld
  clear hHeld
  change wpAnyH _ _ _ _ _ _ _ (Act.put _ none _) _
  simp only [Act.put, List.setIfInBounds_toArray, List.set_cons_zero, List.set_cons_succ]
  refine wpAnyH_done (by kernel_rfl) ?_ _
  exact key B5 W6 c6 ⟨HH.out, b6, a6, Nat.le_trans (Ext.size (by (repeat (first | with_reducible exact Ext.refl _ | with_reducible assumption | refine Ext.trans ?_ (by with_reducible assumption) | refine Ext.alloc ?_ _ _ | refine Ext.drew ?_ | refine Ext.drewN ?_ _)))) g5⟩
  rintro B7 W7 c7 ⟨e7, b7, a7, g7⟩
  have h73 : ¬ B7 = B3 := fun q => by have := (b3.ext (show Ext W3 W0 from hW0)).lt; omega
  go_upto_region 2 with (fail)
  refine w_ext ?_
  rintro W0 hW0
  refine wp_region_held_drew (S := fun w' => (Ext W2 (w') ∧ Blk (w') B7 4 79 c7)) (by kernel_rfl) ⟨(show Ext W2 W0 by (repeat (first | with_reducible exact Ext.refl _ | with_reducible assumption | refine Ext.trans ?_ (by with_reducible assumption) | refine Ext.alloc ?_ _ _ | refine Ext.drew ?_ | refine Ext.drewN ?_ _))).drew, (b7.ext (by (repeat (first | with_reducible exact Ext.refl _ | with_reducible assumption | refine Ext.trans ?_ (by with_reducible assumption) | refine Ext.alloc ?_ _ _ | refine Ext.drew ?_ | refine Ext.drewN ?_ _)))).drew⟩ (fun hHeld => ?_)
  have HH : Hid ((Ext W2 (_) ∧ Blk (_) B7 4 79 c7)) := hHeld
  clear hHeld
  refine wpAnyH_take (i := 0) rfl (by kernel_rfl) (by kernel_rfl) (by kernel_rfl) (fun _ _ _ h => h) (yields_W (by rfl) rfl rfl (fun w hSw => hSw.2) a7 (by decide)) HH.out ?_
  change wpAnyH _ _ _ _ _ _ _ (Act.put _ (some 15) _) _
  simp only [Act.put, List.setIfInBounds_toArray, List.set_cons_zero, List.set_cons_succ]
  refine wpAnyH_take (i := 1) rfl (by kernel_rfl) (by kernel_rfl) (by kernel_rfl) (fun _ _ _ h => h) (yields_W (by rfl) rfl rfl (fun w hSw => b1.ext (e2.trans hSw.1)) a1 (by decide)) HH.out ?_
  change wpAnyH _ _ _ _ _ _ _ (Act.put _ (some 16) _) _
  simp only [Act.put, List.setIfInBounds_toArray, List.set_cons_zero, List.set_cons_succ]
  refine wpAnyH_take (i := 3) rfl (by kernel_rfl) (by kernel_rfl) (by kernel_rfl) (fun _ _ _ h => h) (yields_W (by rfl) rfl rfl (fun w hSw => b2.ext hSw.1) a2 (by decide)) HH.out ?_
  change wpAnyH _ _ _ _ _ _ _ (Act.put _ (some 18) _) _
  simp only [Act.put, List.setIfInBounds_toArray, List.set_cons_zero, List.set_cons_succ]
  refine wpAnyH_ready (rs := [2]) (by kernel_rfl) (by simp) ?_
  refine AllReadyH.cons rfl (fun K hK => ?_) AllReadyH.nil
  go_simp
  go_at_call 385; refine (HN1 _).mono ?_; rintro e w1 ⟨rfl, he⟩
  refine hK.out _ _ ?_ (fun hHeld => ?_)
  · exact ⟨HH.out.1.trans he, HH.out.2.ext he⟩
  clear hK K HH
  have HH : Hid ((Ext W2 (_) ∧ Blk (_) B7 4 79 c7)) := hHeld
  clear hHeld
  refine wpAnyH_ready (rs := [4]) (by kernel_rfl) (by simp) ?_
  refine AllReadyH.cons rfl (fun K hK => ?_) AllReadyH.nil
  go_simp
  go_at_call 385; refine (HN2 _).mono ?_; rintro e w1 ⟨rfl, he⟩
  refine hK.out _ _ ?_ (fun hHeld => ?_)
  · exact ⟨HH.out.1.trans he, HH.out.2.ext he⟩
  clear hK K HH
  have HH : Hid ((Ext W2 (_) ∧ Blk (_) B7 4 79 c7)) := hHeld
  clear hHeld
  refine wpAnyH_take (i := 5) (v := ?_) rfl (by kernel_rfl) (by kernel_rfl) (by kernel_rfl) (fun _ _ _ h => h) (Or.inl ⟨by rfl, ?_⟩) HH.out ?_
  rotate_left
  · intro w hSw; go_simp; try with_reducible rfl
  change wpAnyH _ _ _ _ _ _ _ (Act.put _ (some 20) _) _
  simp only [Act.put, List.setIfInBounds_toArray, List.set_cons_zero, List.set_cons_succ]
  refine wpAnyH_ready (rs := [6]) (by kernel_rfl) (by simp) ?_
  refine AllReadyH.cons rfl (fun K hK => ?_) AllReadyH.nil
  go_simp
  go_at_call 384; refine (HS _ _).mono ?_; rintro e w1 ⟨rfl, he⟩
  refine hK.out _ _ ?_ (fun hHeld => ?_)
  · exact ⟨HH.out.1.trans he, HH.out.2.ext he⟩
  clear hK K HH
  have HH : Hid ((Ext W2 (_) ∧ Blk (_) B7 4 79 c7)) := hHeld
  clear hHeld
  refine wpAnyH_ready (rs := [7]) (by kernel_rfl) (by simp) ?_
  refine AllReadyH.cons rfl (fun K hK => ?_) AllReadyH.nil
  refine step_any rfl (op_storeWB rfl rfl rfl (b3.ext (by (repeat (first | with_reducible exact Ext.refl _ | with_reducible assumption | refine Ext.trans ?_ (by with_reducible assumption) | refine Ext.alloc ?_ _ _ | refine Ext.drew ?_ | refine Ext.drewN ?_ _)))) (by decide) ?_)
  rintro W8 c8 b8 a8 _ m8
  refine hK.out _ _ ⟨Ext.trans_mod HH.out.1 m8 (fun q hq => by have hq2 : q = B3 := hq; rw [hq2]; exact g3), HH.out.2.mod m8 h73⟩ (fun hHeld => ?_)
  clear hK K HH
  have HH : Hid ((Ext W2 (_) ∧ Blk (_) B7 4 79 c7)) := hHeld
  clear hHeld
  change wpAnyH _ _ _ _ _ _ _ (Act.put _ none _) _
  simp only [Act.put, List.setIfInBounds_toArray, List.set_cons_zero, List.set_cons_succ]
  refine wpAnyH_done (by kernel_rfl) ?_ _
  go_wp2
  refine post_row rt66 (rowOf c8 0 4) (rowOf_size _ _ _) rfl rfl (b8.rowIn (by decide)) rfl ?_
  rw [wat_row a8]
  exact ⟨rfl, (e1.trans e2).trans HH.out.1⟩
set_option maxRecDepth 100000 in
set_option maxHeartbeats 6400000 in
theorem uSMod (x y : Nat) (w : World) (hx : x < P256) (hy : y < P256) : Calls Hvah.prog 285 #[wv x, wv y] w fun e w' => e = .returned (wv (asg (dmod (amag x) (amag y)) (negW x))) ∧ Ext w w' := by
  have HN1 := fun W => uNegative x W hx
  have HN2 := fun W => uNegative y W hy
  have HM1 := fun W => uMagn x W hx
  have HM2 := fun W => uMagn y W hy
  have HQ := fun W => uMod (amag x) (amag y) W (amag_lt hx) (amag_lt hy)
  have hqv : dmod (amag x) (amag y) < P256 := dmod_lt256 (amag_lt hx)
  have HS := fun W b => uSigned' (dmod (amag x) (amag y)) b W hqv
  obtain ⟨qv, hqv2⟩ : ∃ q, Hid (dmod (amag x) (amag y) = q) := ⟨_, rfl⟩
  rw [hqv2.out] at HQ HS hqv
  rw [hqv2.out]
  clear hqv2
  generalize amag x = mx at *
  generalize amag y = my at *
  generalize negW x = nx at *
  generalize negW y = ny at *
  go_enter Hvah.func285, Hvah.ntmps285
  go_upto_region 1 with (first | ((with_reducible (refine Veil.out ?_; apply wl_boxW (x := Operand.tmp 0))); (case hx => rfl); rintro B1 W1 c1 e1 b1 a1 g1) | ((with_reducible (refine Veil.out ?_; apply wl_boxW (x := Operand.tmp 1))); (case hx => rfl); rintro B2 W2 c2 e2 b2 a2 g2) | ((with_reducible (refine Veil.out ?_; apply wl_allocW (dst := some 4))); rintro B3 W3 c3 e3 b3 _ g3))
  refine w_ext ?_
  rintro W0 hW0
  refine' joinB (P := _) (Fc := fun B W1 c1 => Ext W0 W1 ∧ Blk W1 B 4 79 c1 ∧ WAt c1 0 (qv) ∧ W0.heap.size ≤ B) (fun key => _) _
  rotate_left
  refine wp_region_held_drew (S := fun w' => Ext W0 w') (by kernel_rfl) (Ext.refl _).drew (fun hHeld => ?_)
  have HH : Hid (Ext W0 _) := hHeld
  clear hHeld
  refine wpAnyH_take (i := 0) rfl (by kernel_rfl) (by kernel_rfl) (by kernel_rfl) (fun _ _ _ h => h) (yields_W (by rfl) rfl rfl (fun w hSw => Blk.ext (by with_reducible assumption) (Ext.trans (by (repeat (first | with_reducible exact Ext.refl _ | with_reducible assumption | refine Ext.trans ?_ (by with_reducible assumption) | refine Ext.alloc ?_ _ _ | refine Ext.drew ?_ | refine Ext.drewN ?_ _))) hSw)) (by with_reducible assumption) (by decide)) HH.out ?_
  change wpAnyH _ _ _ _ _ _ _ (Act.put _ (some 6) _) _
  simp only [Act.put, List.setIfInBounds_toArray, List.set_cons_zero, List.set_cons_succ]
  refine wpAnyH_take (i := 1) rfl (by kernel_rfl) (by kernel_rfl) (by kernel_rfl) (fun _ _ _ h => h) (yields_W (by rfl) rfl rfl (fun w hSw => Blk.ext (by with_reducible assumption) (Ext.trans (by (repeat (first | with_reducible exact Ext.refl _ | with_reducible assumption | refine Ext.trans ?_ (by with_reducible assumption) | refine Ext.alloc ?_ _ _ | refine Ext.drew ?_ | refine Ext.drewN ?_ _))) hSw)) (by with_reducible assumption) (by decide)) HH.out ?_
  change wpAnyH _ _ _ _ _ _ _ (Act.put _ (some 7) _) _
  simp only [Act.put, List.setIfInBounds_toArray, List.set_cons_zero, List.set_cons_succ]
  refine wpAnyH_take (i := 4) rfl (by kernel_rfl) (by kernel_rfl) (by kernel_rfl) (fun _ _ _ h => h) (yields_W (by rfl) rfl rfl (fun w hSw => Blk.ext (by with_reducible assumption) (Ext.trans (by (repeat (first | with_reducible exact Ext.refl _ | with_reducible assumption | refine Ext.trans ?_ (by with_reducible assumption) | refine Ext.alloc ?_ _ _ | refine Ext.drew ?_ | refine Ext.drewN ?_ _))) hSw)) (by with_reducible assumption) (by decide)) HH.out ?_
  change wpAnyH _ _ _ _ _ _ _ (Act.put _ (some 10) _) _
  simp only [Act.put, List.setIfInBounds_toArray, List.set_cons_zero, List.set_cons_succ]
  refine wpAnyH_take (i := 5) rfl (by kernel_rfl) (by kernel_rfl) (by kernel_rfl) (fun _ _ _ h => h) (yields_W (by rfl) rfl rfl (fun w hSw => Blk.ext (by with_reducible assumption) (Ext.trans (by (repeat (first | with_reducible exact Ext.refl _ | with_reducible assumption | refine Ext.trans ?_ (by with_reducible assumption) | refine Ext.alloc ?_ _ _ | refine Ext.drew ?_ | refine Ext.drewN ?_ _))) hSw)) (by with_reducible assumption) (by decide)) HH.out ?_
  change wpAnyH _ _ _ _ _ _ _ (Act.put _ (some 11) _) _
  simp only [Act.put, List.setIfInBounds_toArray, List.set_cons_zero, List.set_cons_succ]
  refine wpAnyH_ready (rs := [2, 9]) (by kernel_rfl) (by simp) ?_
  refine (AllReadyH.cons rfl (fun K hK => ?_) (AllReadyH.cons rfl (fun K hK => ?_) AllReadyH.nil))
  go_simp
  go_at_call 385; refine (HN1 _).mono ?_; rintro e w1 ⟨rfl, he⟩
  refine hK.out _ _ ?_ (fun hHeld => ?_)
  · first | exact HH.out.trans hmY | exact HH.out.trans he | exact HH.out
  clear hK K HH
  have HH : Hid (Ext W0 _) := hHeld
  clear hHeld
  refine wpAnyH_ready (rs := [3, 9]) (by kernel_rfl) (by simp) ?_
  refine (AllReadyH.cons rfl (fun K hK => ?_) (AllReadyH.cons rfl (fun K hK => ?_) AllReadyH.nil))
  go_simp
  go_at_call 384; refine (HM1 _).mono ?_; rintro e w1 ⟨rfl, he⟩
  refine hK.out _ _ ?_ (fun hHeld => ?_)
  · first | exact HH.out.trans hmY | exact HH.out.trans he | exact HH.out
  clear hK K HH
  have HH : Hid (Ext W0 _) := hHeld
  clear hHeld
  refine wpAnyH_ready (rs := [6, 9]) (by kernel_rfl) (by simp) ?_
  refine (AllReadyH.cons rfl (fun K hK => ?_) (AllReadyH.cons rfl (fun K hK => ?_) AllReadyH.nil))
  go_simp
  go_at_call 385; refine (HN2 _).mono ?_; rintro e w1 ⟨rfl, he⟩
  refine hK.out _ _ ?_ (fun hHeld => ?_)
  · first | exact HH.out.trans hmY | exact HH.out.trans he | exact HH.out
  clear hK K HH
  have HH : Hid (Ext W0 _) := hHeld
  clear hHeld
  refine wpAnyH_ready (rs := [7, 9]) (by kernel_rfl) (by simp) ?_
  refine (AllReadyH.cons rfl (fun K hK => ?_) (AllReadyH.cons rfl (fun K hK => ?_) AllReadyH.nil))
  go_simp
  go_at_call 384; refine (HM2 _).mono ?_; rintro e w1 ⟨rfl, he⟩
  refine hK.out _ _ ?_ (fun hHeld => ?_)
  · first | exact HH.out.trans hmY | exact HH.out.trans he | exact HH.out
  clear hK K HH
  have HH : Hid (Ext W0 _) := hHeld
  clear hHeld
  refine wpAnyH_ready (rs := [8, 9]) (by kernel_rfl) (by simp) ?_
  refine (AllReadyH.cons rfl (fun K hK => ?_) (AllReadyH.cons rfl (fun K hK => ?_) AllReadyH.nil))
  go_simp
  go_at_call 284; refine (HQ _).mono ?_; rintro e w1 ⟨rfl, he⟩
  refine hK.out _ _ ?_ (fun hHeld => ?_)
  · first | exact HH.out.trans hmY | exact HH.out.trans he | exact HH.out
  clear hK K HH
  have HH : Hid (Ext W0 _) := hHeld
  clear hHeld
  refine wpAnyH_ready (rs := [9]) (by kernel_rfl) (by simp) ?_
  refine AllReadyH.cons rfl (fun K hK => ?_) AllReadyH.nil
  refine step_any rfl (op_allocW rfl ?_)
  rintro B5 W5 c5 e5 b5 _ g5
  refine hK.out _ _ ?_ (fun hHeld => ?_)
  · exact HH.out.trans e5
  clear hK K HH
  have HH : Hid (Ext W0 _) := hHeld
  clear hHeld
  change wpAnyH _ _ _ _ _ _ _ (Act.put _ (some 5) _) _
  simp only [Act.put, List.setIfInBounds_toArray, List.set_cons_zero, List.set_cons_succ]
  refine wpAnyH_ready (rs := [10]) (by kernel_rfl) (by simp) ?_
  refine AllReadyH.cons rfl (fun K hK => ?_) AllReadyH.nil
  refine step_any rfl (op_storeWB rfl rfl rfl (b5.ext (by (repeat (first | with_reducible exact Ext.refl _ | with_reducible assumption | refine Ext.trans ?_ (by with_reducible assumption) | refine Ext.alloc ?_ _ _ | refine Ext.drew ?_ | refine Ext.drewN ?_ _)))) (by decide) ?_)
  rintro W6 c6 b6 a6 _ m6
  refine hK.out _ _ ?_ (fun hHeld => ?_)
  · exact Ext.trans_mod HH.out m6 (fun i hi => by have hi2 : i = B5 := hi; rw [hi2]; exact Nat.le_trans (Ext.size (by (repeat (first | with_reducible exact Ext.refl _ | with_reducible assumption | refine Ext.trans ?_ (by with_reducible assumption) | refine Ext.alloc ?_ _ _ | refine Ext.drew ?_ | refine Ext.drewN ?_ _)))) g5)
  clear hK K HH
  have HH : Hid (Ext W0 _) := hHeld
  clear hHeld
  change wpAnyH _ _ _ _ _ _ _ (Act.put _ none _) _
  simp only [Act.put, List.setIfInBounds_toArray, List.set_cons_zero, List.set_cons_succ]
  refine wpAnyH_done (by kernel_rfl) ?_ _
  exact key B5 W6 c6 ⟨HH.out, b6, a6, Nat.le_trans (Ext.size (by (repeat (first | with_reducible exact Ext.refl _ | with_reducible assumption | refine Ext.trans ?_ (by with_reducible assumption) | refine Ext.alloc ?_ _ _ | refine Ext.drew ?_ | refine Ext.drewN ?_ _)))) g5⟩
  refine step_any rfl (op_allocW rfl ?_)
  rintro B5 W5 c5 e5 b5 _ g5
  refine hK.out _ _ ?_ (fun hHeld => ?_)
  · exact HH.out.trans e5
  clear hK K HH
  have HH : Hid (Ext W0 _) := hHeld
  clear hHeld
  change wpAnyH _ _ _ _ _ _ _ (Act.put _ (some 5) _) _
  simp only [Act.put, List.setIfInBounds_toArray, List.set_cons_zero, List.set_cons_succ]
  refine wpAnyH_ready (rs := [8]) (by kernel_rfl) (by simp) ?_
  refine AllReadyH.cons rfl (fun K hK => ?_) AllReadyH.nil
  go_simp
  go_at_call 284; refine (HQ _).mono ?_; rintro e w1 ⟨rfl, he⟩
  refine hK.out _ _ ?_ (fun hHeld => ?_)
  · first | exact HH.out.trans hmY | exact HH.out.trans he | exact HH.out
  clear hK K HH
  have HH : Hid (Ext W0 _) := hHeld
  clear hHeld
  refine wpAnyH_ready (rs := [10]) (by kernel_rfl) (by simp) ?_
  refine AllReadyH.cons rfl (fun K hK => ?_) AllReadyH.nil
  refine step_any rfl (op_storeWB rfl rfl rfl (b5.ext (by (repeat (first | with_reducible exact Ext.refl _ | with_reducible assumption | refine Ext.trans ?_ (by with_reducible assumption) | refine Ext.alloc ?_ _ _ | refine Ext.drew ?_ | refine Ext.drewN ?_ _)))) (by decide) ?_)
  rintro W6 c6 b6 a6 _ m6
  refine hK.out _ _ ?_ (fun hHeld => ?_)
  · exact Ext.trans_mod HH.out m6 (fun i hi => by have hi2 : i = B5 := hi; rw [hi2]; exact Nat.le_trans (Ext.size (by (repeat (first | with_reducible exact Ext.refl _ | with_reducible assumption | refine Ext.trans ?_ (by with_reducible assumption) | refine Ext.alloc ?_ _ _ | refine Ext.drew ?_ | refine Ext.drewN ?_ _)))) g5)
  clear hK K HH
  have HH : Hid (Ext W0 _) := hHeld
  clear hHeld
  change wpAnyH _ _ _ _ _ _ _ (Act.put _ none _) _
  simp only [Act.put, List.setIfInBounds_toArray, List.set_cons_zero, List.set_cons_succ]
  refine wpAnyH_done (by kernel_rfl) ?_ _
  exact key B5 W6 c6 ⟨HH.out, b6, a6, Nat.le_trans (Ext.size (by (repeat (first | with_reducible exact Ext.refl _ | with_reducible assumption | refine Ext.trans ?_ (by with_reducible assumption) | refine Ext.alloc ?_ _ _ | refine Ext.drew ?_ | refine Ext.drewN ?_ _)))) g5⟩
  refine step_any rfl (op_allocW rfl ?_)
  rintro B5 W5 c5 e5 b5 _ g5
  refine hK.out _ _ ?_ (fun hHeld => ?_)
  · exact HH.out.trans e5
  clear hK K HH
  have HH : Hid (Ext W0 _) := hHeld
  clear hHeld
  change wpAnyH _ _ _ _ _ _ _ (Act.put _ (some 5) _) _
  simp only [Act.put, List.setIfInBounds_toArray, List.set_cons_zero, List.set_cons_succ]
  refine wpAnyH_ready (rs := [7]) (by kernel_rfl) (by simp) ?_
  refine AllReadyH.cons rfl (fun K hK => ?_) AllReadyH.nil
  go_simp
  go_at_call 384; refine (HM2 _).mono ?_; rintro e w1 ⟨rfl, he⟩
  refine hK.out _ _ ?_ (fun hHeld => ?_)
  · first | exact HH.out.trans hmY | exact HH.out.trans he | exact HH.out
  clear hK K HH
  have HH : Hid (Ext W0 _) := hHeld
  clear hHeld
  refine wpAnyH_ready (rs := [8]) (by kernel_rfl) (by simp) ?_
  refine AllReadyH.cons rfl (fun K hK => ?_) AllReadyH.nil
  go_simp
  go_at_call 284; refine (HQ _).mono ?_; rintro e w1 ⟨rfl, he⟩
  refine hK.out _ _ ?_ (fun hHeld => ?_)
  · first | exact HH.out.trans hmY | exact HH.out.trans he | exact HH.out
  clear hK K HH
  have HH : Hid (Ext W0 _) := hHeld
  clear hHeld
  refine wpAnyH_ready (rs := [10]) (by kernel_rfl) (by simp) ?_
  refine AllReadyH.cons rfl (fun K hK => ?_) AllReadyH.nil
  refine step_any rfl (op_storeWB rfl rfl rfl (b5.ext (by (repeat (first | with_reducible exact Ext.refl _ | with_reducible assumption | refine Ext.trans ?_ (by with_reducible assumption) | refine Ext.alloc ?_ _ _ | refine Ext.drew ?_ | refine Ext.drewN ?_ _)))) (by decide) ?_)
  rintro W6 c6 b6 a6 _ m6
  refine hK.out _ _ ?_ (fun hHeld => ?_)
  · exact Ext.trans_mod HH.out m6 (fun i hi => by have hi2 : i = B5 := hi; rw [hi2]; exact Nat.le_trans (Ext.size (by (repeat (first | with_reducible exact Ext.refl _ | with_reducible assumption | refine Ext.trans ?_ (by with_reducible assumption) | refine Ext.alloc ?_ _ _ | refine Ext.drew ?_ | refine Ext.drewN ?_ _)))) g5)
  clear hK K HH
  have HH : Hid (Ext W0 _) := hHeld
  clear hHeld
  change wpAnyH _ _ _ _ _ _ _ (Act.put _ none _) _
  simp only [Act.put, List.setIfInBounds_toArray, List.set_cons_zero, List.set_cons_succ]
  refine wpAnyH_done (by kernel_rfl) ?_ _
  exact key B5 W6 c6 ⟨HH.out, b6, a6, Nat.le_trans (Ext.size (by (repeat (first | with_reducible exact Ext.refl _ | with_reducible assumption | refine Ext.trans ?_ (by with_reducible assumption) | refine Ext.alloc ?_ _ _ | refine Ext.drew ?_ | refine Ext.drewN ?_ _)))) g5⟩
  refine step_any rfl (op_allocW rfl ?_)
  rintro B5 W5 c5 e5 b5 _ g5
  refine hK.out _ _ ?_ (fun hHeld => ?_)
  · exact HH.out.trans e5
  clear hK K HH
  have HH : Hid (Ext W0 _) := hHeld
  clear hHeld
  change wpAnyH _ _ _ _ _ _ _ (Act.put _ (some 5) _) _
  simp only [Act.put, List.setIfInBounds_toArray, List.set_cons_zero, List.set_cons_succ]
  refine wpAnyH_ready (rs := [6]) (by kernel_rfl) (by simp) ?_
  refine AllReadyH.cons rfl (fun K hK => ?_) AllReadyH.nil
  go_simp
  go_at_call 385; refine (HN2 _).mono ?_; rintro e w1 ⟨rfl, he⟩
  refine hK.out _ _ ?_ (fun hHeld => ?_)
  · first | exact HH.out.trans hmY | exact HH.out.trans he | exact HH.out
  clear hK K HH
  have HH : Hid (Ext W0 _) := hHeld
  clear hHeld
  refine wpAnyH_ready (rs := [7]) (by kernel_rfl) (by simp) ?_
  refine AllReadyH.cons rfl (fun K hK => ?_) AllReadyH.nil
  go_simp
  go_at_call 384; refine (HM2 _).mono ?_; rintro e w1 ⟨rfl, he⟩
  refine hK.out _ _ ?_ (fun hHeld => ?_)
  · first | exact HH.out.trans hmY | exact HH.out.trans he | exact HH.out
  clear hK K HH
  have HH : Hid (Ext W0 _) := hHeld
  clear hHeld
  refine wpAnyH_ready (rs := [8]) (by kernel_rfl) (by simp) ?_
  refine AllReadyH.cons rfl (fun K hK => ?_) AllReadyH.nil
  go_simp
  go_at_call 284; refine (HQ _).mono ?_; rintro e w1 ⟨rfl, he⟩
  refine hK.out _ _ ?_ (fun hHeld => ?_)
  · first | exact HH.out.trans hmY | exact HH.out.trans he | exact HH.out
  clear hK K HH
  have HH : Hid (Ext W0 _) := hHeld
  clear hHeld
  refine wpAnyH_ready (rs := [10]) (by kernel_rfl) (by simp) ?_
  refine AllReadyH.cons rfl (fun K hK => ?_) AllReadyH.nil
  refine step_any rfl (op_storeWB rfl rfl rfl (b5.ext (by (repeat (first | with_reducible exact Ext.refl _ | with_reducible assumption | refine Ext.trans ?_ (by with_reducible assumption) | refine Ext.alloc ?_ _ _ | refine Ext.drew ?_ | refine Ext.drewN ?_ _)))) (by decide) ?_)
  rintro W6 c6 b6 a6 _ m6
  refine hK.out _ _ ?_ (fun hHeld => ?_)
  · exact Ext.trans_mod HH.out m6 (fun i hi => by have hi2 : i = B5 := hi; rw [hi2]; exact Nat.le_trans (Ext.size (by (repeat (first | with_reducible exact Ext.refl _ | with_reducible assumption | refine Ext.trans ?_ (by with_reducible assumption) | refine Ext.alloc ?_ _ _ | refine Ext.drew ?_ | refine Ext.drewN ?_ _)))) g5)
  clear hK K HH
  have HH : Hid (Ext W0 _) := hHeld
  clear hHeld
  change wpAnyH _ _ _ _ _ _ _ (Act.put _ none _) _
  simp only [Act.put, List.setIfInBounds_toArray, List.set_cons_zero, List.set_cons_succ]
  refine wpAnyH_done (by kernel_rfl) ?_ _
  exact key B5 W6 c6 ⟨HH.out, b6, a6, Nat.le_trans (Ext.size (by (repeat (first | with_reducible exact Ext.refl _ | with_reducible assumption | refine Ext.trans ?_ (by with_reducible assumption) | refine Ext.alloc ?_ _ _ | refine Ext.drew ?_ | refine Ext.drewN ?_ _)))) g5⟩
  refine step_any rfl (op_allocW rfl ?_)
  rintro B5 W5 c5 e5 b5 _ g5
  refine hK.out _ _ ?_ (fun hHeld => ?_)
  · exact HH.out.trans e5
  clear hK K HH
  have HH : Hid (Ext W0 _) := hHeld
  clear hHeld
  change wpAnyH _ _ _ _ _ _ _ (Act.put _ (some 5) _) _
  simp only [Act.put, List.setIfInBounds_toArray, List.set_cons_zero, List.set_cons_succ]
  refine wpAnyH_ready (rs := [3]) (by kernel_rfl) (by simp) ?_
  refine AllReadyH.cons rfl (fun K hK => ?_) AllReadyH.nil
  go_simp
  go_at_call 384; refine (HM1 _).mono ?_; rintro e w1 ⟨rfl, he⟩
  refine hK.out _ _ ?_ (fun hHeld => ?_)
  · first | exact HH.out.trans hmY | exact HH.out.trans he | exact HH.out
  clear hK K HH
  have HH : Hid (Ext W0 _) := hHeld
  clear hHeld
  refine wpAnyH_ready (rs := [6]) (by kernel_rfl) (by simp) ?_
  refine AllReadyH.cons rfl (fun K hK => ?_) AllReadyH.nil
  go_simp
  go_at_call 385; refine (HN2 _).mono ?_; rintro e w1 ⟨rfl, he⟩
  refine hK.out _ _ ?_ (fun hHeld => ?_)
  · first | exact HH.out.trans hmY | exact HH.out.trans he | exact HH.out
  clear hK K HH
  have HH : Hid (Ext W0 _) := hHeld
  clear hHeld
  refine wpAnyH_ready (rs := [7]) (by kernel_rfl) (by simp) ?_
  refine AllReadyH.cons rfl (fun K hK => ?_) AllReadyH.nil
  go_simp
  go_at_call 384; refine (HM2 _).mono ?_; rintro e w1 ⟨rfl, he⟩
  refine hK.out _ _ ?_ (fun hHeld => ?_)
  · first | exact HH.out.trans hmY | exact HH.out.trans he | exact HH.out
  clear hK K HH
  have HH : Hid (Ext W0 _) := hHeld
  clear hHeld
  refine wpAnyH_ready (rs := [8]) (by kernel_rfl) (by simp) ?_
  refine AllReadyH.cons rfl (fun K hK => ?_) AllReadyH.nil
  go_simp
  go_at_call 284; refine (HQ _).mono ?_; rintro e w1 ⟨rfl, he⟩
  refine hK.out _ _ ?_ (fun hHeld => ?_)
  · first | exact HH.out.trans hmY | exact HH.out.trans he | exact HH.out
  clear hK K HH
  have HH : Hid (Ext W0 _) := hHeld
  clear hHeld
  refine wpAnyH_ready (rs := [10]) (by kernel_rfl) (by simp) ?_
  refine AllReadyH.cons rfl (fun K hK => ?_) AllReadyH.nil
  refine step_any rfl (op_storeWB rfl rfl rfl (b5.ext (by (repeat (first | with_reducible exact Ext.refl _ | with_reducible assumption | refine Ext.trans ?_ (by with_reducible assumption) | refine Ext.alloc ?_ _ _ | refine Ext.drew ?_ | refine Ext.drewN ?_ _)))) (by decide) ?_)
  rintro W6 c6 b6 a6 _ m6
  refine hK.out _ _ ?_ (fun hHeld => ?_)
  · exact Ext.trans_mod HH.out m6 (fun i hi => by have hi2 : i = B5 := hi; rw [hi2]; exact Nat.le_trans (Ext.size (by (repeat (first | with_reducible exact Ext.refl _ | with_reducible assumption | refine Ext.trans ?_ (by with_reducible assumption) | refine Ext.alloc ?_ _ _ | refine Ext.drew ?_ | refine Ext.drewN ?_ _)))) g5)
  clear hK K HH
  have HH : Hid (Ext W0 _) := hHeld
  clear hHeld
  change wpAnyH _ _ _ _ _ _ _ (Act.put _ none _) _
  simp only [Act.put, List.setIfInBounds_toArray, List.set_cons_zero, List.set_cons_succ]
  refine wpAnyH_done (by kernel_rfl) ?_ _
  exact key B5 W6 c6 ⟨HH.out, b6, a6, Nat.le_trans (Ext.size (by (repeat (first | with_reducible exact Ext.refl _ | with_reducible assumption | refine Ext.trans ?_ (by with_reducible assumption) | refine Ext.alloc ?_ _ _ | refine Ext.drew ?_ | refine Ext.drewN ?_ _)))) g5⟩
  refine step_any rfl (op_allocW rfl ?_)
  rintro B5 W5 c5 e5 b5 _ g5
  refine hK.out _ _ ?_ (fun hHeld => ?_)
  · exact HH.out.trans e5
  clear hK K HH
  have HH : Hid (Ext W0 _) := hHeld
  clear hHeld
  change wpAnyH _ _ _ _ _ _ _ (Act.put _ (some 5) _) _
  simp only [Act.put, List.setIfInBounds_toArray, List.set_cons_zero, List.set_cons_succ]
  refine wpAnyH_ready (rs := [2]) (by kernel_rfl) (by simp) ?_
  refine AllReadyH.cons rfl (fun K hK => ?_) AllReadyH.nil
  go_simp
  go_at_call 385; refine (HN1 _).mono ?_; rintro e w1 ⟨rfl, he⟩
  refine hK.out _ _ ?_ (fun hHeld => ?_)
  · first | exact HH.out.trans hmY | exact HH.out.trans he | exact HH.out
  clear hK K HH
  have HH : Hid (Ext W0 _) := hHeld
  clear hHeld
  refine wpAnyH_ready (rs := [3]) (by kernel_rfl) (by simp) ?_
  refine AllReadyH.cons rfl (fun K hK => ?_) AllReadyH.nil
  go_simp
  go_at_call 384; refine (HM1 _).mono ?_; rintro e w1 ⟨rfl, he⟩
  refine hK.out _ _ ?_ (fun hHeld => ?_)
  · first | exact HH.out.trans hmY | exact HH.out.trans he | exact HH.out
  clear hK K HH
  have HH : Hid (Ext W0 _) := hHeld
  clear hHeld
  refine wpAnyH_ready (rs := [6]) (by kernel_rfl) (by simp) ?_
  refine AllReadyH.cons rfl (fun K hK => ?_) AllReadyH.nil
  go_simp
  go_at_call 385; refine (HN2 _).mono ?_; rintro e w1 ⟨rfl, he⟩
  refine hK.out _ _ ?_ (fun hHeld => ?_)
  · first | exact HH.out.trans hmY | exact HH.out.trans he | exact HH.out
  clear hK K HH
  have HH : Hid (Ext W0 _) := hHeld
  clear hHeld
  refine wpAnyH_ready (rs := [7]) (by kernel_rfl) (by simp) ?_
  refine AllReadyH.cons rfl (fun K hK => ?_) AllReadyH.nil
  go_simp
  go_at_call 384; refine (HM2 _).mono ?_; rintro e w1 ⟨rfl, he⟩
  refine hK.out _ _ ?_ (fun hHeld => ?_)
  · first | exact HH.out.trans hmY | exact HH.out.trans he | exact HH.out
  clear hK K HH
  have HH : Hid (Ext W0 _) := hHeld
  clear hHeld
  refine wpAnyH_ready (rs := [8]) (by kernel_rfl) (by simp) ?_
  refine AllReadyH.cons rfl (fun K hK => ?_) AllReadyH.nil
  go_simp
  go_at_call 284; refine (HQ _).mono ?_; rintro e w1 ⟨rfl, he⟩
  refine hK.out _ _ ?_ (fun hHeld => ?_)
  · first | exact HH.out.trans hmY | exact HH.out.trans he | exact HH.out
  clear hK K HH
  have HH : Hid (Ext W0 _) := hHeld
  clear hHeld
  refine wpAnyH_ready (rs := [10]) (by kernel_rfl) (by simp) ?_
  refine AllReadyH.cons rfl (fun K hK => ?_) AllReadyH.nil
  refine step_any rfl (op_storeWB rfl rfl rfl (b5.ext (by (repeat (first | with_reducible exact Ext.refl _ | with_reducible assumption | refine Ext.trans ?_ (by with_reducible assumption) | refine Ext.alloc ?_ _ _ | refine Ext.drew ?_ | refine Ext.drewN ?_ _)))) (by decide) ?_)
  rintro W6 c6 b6 a6 _ m6
  refine hK.out _ _ ?_ (fun hHeld => ?_)
  · exact Ext.trans_mod HH.out m6 (fun i hi => by have hi2 : i = B5 := hi; rw [hi2]; exact Nat.le_trans (Ext.size (by (repeat (first | with_reducible exact Ext.refl _ | with_reducible assumption | refine Ext.trans ?_ (by with_reducible assumption) | refine Ext.alloc ?_ _ _ | refine Ext.drew ?_ | refine Ext.drewN ?_ _)))) g5)
  clear hK K HH
  have HH : Hid (Ext W0 _) := hHeld
  clear hHeld
  change wpAnyH _ _ _ _ _ _ _ (Act.put _ none _) _
  simp only [Act.put, List.setIfInBounds_toArray, List.set_cons_zero, List.set_cons_succ]
  refine wpAnyH_done (by kernel_rfl) ?_ _
  exact key B5 W6 c6 ⟨HH.out, b6, a6, Nat.le_trans (Ext.size (by (repeat (first | with_reducible exact Ext.refl _ | with_reducible assumption | refine Ext.trans ?_ (by with_reducible assumption) | refine Ext.alloc ?_ _ _ | refine Ext.drew ?_ | refine Ext.drewN ?_ _)))) g5⟩
  rintro B7 W7 c7 ⟨e7, b7, a7, g7⟩
  have h73 : ¬ B7 = B3 := fun q => by have := (b3.ext (show Ext W3 W0 from hW0)).lt; omega
  go_upto_region 2 with (fail)
  refine w_ext ?_
  rintro W0 hW0
  refine wp_region_held_drew (S := fun w' => (Ext W2 (w') ∧ Blk (w') B7 4 79 c7)) (by kernel_rfl) ⟨(show Ext W2 W0 by (repeat (first | with_reducible exact Ext.refl _ | with_reducible assumption | refine Ext.trans ?_ (by with_reducible assumption) | refine Ext.alloc ?_ _ _ | refine Ext.drew ?_ | refine Ext.drewN ?_ _))).drew, (b7.ext (by (repeat (first | with_reducible exact Ext.refl _ | with_reducible assumption | refine Ext.trans ?_ (by with_reducible assumption) | refine Ext.alloc ?_ _ _ | refine Ext.drew ?_ | refine Ext.drewN ?_ _)))).drew⟩ (fun hHeld => ?_)
  have HH : Hid ((Ext W2 (_) ∧ Blk (_) B7 4 79 c7)) := hHeld
  clear hHeld
  refine wpAnyH_take (i := 0) rfl (by kernel_rfl) (by kernel_rfl) (by kernel_rfl) (fun _ _ _ h => h) (yields_W (by rfl) rfl rfl (fun w hSw => hSw.2) a7 (by decide)) HH.out ?_
  change wpAnyH _ _ _ _ _ _ _ (Act.put _ (some 15) _) _
  simp only [Act.put, List.setIfInBounds_toArray, List.set_cons_zero, List.set_cons_succ]
  refine wpAnyH_take (i := 1) rfl (by kernel_rfl) (by kernel_rfl) (by kernel_rfl) (fun _ _ _ h => h) (yields_W (by rfl) rfl rfl (fun w hSw => b1.ext (e2.trans hSw.1)) a1 (by decide)) HH.out ?_
  change wpAnyH _ _ _ _ _ _ _ (Act.put _ (some 16) _) _
  simp only [Act.put, List.setIfInBounds_toArray, List.set_cons_zero, List.set_cons_succ]
  refine wpAnyH_ready (rs := [2]) (by kernel_rfl) (by simp) ?_
  refine AllReadyH.cons rfl (fun K hK => ?_) AllReadyH.nil
  go_simp
  go_at_call 385; refine (HN1 _).mono ?_; rintro e w1 ⟨rfl, he⟩
  refine hK.out _ _ ?_ (fun hHeld => ?_)
  · exact ⟨HH.out.1.trans he, HH.out.2.ext he⟩
  clear hK K HH
  have HH : Hid ((Ext W2 (_) ∧ Blk (_) B7 4 79 c7)) := hHeld
  clear hHeld
  refine wpAnyH_ready (rs := [3]) (by kernel_rfl) (by simp) ?_
  refine AllReadyH.cons rfl (fun K hK => ?_) AllReadyH.nil
  go_simp
  go_at_call 384; refine (HS _ _).mono ?_; rintro e w1 ⟨rfl, he⟩
  refine hK.out _ _ ?_ (fun hHeld => ?_)
  · exact ⟨HH.out.1.trans he, HH.out.2.ext he⟩
  clear hK K HH
  have HH : Hid ((Ext W2 (_) ∧ Blk (_) B7 4 79 c7)) := hHeld
  clear hHeld
  refine wpAnyH_ready (rs := [4]) (by kernel_rfl) (by simp) ?_
  refine AllReadyH.cons rfl (fun K hK => ?_) AllReadyH.nil
  refine step_any rfl (op_storeWB rfl rfl rfl (b3.ext (by (repeat (first | with_reducible exact Ext.refl _ | with_reducible assumption | refine Ext.trans ?_ (by with_reducible assumption) | refine Ext.alloc ?_ _ _ | refine Ext.drew ?_ | refine Ext.drewN ?_ _)))) (by decide) ?_)
  rintro W8 c8 b8 a8 _ m8
  refine hK.out _ _ ⟨Ext.trans_mod HH.out.1 m8 (fun q hq => by have hq2 : q = B3 := hq; rw [hq2]; exact g3), HH.out.2.mod m8 h73⟩ (fun hHeld => ?_)
  clear hK K HH
  have HH : Hid ((Ext W2 (_) ∧ Blk (_) B7 4 79 c7)) := hHeld
  clear hHeld
  change wpAnyH _ _ _ _ _ _ _ (Act.put _ none _) _
  simp only [Act.put, List.setIfInBounds_toArray, List.set_cons_zero, List.set_cons_succ]
  refine wpAnyH_done (by kernel_rfl) ?_ _
  go_wp2
  refine post_row rt66 (rowOf c8 0 4) (rowOf_size _ _ _) rfl rfl (b8.rowIn (by decide)) rfl ?_
  rw [wat_row a8]
  exact ⟨rfl, (e1.trans e2).trans HH.out.1⟩
set_option maxRecDepth 100000 in
set_option maxHeartbeats 6400000 in
theorem uAddMod (x y m : Nat) (w : World) (hx : x < P256) (hy : y < P256) (hm : m < P256) : Calls Hvah.prog 288 #[wv x, wv y, wv m] w fun e w' => e = .returned (wv (dmod (x + y) m)) ∧ Ext w w' := by
  have HA := fun W => uAddOver x y W hx hy
  have hp : P256 = P256 := rfl
  obtain ⟨sv, hsv⟩ : ∃ v, Hid ((x + y) % P256 = v) := ⟨_, rfl⟩
  rw [hsv.out] at HA
  have hs256 : sv < 2 ^ 256 := by rw [← p256_eq, ← hsv.out]; exact Nat.mod_lt _ (by decide)
  have hcase : (P256 ≤ x + y ∧ Hid (sv + P256 = x + y)) ∨ (¬ P256 ≤ x + y ∧ Hid (sv = x + y)) := by
    have := hsv.out
    by_cases h : P256 ≤ x + y
    · refine Or.inl ⟨h, ?_⟩
      show sv + P256 = x + y
      rw [← this, Nat.mod_eq_sub_mod h, Nat.mod_eq_of_lt (by omega)]; omega
    · exact Or.inr ⟨h, by show sv = x + y; rw [← this, Nat.mod_eq_of_lt (by omega)]⟩
  clear hsv hp
  obtain ⟨ov, hov⟩ : ∃ b, Hid (decide (P256 ≤ x + y) = b) := ⟨_, rfl⟩
  rw [hov.out] at HA
  go_enter Hvah.func288, Hvah.ntmps288
  go_upto_region 2 with (first | ((with_reducible (refine Veil.out ?_; apply wl_boxW (x := Operand.tmp 0))); (case hx => rfl); rintro B1 W1 c1 e1 b1 a1 g1) | ((with_reducible (refine Veil.out ?_; apply wl_boxW (x := Operand.tmp 1))); (case hx => rfl); rintro B2 W2 c2 e2 b2 a2 g2) | ((with_reducible (refine Veil.out ?_; apply wl_boxW (x := Operand.tmp 2))); (case hx => rfl); rintro B3 W3 c3 e3 b3 a3 g3) | ((with_reducible (refine Veil.out ?_; apply wl_allocW (dst := some 6))); rintro B4 W4 c4 e4 b4 _ g4) | ((with_reducible (refine Veil.out ?_; apply wl_loadWB (x := Operand.tmp 3))); (case hx => rfl); (case hB => exact b1.ext (by (repeat (first | with_reducible exact Ext.refl _ | with_reducible assumption | refine Ext.trans ?_ (by with_reducible assumption) | refine Ext.alloc ?_ _ _ | refine Ext.drew ?_ | refine Ext.drewN ?_ _)))); (case hW => exact a1); (case hi => decide)) | ((with_reducible (refine Veil.out ?_; apply wl_loadWB (x := Operand.tmp 4))); (case hx => rfl); (case hB => exact b2.ext (by (repeat (first | with_reducible exact Ext.refl _ | with_reducible assumption | refine Ext.trans ?_ (by with_reducible assumption) | refine Ext.alloc ?_ _ _ | refine Ext.drew ?_ | refine Ext.drewN ?_ _)))); (case hW => exact a2); (case hi => decide)) | (go_at_call 173; refine (HA _).mono ?_; rintro e W5 ⟨rfl, e5⟩) | ((with_reducible (refine Veil.out ?_; apply wl_allocW (dst := some 7))); rintro B6 W6 c6 e6 b6 _ g6) | ((with_reducible (refine Veil.out ?_; apply wl_storeWB (x := Operand.tmp 7) (v := sv))); (case hx => rfl); (case hy => rfl); (case hB => exact b6.ext (by (repeat (first | with_reducible exact Ext.refl _ | with_reducible assumption | refine Ext.trans ?_ (by with_reducible assumption) | refine Ext.alloc ?_ _ _ | refine Ext.drew ?_ | refine Ext.drewN ?_ _)))); (case hi => decide); rintro W7 c7 b7 a7 _ m7))
  have hE4 : Ext w W4 := ((e1.trans e2).trans e3).trans e4
  have g4w : w.heap.size ≤ B4 := Nat.le_trans ((e1.trans e2).trans e3).size g4
  have g6w : w.heap.size ≤ B6 := Nat.le_trans (hE4.trans e5).size g6
  have h36 : ¬ B3 = B6 := fun q => by have := (b3.ext (e4.trans e5)).lt; omega
  have h46 : ¬ B4 = B6 := fun q => by have := (b4.ext e5).lt; omega
  have hE7 : Ext w W7 := Ext.trans_mod ((hE4.trans e5).trans e6) m7 (fun q hq => by have hq2 : q = B6 := hq; rw [hq2]; exact g6w)
  have b37 := (b3.ext ((e4.trans e5).trans e6)).mod m7 h36
  have b47 := (b4.ext (e5.trans e6)).mod m7 h46
  have KA : ∀ W, Ext W7 W → ∀ i v, lim sv i = v → i < 4 → W.cell? ⟨B6, i, none⟩ = some (.int .u64 (v : Nat)) := fun W hW i v hv hi => by
    rw [((wat_ub b7 a7).ext hW).atD (show i < 4 from hi), ← hv]
    rcases (show i = 0 ∨ i = 1 ∨ i = 2 ∨ i = 3 by omega) with rfl | rfl | rfl | rfl <;> rfl
  clear b1 b2 b3 b4 e1 e2 e3 e4 e5 e6 m7 hE4
  go_upto_region 3 with (first | ((with_reducible (refine Veil.out ?_; apply wl_loadC onet26k (x := Operand.tmp 18))); (case hw => rfl); (case hx => rfl); (case hc => exact KA _ (by (repeat (first | with_reducible exact Ext.refl _ | with_reducible assumption | refine Ext.trans ?_ (by with_reducible assumption) | refine Ext.alloc ?_ _ _ | refine Ext.drew ?_ | refine Ext.drewN ?_ _))) 0 _ rfl (by decide))) | ((with_reducible (refine Veil.out ?_; apply wl_loadC onet26k (x := Operand.tmp 20))); (case hw => rfl); (case hx => rfl); (case hc => exact KA _ (by (repeat (first | with_reducible exact Ext.refl _ | with_reducible assumption | refine Ext.trans ?_ (by with_reducible assumption) | refine Ext.alloc ?_ _ _ | refine Ext.drew ?_ | refine Ext.drewN ?_ _))) 1 _ rfl (by decide))) | ((with_reducible (refine Veil.out ?_; apply wl_loadC onet26k (x := Operand.tmp 22))); (case hw => rfl); (case hx => rfl); (case hc => exact KA _ (by (repeat (first | with_reducible exact Ext.refl _ | with_reducible assumption | refine Ext.trans ?_ (by with_reducible assumption) | refine Ext.alloc ?_ _ _ | refine Ext.drew ?_ | refine Ext.drewN ?_ _))) 2 _ rfl (by decide))) | ((with_reducible (refine Veil.out ?_; apply wl_loadC onet26k (x := Operand.tmp 24))); (case hw => rfl); (case hx => rfl); (case hc => exact KA _ (by (repeat (first | with_reducible exact Ext.refl _ | with_reducible assumption | refine Ext.trans ?_ (by with_reducible assumption) | refine Ext.alloc ?_ _ _ | refine Ext.drew ?_ | refine Ext.drewN ?_ _))) 3 _ rfl (by decide))) | ((with_reducible (refine Veil.out ?_; apply wl_buildV (hb := b69 (lim sv 0) (lim sv 1) (lim sv 2) (lim sv 3)))); (case he => first | rfl | simp [Act.eval])) | ((with_reducible (refine Veil.out ?_; apply wl_allocF z69)); rintro X W8 e8 b8 g8) | ((with_reducible (refine Veil.out ?_; apply wl_storeRow rt69 (x := Operand.tmp 9) (r := (ucells [lim sv 0, lim sv 1, lim sv 2, lim sv 3, 0, 0, 0, 0]).toArray))); (case hx => rfl); (case hy => rfl); (case hr => exact rfl); (case h1 => exact ones_ucells _); (case hB => exact b8); (case hi => decide); rintro W9 b9 m9))
  have gXw : w.heap.size ≤ X := Nat.le_trans hE7.size g8
  have h3X : ¬ B3 = X := fun q => by have := b37.lt; omega
  have h4X : ¬ B4 = X := fun q => by have := b47.lt; omega
  have uX9 : UB W9 X 82 [lim sv 0, lim sv 1, lim sv 2, lim sv 3, 0, 0, 0, 0] := ub_lay b9 rfl
  have b39 := (b37.ext e8).mod m9 h3X
  have b49 := (b47.ext e8).mod m9 h4X
  have hE9 : Ext w W9 := Ext.trans_mod (hE7.trans e8) m9 (fun q hq => by have hq2 : q = X := hq; rw [hq2]; exact gXw)
  clear b37 b47 e8 m9 b9 hE7 KA b7
  rcases hcase with ⟨hc, hsv⟩ | ⟨hc, hsv⟩
  · have hov1 : ov = true := by rw [← hov.out]; exact decide_eq_true hc
    subst hov1
    have bbX := uX9.toB (n := 8) rfl
    go_upto_region 5 with (first | ((with_reducible (refine Veil.out ?_; apply wl_storeC onet26k (v := .int .u64 1))); (case hx => rfl); (case hy => rfl); (case h1 => rfl); (case hB => exact bbX); (case hi => decide); rintro W10 b10 m10))
    have uXv : UB W10 X 82 [lim sv 0, lim sv 1, lim sv 2, lim sv 3, 1, 0, 0, 0] := b10.toUB rfl (fun i hi => by
      rcases (show i = 0 ∨ i = 1 ∨ i = 2 ∨ i = 3 ∨ i = 4 ∨ i = 5 ∨ i = 6 ∨ i = 7 by omega) with rfl | rfl | rfl | rfl | rfl | rfl | rfl | rfl <;> rfl)
    have lxv : ([lim sv 0, lim sv 1, lim sv 2, lim sv 3, 1, 0, 0, 0] : List Nat).length = 8 := rfl
    have dxv : L64 [lim sv 0, lim sv 1, lim sv 2, lim sv 3, 1, 0, 0, 0] := fun d hd => by
      simp only [List.mem_cons, List.not_mem_nil, or_false] at hd
      rcases hd with rfl | rfl | rfl | rfl | rfl | rfl | rfl | rfl <;> first | exact lim_lt _ _ | decide
    have hlvv : lv [lim sv 0, lim sv 1, lim sv 2, lim sv 3, 1, 0, 0, 0] = x + y := by
      rw [show ([lim sv 0, lim sv 1, lim sv 2, lim sv 3, 1, 0, 0, 0] : List Nat) = limbs sv ++ [1, 0, 0, 0] from rfl, lv_append, lv_limbs hs256, show lv [1, 0, 0, 0] = 1 by simp [lv], show Bn (limbs sv).length = P256 by rw [show (limbs sv).length = 4 from rfl, Bn_two, p256_eq]]
      have := hsv.out; omega
    have b3v := b39.mod m10 h3X
    have b4v := b49.mod m10 h4X
    have hEv : Ext w W10 := Ext.trans_mod hE9 m10 (fun q hq => by have hq2 : q = X := hq; rw [hq2]; exact gXw)
    have HR := fun W => uRem512 [lim sv 0, lim sv 1, lim sv 2, lim sv 3, 1, 0, 0, 0] m W lxv dxv hm
    rw [hlvv] at HR
    go_upto_region 6 with (first | ((with_reducible (refine Veil.out ?_; apply wl_loadRow rt69 (x := Operand.tmp 9))); (case hx => rfl); (case hB => exact uXv.toB lxv); (case hi => decide); rw [rowOf_lf [lim sv 0, lim sv 1, lim sv 2, lim sv 3, 1, 0, 0, 0] 8 (by rw [lxv]; decide), List.take_of_length_le (by rw [lxv]; decide)]) | ((with_reducible (refine Veil.out ?_; apply wl_loadWB (x := Operand.tmp 5))); (case hx => rfl); (case hB => exact b3v); (case hW => exact a3); (case hi => decide)) | (go_at_call 388; refine (HR _).mono ?_; rintro e W12 ⟨pv, rfl, ps, po, e12⟩) | ((with_reducible (refine Veil.out ?_; apply wl_allocW (dst := some 10))); rintro B13 W13 c13 e13 b13 _ g13) | ((with_reducible (refine Veil.out ?_; apply wl_allocF z408 (dst := some 11))); rintro B14 W14 e14 b14 g14) | ((with_reducible (refine Veil.out ?_; apply wl_storeWB (x := Operand.tmp 10) (v := dmod (x + y) m))); (case hx => rfl); (case hy => rfl); (case hB => exact b13.ext (by (repeat (first | with_reducible exact Ext.refl _ | with_reducible assumption | refine Ext.trans ?_ (by with_reducible assumption) | refine Ext.alloc ?_ _ _ | refine Ext.drew ?_ | refine Ext.drewN ?_ _)))); (case hi => decide); rintro W15 c15 b15 a15 _ m15) | ((with_reducible (refine Veil.out ?_; apply wl_storeRow rt408 (x := Operand.tmp 11) (r := pv))); (case hx => rfl); (case hy => rfl); (case hr => exact ps); (case h1 => exact po); (case hB => exact b14.mod m15 (fun q => by have := b13.lt; have hq : B14 = B13 := q; omega)); (case hi => decide); rintro W16 b16 m16))
    have h413 : ¬ B4 = B13 := fun q => by have := (b4v.ext e12).lt; omega
    have h414 : ¬ B4 = B14 := fun q => by have := (b4v.ext (e12.trans e13)).lt; omega
    have h1314 : ¬ B13 = B14 := fun q => by have := b13.lt; omega
    have g13w : w.heap.size ≤ B13 := Nat.le_trans (hEv.trans e12).size g13
    have g14w : w.heap.size ≤ B14 := Nat.le_trans ((hEv.trans e12).trans e13).size g14
    have hE16 : Ext w W16 := Ext.trans_mod (Ext.trans_mod (((hEv.trans e12).trans e13).trans e14) m15 (fun q hq => by have hq2 : q = B13 := hq; rw [hq2]; exact g13w)) m16 (fun q hq => by have hq2 : q = B14 := hq; rw [hq2]; exact g14w)
    go_wp2_with (first | ((with_reducible (refine Veil.out ?_; apply wl_loadWB (x := Operand.tmp 10))); (case hx => rfl); (case hB => exact b15.mod m16 h1314); (case hW => exact a15); (case hi => decide)) | ((with_reducible (refine Veil.out ?_; apply wl_storeWB (x := Operand.tmp 6) (v := dmod (x + y) m))); (case hx => rfl); (case hy => rfl); (case hB => exact ((b4v.ext ((e12.trans e13).trans e14)).mod m15 h413).mod m16 h414); (case hi => decide); rintro W17 c17 b17 a17 _ m17))
    refine post_row rt66 (rowOf c17 0 4) (rowOf_size _ _ _) rfl rfl (b17.rowIn (by decide)) rfl ?_
    rw [wat_row a17]
    exact ⟨rfl, Ext.trans_mod hE16 m17 (fun q hq => by have hq2 : q = B4 := hq; rw [hq2]; exact g4w)⟩
  · have hov1 : ov = false := by rw [← hov.out]; exact decide_eq_false hc
    subst hov1
    have uXv := uX9
    have lxv : ([lim sv 0, lim sv 1, lim sv 2, lim sv 3, 0, 0, 0, 0] : List Nat).length = 8 := rfl
    have dxv : L64 [lim sv 0, lim sv 1, lim sv 2, lim sv 3, 0, 0, 0, 0] := l64_limbs8 sv
    have hlvv : lv [lim sv 0, lim sv 1, lim sv 2, lim sv 3, 0, 0, 0, 0] = x + y := by rw [lv_limbs8 hs256]; have := hsv.out; omega
    have b3v := b39
    have b4v := b49
    have hEv := hE9
    clear uX9
    have HR := fun W => uRem512 [lim sv 0, lim sv 1, lim sv 2, lim sv 3, 0, 0, 0, 0] m W lxv dxv hm
    rw [hlvv] at HR
    go_upto_region 6 with (first | ((with_reducible (refine Veil.out ?_; apply wl_loadRow rt69 (x := Operand.tmp 9))); (case hx => rfl); (case hB => exact uXv.toB lxv); (case hi => decide); rw [rowOf_lf [lim sv 0, lim sv 1, lim sv 2, lim sv 3, 0, 0, 0, 0] 8 (by rw [lxv]; decide), List.take_of_length_le (by rw [lxv]; decide)]) | ((with_reducible (refine Veil.out ?_; apply wl_loadWB (x := Operand.tmp 5))); (case hx => rfl); (case hB => exact b3v); (case hW => exact a3); (case hi => decide)) | (go_at_call 388; refine (HR _).mono ?_; rintro e W12 ⟨pv, rfl, ps, po, e12⟩) | ((with_reducible (refine Veil.out ?_; apply wl_allocW (dst := some 10))); rintro B13 W13 c13 e13 b13 _ g13) | ((with_reducible (refine Veil.out ?_; apply wl_allocF z408 (dst := some 11))); rintro B14 W14 e14 b14 g14) | ((with_reducible (refine Veil.out ?_; apply wl_storeWB (x := Operand.tmp 10) (v := dmod (x + y) m))); (case hx => rfl); (case hy => rfl); (case hB => exact b13.ext (by (repeat (first | with_reducible exact Ext.refl _ | with_reducible assumption | refine Ext.trans ?_ (by with_reducible assumption) | refine Ext.alloc ?_ _ _ | refine Ext.drew ?_ | refine Ext.drewN ?_ _)))); (case hi => decide); rintro W15 c15 b15 a15 _ m15) | ((with_reducible (refine Veil.out ?_; apply wl_storeRow rt408 (x := Operand.tmp 11) (r := pv))); (case hx => rfl); (case hy => rfl); (case hr => exact ps); (case h1 => exact po); (case hB => exact b14.mod m15 (fun q => by have := b13.lt; have hq : B14 = B13 := q; omega)); (case hi => decide); rintro W16 b16 m16))
    have h413 : ¬ B4 = B13 := fun q => by have := (b4v.ext e12).lt; omega
    have h414 : ¬ B4 = B14 := fun q => by have := (b4v.ext (e12.trans e13)).lt; omega
    have h1314 : ¬ B13 = B14 := fun q => by have := b13.lt; omega
    have g13w : w.heap.size ≤ B13 := Nat.le_trans (hEv.trans e12).size g13
    have g14w : w.heap.size ≤ B14 := Nat.le_trans ((hEv.trans e12).trans e13).size g14
    have hE16 : Ext w W16 := Ext.trans_mod (Ext.trans_mod (((hEv.trans e12).trans e13).trans e14) m15 (fun q hq => by have hq2 : q = B13 := hq; rw [hq2]; exact g13w)) m16 (fun q hq => by have hq2 : q = B14 := hq; rw [hq2]; exact g14w)
    go_wp2_with (first | ((with_reducible (refine Veil.out ?_; apply wl_loadWB (x := Operand.tmp 10))); (case hx => rfl); (case hB => exact b15.mod m16 h1314); (case hW => exact a15); (case hi => decide)) | ((with_reducible (refine Veil.out ?_; apply wl_storeWB (x := Operand.tmp 6) (v := dmod (x + y) m))); (case hx => rfl); (case hy => rfl); (case hB => exact ((b4v.ext ((e12.trans e13).trans e14)).mod m15 h413).mod m16 h414); (case hi => decide); rintro W17 c17 b17 a17 _ m17))
    refine post_row rt66 (rowOf c17 0 4) (rowOf_size _ _ _) rfl rfl (b17.rowIn (by decide)) rfl ?_
    rw [wat_row a17]
    exact ⟨rfl, Ext.trans_mod hE16 m17 (fun q hq => by have hq2 : q = B4 := hq; rw [hq2]; exact g4w)⟩
end Go.Proofs.YgvahwGreat
