import Derived.Test.YgvahwGreatNv
namespace Go.Proofs.YgvahwGreat
open Go.RowKit
set_option linter.unusedSimpArgs false
section
variable {O : Nat → Prop} {w : World} {r : Array Value} {e : AEnv} {v : Value}
set_option maxRecDepth 100000 in
set_option maxHeartbeats 6400000 in
theorem eNewGood2 (hr : r.size = 120) (h : EnvI O w (cf r) e) (hf : e.hashes.length ≤ 4) (F : (Nat → Prop) → Nat → (Nat → Value) → World → Prop)
    (HF : ∀ W g, Ext w W → Blk W g 27024 105 (cf (z92 Hvah.prog)) → w.heap.size ≤ g → Calls Hvah.prog 38 #[.pointer (some ⟨g, 2435, none⟩), v] W fun x w' => ∃ O6 c6, x = .returned (.bool true) ∧ Blk w' g 27024 105 c6 ∧ F O6 g c6 w' ∧ EnvI O6 w' (cf r) e ∧ (∀ b, O6 b → b < w'.heap.size) ∧ Mod (· = g) W w') :
    Calls Hvah.prog 21 #[v, .agg r] w fun x w' => ∃ O6 g c6 w6 w7 B cB, x = .returned (.tuple #[.pointer (some ⟨g, 0, none⟩), .bool true]) ∧ w.heap.size ≤ g ∧ F O6 g c6 w6 ∧ Ext w w6 ∧ Ext w6 w7 ∧ NewM O6 w7 B cB (some ⟨g, 2435, none⟩) e ∧ w6.heap.size ≤ B ∧ Blk w' g 27024 105 (layv c6 0 (rowOf cB 0 2435)) ∧ Mod (· = g) w7 w' := by
  have HE := fun W (hW : Ext w W) => oEnvOK (h.ext hW) hr
  rw [decide_eq_true hf] at HE
  go_enter Hvah.func21, Hvah.ntmps21
  go_upto_region 6 with (first | ((with_reducible (refine Veil.out ?_; apply wl_boxB)); (case hx => rfl); (case hn => exact hr); rintro B3 W3 e3 b3 g3) | ((with_reducible (refine Veil.out ?_; apply wl_loadRow rt31i)); (case hx => rfl); (case hB => exact b3.ext (by (repeat (first | with_reducible exact Ext.refl _ | with_reducible assumption | refine Ext.trans ?_ (by with_reducible assumption) | refine Ext.alloc ?_ _ _ | refine Ext.drew ?_ | refine Ext.drewN ?_ _)))); (case hi => decide); rw [rowOf_cf hr]) | (go_at_call 37; refine (HE _ e3).mono ?_; rintro x w4 ⟨rfl, e4⟩) | ((with_reducible (refine Veil.out ?_; apply wl_allocB z92E)); (case hn => exact z92s); rintro g W5 e5 b5 g5) | (go_at_call 38; refine (HF _ g (e3.trans (e4.trans e5)) b5 (Nat.le_trans (e3.trans e4).size g5)).mono ?_; rintro x w6 ⟨O6, c6, rfl, b6, hF6, hE6, hO6, m6⟩))
  have gg : w.heap.size ≤ g := Nat.le_trans (e3.trans e4).size g5
  have n3 : ¬ B3 = g := fun q => by have := b3.lt; have := e4.size; omega
  have b36 := (b3.ext (e4.trans e5)).mod m6 n3
  have e06 : Ext w w6 := Ext.trans_mod (e3.trans (e4.trans e5)) m6 (fun q hq => by have hq2 : q = g := hq; rw [hq2]; exact gg)
  have HN := fun W (hW : Ext w6 W) => mNew (p := some ⟨g, 2435, none⟩) hr (hE6.ext hW) hf (fun b hb => Nat.lt_of_lt_of_le (hO6 b hb) hW.size)
  clear HF HE b3 b5 m6
  refine w_ext ?_
  rintro W0 hW0
  have eW0 : Ext w6 W0 := hW0
  refine wp_region_held_drew (S := fun w' => Blk w' B3 120 36 (cf r)) (by kernel_rfl) (b36.ext hW0).drew (fun hHeld => ?_)
  have HH : Hid (Blk _ B3 120 36 (cf r)) := hHeld
  clear hHeld
  refine wpAnyH_take (i := 0) (v := ?_) rfl (by kernel_rfl) (by kernel_rfl) (by kernel_rfl) (fun _ _ _ h => h) (Or.inl ⟨by rfl, ?_⟩) HH.out ?_
  rotate_left
  · intro w hSw; go_simp; try with_reducible rfl
  change wpAnyH _ _ _ _ _ _ _ (Act.put _ (some 17) _) _
  simp only [Act.put, List.setIfInBounds_toArray, List.set_cons_zero, List.set_cons_succ]
  refine wpAnyH_take (i := 1) (v := ?_) rfl (by kernel_rfl) (by kernel_rfl) (by kernel_rfl) (fun _ _ _ h => h) (Or.inl ⟨by rfl, ?_⟩) HH.out ?_
  rotate_left
  · intro w hSw; go_simp; try with_reducible rfl
  change wpAnyH _ _ _ _ _ _ _ (Act.put _ (some 18) _) _
  simp only [Act.put, List.setIfInBounds_toArray, List.set_cons_zero, List.set_cons_succ]
  refine wpAnyH_take (i := 2) (v := ?_) rfl (by kernel_rfl) (by kernel_rfl) (by kernel_rfl) (fun _ _ _ h => h) (Or.inl ⟨by rfl, ?_⟩) HH.out ?_
  rotate_left
  · intro w hSw; go_simp; try with_reducible rfl
  change wpAnyH _ _ _ _ _ _ _ (Act.put _ (some 19) _) _
  simp only [Act.put, List.setIfInBounds_toArray, List.set_cons_zero, List.set_cons_succ]
  refine wpAnyH_take (i := 3) (v := ?_) rfl (by kernel_rfl) (by kernel_rfl) (by kernel_rfl) (fun _ _ _ h => h) (Or.inl ⟨by rfl, ?_⟩) HH.out ?_
  rotate_left
  · intro w hSw; go_simp; try with_reducible rfl
  change wpAnyH _ _ _ _ _ _ _ (Act.put _ (some 20) _) _
  simp only [Act.put, List.setIfInBounds_toArray, List.set_cons_zero, List.set_cons_succ]
  refine wpAnyH_take (i := 4) rfl (by kernel_rfl) (by kernel_rfl) (by kernel_rfl) (fun _ _ _ h => h) (cast_row rt31i (by rfl) rfl rfl (fun w hSw => hSw) hr) HH.out ?_
  change wpAnyH _ _ _ _ _ _ _ (Act.put _ (some 21) _) _
  simp only [Act.put, List.setIfInBounds_toArray, List.set_cons_zero, List.set_cons_succ]
  refine wpAnyH_ready (rs := [5]) (by kernel_rfl) (by simp) ?_
  refine AllReadyH.cons rfl (fun K hK => ?_) AllReadyH.nil
  go_simp
  go_at_call 39; refine (HN _ (eW0.trans (by (repeat (first | with_reducible exact Ext.refl _ | with_reducible assumption | refine Ext.trans ?_ (by with_reducible assumption) | refine Ext.alloc ?_ _ _ | refine Ext.drew ?_ | refine Ext.drewN ?_ _))))).mono ?_; rintro x w7 ⟨B, cB, rfl, hN, hgB, he7⟩; have he := he7
  refine hK.out _ _ ?_ (fun hHeld => ?_)
  · first | exact HH.out.ext he7 | exact HH.out
  clear hK K HH
  have HH : Hid (Blk _ B3 120 36 (cf r)) := hHeld
  clear hHeld
  refine wpAnyH_take (i := 6) (v := ?_) rfl (by kernel_rfl) (by kernel_rfl) (by kernel_rfl) (fun _ _ _ h => h) (Or.inl ⟨by rfl, ?_⟩) HH.out ?_
  rotate_left
  · intro w hSw; go_simp; try with_reducible rfl
  change wpAnyH _ _ _ _ _ _ _ (Act.put _ (some 23) _) _
  simp only [Act.put, List.setIfInBounds_toArray, List.set_cons_zero, List.set_cons_succ]
  refine wpAnyH_ready (rs := [7]) (by kernel_rfl) (by simp) ?_
  refine AllReadyH.cons rfl (fun K hK => ?_) AllReadyH.nil
  refine step_any rfl (op_loadRow rfl rt76n rfl (hN.blk.ext (by (repeat (first | with_reducible exact Ext.refl _ | with_reducible assumption | refine Ext.trans ?_ (by with_reducible assumption) | refine Ext.alloc ?_ _ _ | refine Ext.drew ?_ | refine Ext.drewN ?_ _)))) (by decide) ?_)
  refine hK.out _ _ HH.out (fun hHeld => ?_)
  clear hK K HH
  have HH : Hid (Blk _ B3 120 36 (cf r)) := hHeld
  clear hHeld
  change wpAnyH _ _ _ _ _ _ _ (Act.put _ (some 24) _) _
  simp only [Act.put, List.setIfInBounds_toArray, List.set_cons_zero, List.set_cons_succ]
  refine wpAnyH_take (i := 8) (v := ?_) rfl (by kernel_rfl) (by kernel_rfl) (by kernel_rfl) (fun _ _ _ h => h) (Or.inl ⟨by rfl, ?_⟩) HH.out ?_
  rotate_left
  · intro w hSw; go_simp; try with_reducible rfl
  change wpAnyH _ _ _ _ _ _ _ (Act.put _ (some 25) _) _
  simp only [Act.put, List.setIfInBounds_toArray, List.set_cons_zero, List.set_cons_succ]
  refine wpAnyH_take (i := 9) (v := ?_) rfl (by kernel_rfl) (by kernel_rfl) (by kernel_rfl) (fun _ _ _ h => h) (Or.inl ⟨by rfl, ?_⟩) HH.out ?_
  rotate_left
  · intro w hSw; go_simp; try with_reducible rfl
  change wpAnyH _ _ _ _ _ _ _ (Act.put _ (some 26) _) _
  simp only [Act.put, List.setIfInBounds_toArray, List.set_cons_zero, List.set_cons_succ]
  refine wpAnyH_ready (rs := [10]) (by kernel_rfl) (by simp) ?_
  refine AllReadyH.cons rfl (fun K hK => ?_) AllReadyH.nil
  refine step_any rfl (op_storeRow rfl rt76n rfl rfl (rowOf_size _ _ _) (newM_ones hN) (b6.ext (by (repeat (first | with_reducible exact Ext.refl _ | with_reducible assumption | refine Ext.trans ?_ (by with_reducible assumption) | refine Ext.alloc ?_ _ _ | refine Ext.drew ?_ | refine Ext.drewN ?_ _)))) (by decide) ?_)
  rintro W9 b9 m9
  refine hK.out _ _ ?_ (fun hHeld => ?_)
  · exact HH.out.mod m9 n3
  clear hK K HH
  have HH : Hid (Blk _ B3 120 36 (cf r)) := hHeld
  clear hHeld
  change wpAnyH _ _ _ _ _ _ _ (Act.put _ none _) _
  simp only [Act.put, List.setIfInBounds_toArray, List.set_cons_zero, List.set_cons_succ]
  refine wpAnyH_done (by kernel_rfl) ?_ _
  go_wp2
  go_ret2
  exact ⟨O6, g, c6, w6, w7, B, cB, rfl, gg, hF6, e06, Ext.trans (by (repeat (first | with_reducible exact Ext.refl _ | with_reducible assumption | refine Ext.trans ?_ (by with_reducible assumption) | refine Ext.alloc ?_ _ _ | refine Ext.drew ?_ | refine Ext.drewN ?_ _))) he7, hN, Nat.le_trans (Ext.size (by (repeat (first | with_reducible exact Ext.refl _ | with_reducible assumption | refine Ext.trans ?_ (by with_reducible assumption) | refine Ext.alloc ?_ _ _ | refine Ext.drew ?_ | refine Ext.drewN ?_ _)))) hgB, b9, m9⟩
end
end Go.Proofs.YgvahwGreat
