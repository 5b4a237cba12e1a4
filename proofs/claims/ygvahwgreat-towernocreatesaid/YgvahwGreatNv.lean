import Derived.Test.YgvahwGreatNw
import Derived.Test.YgvahwGreatEd
namespace Go.Proofs.YgvahwGreat
open Go.RowKit
set_option linter.unusedSimpArgs false

def z92 (P : Program) : Array Value := (zeroOf P 105).getD #[]
set_option maxRecDepth 1000000 in
theorem z92E : zeroOf Hvah.prog 105 = some (z92 Hvah.prog) := by
  have h : (zeroOf Hvah.prog 105).isSome = true := by kernel_rfl
  unfold z92
  cases hq : zeroOf Hvah.prog 105 with
  | none => rw [hq] at h; cases h
  | some z => rfl
set_option maxRecDepth 1000000 in
theorem z92s : (z92 Hvah.prog).size = 27024 := by kernel_rfl
theorem rt76n : RowT 89 2435 := rowT_of (by kernel_rfl) (by kernel_rfl)
section
variable {O : Nat → Prop} {w : World} {r : Array Value} {e : AEnv} {v : Value}
set_option maxRecDepth 100000 in
set_option maxHeartbeats 6400000 in
theorem eNewBadEnv (hr : r.size = 120) (h : EnvI O w (cf r) e) (hf : ¬ e.hashes.length ≤ 4) : Calls Hvah.prog 21 #[v, .agg r] w fun x w' => x = .returned (.tuple #[.pointer none, .bool false]) ∧ Ext w w' := by
  have HE := fun W (hW : Ext w W) => oEnvOK (h.ext hW) hr
  rw [decide_eq_false hf] at HE
  go_enter Hvah.func21, Hvah.ntmps21
  go_wp2_with (first | ((with_reducible (refine Veil.out ?_; apply wl_boxB)); (case hx => rfl); (case hn => exact hr); rintro B3 W3 e3 b3 g3) | ((with_reducible (refine Veil.out ?_; apply wl_loadRow rt31i)); (case hx => rfl); (case hB => exact b3.ext (by (repeat (first | with_reducible exact Ext.refl _ | with_reducible assumption | refine Ext.trans ?_ (by with_reducible assumption) | refine Ext.alloc ?_ _ _ | refine Ext.drew ?_ | refine Ext.drewN ?_ _)))); (case hi => decide); rw [rowOf_cf hr]) | (go_at_call 37; refine (HE _ e3).mono ?_; rintro x w4 ⟨rfl, e4⟩))
  go_ret2
  exact ⟨rfl, e3.trans e4⟩
set_option maxRecDepth 100000 in
set_option maxHeartbeats 6400000 in
theorem eNewBadWorld (hr : r.size = 120) (h : EnvI O w (cf r) e) (hf : e.hashes.length ≤ 4)
    (HF : ∀ W g, Ext w W → Blk W g 27024 105 (cf (z92 Hvah.prog)) → w.heap.size ≤ g → Calls Hvah.prog 38 #[.pointer (some ⟨g, 2435, none⟩), v] W fun x w' => x = .returned (.bool false) ∧ Ext w w') :
    Calls Hvah.prog 21 #[v, .agg r] w fun x w' => x = .returned (.tuple #[.pointer none, .bool false]) ∧ Ext w w' := by
  have HE := fun W (hW : Ext w W) => oEnvOK (h.ext hW) hr
  rw [decide_eq_true hf] at HE
  go_enter Hvah.func21, Hvah.ntmps21
  go_wp2_with (first | ((with_reducible (refine Veil.out ?_; apply wl_boxB)); (case hx => rfl); (case hn => exact hr); rintro B3 W3 e3 b3 g3) | ((with_reducible (refine Veil.out ?_; apply wl_loadRow rt31i)); (case hx => rfl); (case hB => exact b3.ext (by (repeat (first | with_reducible exact Ext.refl _ | with_reducible assumption | refine Ext.trans ?_ (by with_reducible assumption) | refine Ext.alloc ?_ _ _ | refine Ext.drew ?_ | refine Ext.drewN ?_ _)))); (case hi => decide); rw [rowOf_cf hr]) | (go_at_call 37; refine (HE _ e3).mono ?_; rintro x w4 ⟨rfl, e4⟩) | ((with_reducible (refine Veil.out ?_; apply wl_allocB z92E)); (case hn => exact z92s); rintro g W5 e5 b5 g5) | (go_at_call 38; refine (HF _ g (e3.trans (e4.trans e5)) b5 (Nat.le_trans (e3.trans e4).size g5)).mono ?_; rintro x w6 ⟨rfl, e6⟩))
  go_ret2
  exact ⟨rfl, e6⟩
set_option maxRecDepth 1000000 in
theorem z76one : ∀ i, i < 2435 → (cf (z76 Hvah.prog) i).oneCell' = true := by
  have h : (z76 Hvah.prog).toList.all (fun v => v.oneCell') = true := by kernel_rfl
  intro i hi
  have h2 := get_cf (r := (z76 Hvah.prog)) (i := i) (by rw [z76s]; exact hi)
  exact (List.all_eq_true.1 h) _ (Array.mem_toList_iff.2 (Array.mem_of_getElem? h2))
theorem newM_ones {B : Nat} {cB : Nat → Value} {p : Option Addr} (h : NewM O w B cB p e) : Ones (rowOf cB 0 2435) := ones_of (fun q hq => by
  rw [rowOf_size] at hq
  rw [cf_rowOf _ _ _ hq, Nat.zero_add]
  by_cases h0 : q = 0
  · subst h0; rw [h.ptr]; rfl
  by_cases h1 : q = 2258
  · subst h1; rw [h.top]; rfl
  by_cases h2 : q < 2260 ∨ 2380 ≤ q
  · rw [h.rest q hq h0 h1 h2]; exact z76one q hq
  rcases (show q < 2280 ∨ q = 2280 ∨ q = 2281 ∨ q = 2282 ∨ (2283 ≤ q ∧ q < 2315) ∨ (2315 ≤ q ∧ q < 2347) ∨ (2347 ≤ q ∧ q < 2379) ∨ q = 2379 by omega) with hh | rfl | rfl | rfl | hh | hh | hh | rfl
  · have := aat_one h.env.coinbase h.env.cLt (q - 2260) (by omega)
    rwa [show 2260 + (q - 2260) = q by omega] at this
  · rw [show cB 2280 = _ from h.env.number]; rfl
  · rw [show cB 2281 = _ from h.env.time]; rfl
  · rw [show cB 2282 = _ from h.env.gasLimit]; rfl
  · have := bat_one h.env.randao h.env.rLt (q - 2283) (by omega)
    rwa [show 2260 + 23 + (q - 2283) = q by omega] at this
  · have := bat_one h.env.chainID h.env.iLt (q - 2315) (by omega)
    rwa [show 2260 + 55 + (q - 2315) = q by omega] at this
  · have := bat_one h.env.baseFee h.env.bLt (q - 2347) (by omega)
    rwa [show 2260 + 87 + (q - 2347) = q by omega] at this
  · obtain ⟨_, _, q1, _⟩ := h.env.hashes.slice
    rw [show cB 2379 = _ from q1]; rfl)
set_option maxRecDepth 100000 in
set_option maxHeartbeats 6400000 in
theorem eNewGood (hr : r.size = 120) (h : EnvI O w (cf r) e) (hf : e.hashes.length ≤ 4) (hO : ∀ b, O b → b < w.heap.size) (F : Nat → (Nat → Value) → World → Prop)
    (HF : ∀ W g, Ext w W → Blk W g 27024 105 (cf (z92 Hvah.prog)) → w.heap.size ≤ g → Calls Hvah.prog 38 #[.pointer (some ⟨g, 2435, none⟩), v] W fun x w' => ∃ c6, x = .returned (.bool true) ∧ Blk w' g 27024 105 c6 ∧ F g c6 w' ∧ Mod (· = g) W w') :
    Calls Hvah.prog 21 #[v, .agg r] w fun x w' => ∃ g c6 w6 w7 B cB, x = .returned (.tuple #[.pointer (some ⟨g, 0, none⟩), .bool true]) ∧ w.heap.size ≤ g ∧ F g c6 w6 ∧ Ext w w6 ∧ Ext w6 w7 ∧ NewM O w7 B cB (some ⟨g, 2435, none⟩) e ∧ w6.heap.size ≤ B ∧ Blk w' g 27024 105 (layv c6 0 (rowOf cB 0 2435)) ∧ Mod (· = g) w7 w' := by
  have HE := fun W (hW : Ext w W) => oEnvOK (h.ext hW) hr
  rw [decide_eq_true hf] at HE
  go_enter Hvah.func21, Hvah.ntmps21
  go_upto_region 6 with (first | ((with_reducible (refine Veil.out ?_; apply wl_boxB)); (case hx => rfl); (case hn => exact hr); rintro B3 W3 e3 b3 g3) | ((with_reducible (refine Veil.out ?_; apply wl_loadRow rt31i)); (case hx => rfl); (case hB => exact b3.ext (by (repeat (first | with_reducible exact Ext.refl _ | with_reducible assumption | refine Ext.trans ?_ (by with_reducible assumption) | refine Ext.alloc ?_ _ _ | refine Ext.drew ?_ | refine Ext.drewN ?_ _)))); (case hi => decide); rw [rowOf_cf hr]) | (go_at_call 37; refine (HE _ e3).mono ?_; rintro x w4 ⟨rfl, e4⟩) | ((with_reducible (refine Veil.out ?_; apply wl_allocB z92E)); (case hn => exact z92s); rintro g W5 e5 b5 g5) | (go_at_call 38; refine (HF _ g (e3.trans (e4.trans e5)) b5 (Nat.le_trans (e3.trans e4).size g5)).mono ?_; rintro x w6 ⟨c6, rfl, b6, hF6, m6⟩))
  have gg : w.heap.size ≤ g := Nat.le_trans (e3.trans e4).size g5
  have n3 : ¬ B3 = g := fun q => by have := b3.lt; have := e4.size; omega
  have b36 := (b3.ext (e4.trans e5)).mod m6 n3
  have e06 : Ext w w6 := Ext.trans_mod (e3.trans (e4.trans e5)) m6 (fun q hq => by have hq2 : q = g := hq; rw [hq2]; exact gg)
  have HN := fun W (hW : Ext w6 W) => mNew (p := some ⟨g, 2435, none⟩) hr (h.ext (e06.trans hW)) hf (fun b hb => Nat.lt_of_lt_of_le (hO b hb) (e06.trans hW).size)
  clear HF HE b3 b5 m6
  refine w_ext ?_
  rintro W0 hW0
  have eW0 : Ext w6 W0 := hW0
  refine wp_region_held_drew (S := fun w' => Blk w' B3 120 36 (cf r)) (by kernel_rfl) (b36.ext hW0).drew (fun hHeld => ?_)
  have HH : Hid (Blk _ B3 120 36 (cf r)) := hHeld
  clear hHeld
  refine wpAnyH_take (i := 0) (v := ?_) rfl (by kernel_rfl) (by kernel_rfl) (by kernel_rfl) (fun _ _ _ h => h) (Or.inl ⟨by rfl, ?_⟩) HH.out ?_
  rotate_left
  · intro w hSw; go_simp; try with_reducible rfl
  change wpAnyH _ _ _ _ _ _ _ (Act.put _ (some 17) _) _
  simp only [Act.put, List.setIfInBounds_toArray, List.set_cons_zero, List.set_cons_succ]
  refine wpAnyH_take (i := 1) (v := ?_) rfl (by kernel_rfl) (by kernel_rfl) (by kernel_rfl) (fun _ _ _ h => h) (Or.inl ⟨by rfl, ?_⟩) HH.out ?_
  rotate_left
  · intro w hSw; go_simp; try with_reducible rfl
  change wpAnyH _ _ _ _ _ _ _ (Act.put _ (some 18) _) _
  simp only [Act.put, List.setIfInBounds_toArray, List.set_cons_zero, List.set_cons_succ]
  refine wpAnyH_take (i := 2) (v := ?_) rfl (by kernel_rfl) (by kernel_rfl) (by kernel_rfl) (fun _ _ _ h => h) (Or.inl ⟨by rfl, ?_⟩) HH.out ?_
  rotate_left
  · intro w hSw; go_simp; try with_reducible rfl
  change wpAnyH _ _ _ _ _ _ _ (Act.put _ (some 19) _) _
  simp only [Act.put, List.setIfInBounds_toArray, List.set_cons_zero, List.set_cons_succ]
  refine wpAnyH_take (i := 3) (v := ?_) rfl (by kernel_rfl) (by kernel_rfl) (by kernel_rfl) (fun _ _ _ h => h) (Or.inl ⟨by rfl, ?_⟩) HH.out ?_
  rotate_left
  · intro w hSw; go_simp; try with_reducible rfl
  change wpAnyH _ _ _ _ _ _ _ (Act.put _ (some 20) _) _
  simp only [Act.put, List.setIfInBounds_toArray, List.set_cons_zero, List.set_cons_succ]
  refine wpAnyH_take (i := 4) rfl (by kernel_rfl) (by kernel_rfl) (by kernel_rfl) (fun _ _ _ h => h) (cast_row rt31i (by rfl) rfl rfl (fun w hSw => hSw) hr) HH.out ?_
  change wpAnyH _ _ _ _ _ _ _ (Act.put _ (some 21) _) _
  simp only [Act.put, List.setIfInBounds_toArray, List.set_cons_zero, List.set_cons_succ]
  refine wpAnyH_ready (rs := [5]) (by kernel_rfl) (by simp) ?_
  refine AllReadyH.cons rfl (fun K hK => ?_) AllReadyH.nil
  go_simp
  go_at_call 39; refine (HN _ (eW0.trans (by (repeat (first | with_reducible exact Ext.refl _ | with_reducible assumption | refine Ext.trans ?_ (by with_reducible assumption) | refine Ext.alloc ?_ _ _ | refine Ext.drew ?_ | refine Ext.drewN ?_ _))))).mono ?_; rintro x w7 ⟨B, cB, rfl, hN, hgB, he7⟩; have he := he7
  refine hK.out _ _ ?_ (fun hHeld => ?_)
  · first | exact HH.out.ext he7 | exact HH.out
  clear hK K HH
  have HH : Hid (Blk _ B3 120 36 (cf r)) := hHeld
  clear hHeld
  refine wpAnyH_take (i := 6) (v := ?_) rfl (by kernel_rfl) (by kernel_rfl) (by kernel_rfl) (fun _ _ _ h => h) (Or.inl ⟨by rfl, ?_⟩) HH.out ?_
  rotate_left
  · intro w hSw; go_simp; try with_reducible rfl
  change wpAnyH _ _ _ _ _ _ _ (Act.put _ (some 23) _) _
  simp only [Act.put, List.setIfInBounds_toArray, List.set_cons_zero, List.set_cons_succ]
  refine wpAnyH_ready (rs := [7]) (by kernel_rfl) (by simp) ?_
  refine AllReadyH.cons rfl (fun K hK => ?_) AllReadyH.nil
  refine step_any rfl (op_loadRow rfl rt76n rfl (hN.blk.ext (by (repeat (first | with_reducible exact Ext.refl _ | with_reducible assumption | refine Ext.trans ?_ (by with_reducible assumption) | refine Ext.alloc ?_ _ _ | refine Ext.drew ?_ | refine Ext.drewN ?_ _)))) (by decide) ?_)
  refine hK.out _ _ HH.out (fun hHeld => ?_)
  clear hK K HH
  have HH : Hid (Blk _ B3 120 36 (cf r)) := hHeld
  clear hHeld
  change wpAnyH _ _ _ _ _ _ _ (Act.put _ (some 24) _) _
  simp only [Act.put, List.setIfInBounds_toArray, List.set_cons_zero, List.set_cons_succ]
  refine wpAnyH_take (i := 8) (v := ?_) rfl (by kernel_rfl) (by kernel_rfl) (by kernel_rfl) (fun _ _ _ h => h) (Or.inl ⟨by rfl, ?_⟩) HH.out ?_
  rotate_left
  · intro w hSw; go_simp; try with_reducible rfl
  change wpAnyH _ _ _ _ _ _ _ (Act.put _ (some 25) _) _
  simp only [Act.put, List.setIfInBounds_toArray, List.set_cons_zero, List.set_cons_succ]
  refine wpAnyH_take (i := 9) (v := ?_) rfl (by kernel_rfl) (by kernel_rfl) (by kernel_rfl) (fun _ _ _ h => h) (Or.inl ⟨by rfl, ?_⟩) HH.out ?_
  rotate_left
  · intro w hSw; go_simp; try with_reducible rfl
  change wpAnyH _ _ _ _ _ _ _ (Act.put _ (some 26) _) _
  simp only [Act.put, List.setIfInBounds_toArray, List.set_cons_zero, List.set_cons_succ]
  refine wpAnyH_ready (rs := [10]) (by kernel_rfl) (by simp) ?_
  refine AllReadyH.cons rfl (fun K hK => ?_) AllReadyH.nil
  refine step_any rfl (op_storeRow rfl rt76n rfl rfl (rowOf_size _ _ _) (newM_ones hN) (b6.ext (by (repeat (first | with_reducible exact Ext.refl _ | with_reducible assumption | refine Ext.trans ?_ (by with_reducible assumption) | refine Ext.alloc ?_ _ _ | refine Ext.drew ?_ | refine Ext.drewN ?_ _)))) (by decide) ?_)
  rintro W9 b9 m9
  refine hK.out _ _ ?_ (fun hHeld => ?_)
  · exact HH.out.mod m9 n3
  clear hK K HH
  have HH : Hid (Blk _ B3 120 36 (cf r)) := hHeld
  clear hHeld
  change wpAnyH _ _ _ _ _ _ _ (Act.put _ none _) _
  simp only [Act.put, List.setIfInBounds_toArray, List.set_cons_zero, List.set_cons_succ]
  refine wpAnyH_done (by kernel_rfl) ?_ _
  go_wp2
  go_ret2
  exact ⟨g, c6, w6, w7, B, cB, rfl, gg, hF6, e06, Ext.trans (by (repeat (first | with_reducible exact Ext.refl _ | with_reducible assumption | refine Ext.trans ?_ (by with_reducible assumption) | refine Ext.alloc ?_ _ _ | refine Ext.drew ?_ | refine Ext.drewN ?_ _))) he7, hN, Nat.le_trans (Ext.size (by (repeat (first | with_reducible exact Ext.refl _ | with_reducible assumption | refine Ext.trans ?_ (by with_reducible assumption) | refine Ext.alloc ?_ _ _ | refine Ext.drew ?_ | refine Ext.drewN ?_ _)))) hgB, b9, m9⟩
end
end Go.Proofs.YgvahwGreat
