import Derived.Test.YgvahwGreatVaultY
import Derived.Test.YgvahwGreatRowsJ
namespace Go.Proofs.YgvahwGreat
open Go.RowKit
set_option linter.unusedSimpArgs false
section
variable {own : Nat → Nat} {w w' : World} {g : Nat} {c c' : Nat → Value} {V X : EV}
theorem one80 : OneT 93 := oneT_of (by kernel_rfl) (by kernel_rfl)
theorem one21 : OneT 21 := oneT_of (by kernel_rfl) (by kernel_rfl)
theorem undo_keeps (V : EV) (e : JE) : (V.undo e).journal = V.journal ∧ (V.undo e).marks = V.marks := by
  unfold EV.undo
  repeat' (first | exact ⟨rfl, rfl⟩ | split)
theorem undo_logsLe (V : EV) (e : JE) : (V.undo e).logs.length ≤ V.logs.length := by
  unfold EV.undo
  repeat' (first | exact Nat.le_refl _ | (show V.logs.dropLast.length ≤ V.logs.length; rw [List.length_dropLast]; omega) | split)
theorem markAt_top {p : Nat} {ms : List Nat} (hm : V.marks = p :: ms) : V.markAt ms.length = p := by
  unfold EV.markAt
  rw [hm, List.reverse_cons, List.getD_eq_getElem?_getD, List.getElem?_append_right (by simp)]
  simp
/-- The first entry of the journal is the row's last. -/
theorem VRep.jtop {e : JE} {js : List JE} (h : VRep own w g c V) (hj : V.journal = e :: js) : ∃ bj cap cj, c 10629 = .slice (some ⟨bj, 0, none⟩) (js.length + 1) cap ∧ js.length + 1 ≤ cap ∧ cap ≤ 9223372036854775807 ∧ Blk w bj (cap * 9) 227 cj ∧ own bj = 3 ∧ JEC (Mu own) w cj (js.length * 9) e := by
  have hr := h.jrn
  rw [hj, List.reverse_cons] at hr
  rcases hr with ⟨q, _⟩ | ⟨b, cap, cj, q1, q2, q3, q4, q5, q6⟩
  · simp at q
  · rw [List.length_append, List.length_reverse, List.length_singleton] at q1 q2
    refine ⟨b, cap, cj, q1, q2, q3, q4, q5, ?_⟩
    have := q6 js.length (by simp)
    rwa [List.getElem_append_right (by simp), List.getElem_singleton] at this
set_option maxRecDepth 100000 in
set_option maxHeartbeats 6400000 in
theorem vUndoStop0 (h : VRep own w g c V) (hj : V.journal = []) : Calls Hvah.prog 365 #[.pointer (some ⟨g, 2435, none⟩)] w fun e w' => e = .returned (.bool false) ∧ Ext w w' := by
  have KB := fun W (hW : Ext w W) => h.blk.ext hW
  obtain ⟨sv, jv, hsv⟩ : ∃ sv, c 10629 = sv ∧ ∃ o cap, sv = .slice o 0 cap := by
    rcases h.jrn with ⟨_, q⟩ | ⟨b, cap, cj, q1, _⟩
    · exact ⟨_, q, none, 0, rfl⟩
    · rw [hj] at q1; exact ⟨_, q1, _, _, rfl⟩
  obtain ⟨o, cap, rfl⟩ := hsv
  clear hj h
  go_enter Hvah.func365, Hvah.ntmps365
  go_upto_region 2 with (first | ((with_reducible (refine Veil.out ?_; apply wl_load1 one80)); (case hx => rfl); (case hB => exact KB _ (by (repeat (first | with_reducible exact Ext.refl _ | with_reducible assumption | refine Ext.trans ?_ (by with_reducible assumption) | refine Ext.alloc ?_ _ _ | refine Ext.drew ?_ | refine Ext.drewN ?_ _)))); (case ho => decide); rw [jv]))
  refine w_ext ?_
  rintro W0 hW0
  refine wp_region_held_drew (S := fun w' => Ext W0 w') (by kernel_rfl) (Ext.refl _).drew (fun hHeld => ?_)
  have HH : Hid (Ext W0 _) := hHeld
  clear hHeld
  refine wpAnyH_take (i := 0) (v := ?_) rfl (by kernel_rfl) (by kernel_rfl) (by kernel_rfl) (fun _ _ _ h => h) (Or.inl ⟨by rfl, ?_⟩) HH.out ?_
  rotate_left
  · intro w hSw; go_simp; try with_reducible rfl
  change wpAnyH _ _ _ _ _ _ _ (Act.put _ (some 9) _) _
  simp only [Act.put, List.setIfInBounds_toArray, List.set_cons_zero, List.set_cons_succ]
  refine wpAnyH_take (i := 1) (v := ?_) rfl (by kernel_rfl) (by kernel_rfl) (by kernel_rfl) (fun _ _ _ h => h) (Or.inl ⟨by rfl, ?_⟩) HH.out ?_
  rotate_left
  · intro w hSw; go_simp; try with_reducible rfl
  change wpAnyH _ _ _ _ _ _ _ (Act.put _ (some 10) _) _
  simp only [Act.put, List.setIfInBounds_toArray, List.set_cons_zero, List.set_cons_succ]
  refine wpAnyH_take (i := 2) (v := ?_) rfl (by kernel_rfl) (by kernel_rfl) (by kernel_rfl) (fun _ _ _ h => h) (Or.inl ⟨by rfl, ?_⟩) HH.out ?_
  rotate_left
  · intro w hSw; go_simp; try with_reducible rfl
  change wpAnyH _ _ _ _ _ _ _ (Act.put _ (some 11) _) _
  simp only [Act.put, List.setIfInBounds_toArray, List.set_cons_zero, List.set_cons_succ]
  refine wpAnyH_take (i := 3) (v := undef) rfl (by kernel_rfl) (by kernel_rfl) (by kernel_rfl) (fun _ _ _ h => h) (Or.inr ⟨by rfl, rfl⟩) HH.out ?_
  change wpAnyH _ _ _ _ _ _ _ (Act.put _ (some 12) _) _
  simp only [Act.put, List.setIfInBounds_toArray, List.set_cons_zero, List.set_cons_succ]
  refine wpAnyH_take (i := 4) (v := undef) rfl (by kernel_rfl) (by kernel_rfl) (by kernel_rfl) (fun _ _ _ h => h) (Or.inr ⟨by rfl, rfl⟩) HH.out ?_
  change wpAnyH _ _ _ _ _ _ _ (Act.put _ (some 13) _) _
  simp only [Act.put, List.setIfInBounds_toArray, List.set_cons_zero, List.set_cons_succ]
  refine wpAnyH_take (i := 5) (v := undef) rfl (by kernel_rfl) (by kernel_rfl) (by kernel_rfl) (fun _ _ _ h => h) (Or.inr ⟨by rfl, rfl⟩) HH.out ?_
  change wpAnyH _ _ _ _ _ _ _ (Act.put _ (some 14) _) _
  simp only [Act.put, List.setIfInBounds_toArray, List.set_cons_zero, List.set_cons_succ]
  refine wpAnyH_take (i := 6) (v := undef) rfl (by kernel_rfl) (by kernel_rfl) (by kernel_rfl) (fun _ _ _ h => h) (Or.inr ⟨by rfl, rfl⟩) HH.out ?_
  change wpAnyH _ _ _ _ _ _ _ (Act.put _ (some 15) _) _
  simp only [Act.put, List.setIfInBounds_toArray, List.set_cons_zero, List.set_cons_succ]
  refine wpAnyH_take (i := 7) (v := undef) rfl (by kernel_rfl) (by kernel_rfl) (by kernel_rfl) (fun _ _ _ h => h) (Or.inr ⟨by rfl, rfl⟩) HH.out ?_
  change wpAnyH _ _ _ _ _ _ _ (Act.put _ (some 16) _) _
  simp only [Act.put, List.setIfInBounds_toArray, List.set_cons_zero, List.set_cons_succ]
  refine wpAnyH_take (i := 8) (v := undef) rfl (by kernel_rfl) (by kernel_rfl) (by kernel_rfl) (fun _ _ _ h => h) (Or.inr ⟨by rfl, rfl⟩) HH.out ?_
  change wpAnyH _ _ _ _ _ _ _ (Act.put _ (some 17) _) _
  simp only [Act.put, List.setIfInBounds_toArray, List.set_cons_zero, List.set_cons_succ]
  refine wpAnyH_take (i := 9) (v := undef) rfl (by kernel_rfl) (by kernel_rfl) (by kernel_rfl) (fun _ _ _ h => h) (Or.inr ⟨by rfl, rfl⟩) HH.out ?_
  change wpAnyH _ _ _ _ _ _ _ (Act.put _ (some 18) _) _
  simp only [Act.put, List.setIfInBounds_toArray, List.set_cons_zero, List.set_cons_succ]
  refine wpAnyH_take (i := 10) (v := undef) rfl (by kernel_rfl) (by kernel_rfl) (by kernel_rfl) (fun _ _ _ h => h) (Or.inr ⟨by rfl, rfl⟩) HH.out ?_
  change wpAnyH _ _ _ _ _ _ _ (Act.put _ (some 19) _) _
  simp only [Act.put, List.setIfInBounds_toArray, List.set_cons_zero, List.set_cons_succ]
  refine wpAnyH_take (i := 11) (v := undef) rfl (by kernel_rfl) (by kernel_rfl) (by kernel_rfl) (fun _ _ _ h => h) (Or.inr ⟨by rfl, rfl⟩) HH.out ?_
  change wpAnyH _ _ _ _ _ _ _ (Act.put _ (some 20) _) _
  simp only [Act.put, List.setIfInBounds_toArray, List.set_cons_zero, List.set_cons_succ]
  refine wpAnyH_take (i := 12) (v := undef) rfl (by kernel_rfl) (by kernel_rfl) (by kernel_rfl) (fun _ _ _ h => h) (Or.inr ⟨by rfl, rfl⟩) HH.out ?_
  change wpAnyH _ _ _ _ _ _ _ (Act.put _ (some 21) _) _
  simp only [Act.put, List.setIfInBounds_toArray, List.set_cons_zero, List.set_cons_succ]
  refine wpAnyH_take (i := 13) (v := undef) rfl (by kernel_rfl) (by kernel_rfl) (by kernel_rfl) (fun _ _ _ h => h) (Or.inr ⟨by rfl, rfl⟩) HH.out ?_
  change wpAnyH _ _ _ _ _ _ _ (Act.put _ (some 22) _) _
  simp only [Act.put, List.setIfInBounds_toArray, List.set_cons_zero, List.set_cons_succ]
  refine wpAnyH_take (i := 14) (v := undef) rfl (by kernel_rfl) (by kernel_rfl) (by kernel_rfl) (fun _ _ _ h => h) (Or.inr ⟨by rfl, rfl⟩) HH.out ?_
  change wpAnyH _ _ _ _ _ _ _ (Act.put _ (some 23) _) _
  simp only [Act.put, List.setIfInBounds_toArray, List.set_cons_zero, List.set_cons_succ]
  refine wpAnyH_take (i := 15) (v := undef) rfl (by kernel_rfl) (by kernel_rfl) (by kernel_rfl) (fun _ _ _ h => h) (Or.inr ⟨by rfl, rfl⟩) HH.out ?_
  change wpAnyH _ _ _ _ _ _ _ (Act.put _ (some 24) _) _
  simp only [Act.put, List.setIfInBounds_toArray, List.set_cons_zero, List.set_cons_succ]
  refine wpAnyH_take (i := 16) (v := undef) rfl (by kernel_rfl) (by kernel_rfl) (by kernel_rfl) (fun _ _ _ h => h) (Or.inr ⟨by rfl, rfl⟩) HH.out ?_
  change wpAnyH _ _ _ _ _ _ _ (Act.put _ (some 25) _) _
  simp only [Act.put, List.setIfInBounds_toArray, List.set_cons_zero, List.set_cons_succ]
  refine wpAnyH_take (i := 17) (v := undef) rfl (by kernel_rfl) (by kernel_rfl) (by kernel_rfl) (fun _ _ _ h => h) (Or.inr ⟨by rfl, rfl⟩) HH.out ?_
  change wpAnyH _ _ _ _ _ _ _ (Act.put _ (some 26) _) _
  simp only [Act.put, List.setIfInBounds_toArray, List.set_cons_zero, List.set_cons_succ]
  refine wpAnyH_take (i := 18) (v := undef) rfl (by kernel_rfl) (by kernel_rfl) (by kernel_rfl) (fun _ _ _ h => h) (Or.inr ⟨by rfl, rfl⟩) HH.out ?_
  change wpAnyH _ _ _ _ _ _ _ (Act.put _ (some 27) _) _
  simp only [Act.put, List.setIfInBounds_toArray, List.set_cons_zero, List.set_cons_succ]
  refine wpAnyH_take (i := 19) (v := undef) rfl (by kernel_rfl) (by kernel_rfl) (by kernel_rfl) (fun _ _ _ h => h) (Or.inr ⟨by rfl, rfl⟩) HH.out ?_
  change wpAnyH _ _ _ _ _ _ _ (Act.put _ (some 28) _) _
  simp only [Act.put, List.setIfInBounds_toArray, List.set_cons_zero, List.set_cons_succ]
  refine wpAnyH_take (i := 20) (v := undef) rfl (by kernel_rfl) (by kernel_rfl) (by kernel_rfl) (fun _ _ _ h => h) (Or.inr ⟨by rfl, rfl⟩) HH.out ?_
  change wpAnyH _ _ _ _ _ _ _ (Act.put _ (some 29) _) _
  simp only [Act.put, List.setIfInBounds_toArray, List.set_cons_zero, List.set_cons_succ]
  refine wpAnyH_take (i := 21) (v := undef) rfl (by kernel_rfl) (by kernel_rfl) (by kernel_rfl) (fun _ _ _ h => h) (Or.inr ⟨by rfl, rfl⟩) HH.out ?_
  change wpAnyH _ _ _ _ _ _ _ (Act.put _ (some 30) _) _
  simp only [Act.put, List.setIfInBounds_toArray, List.set_cons_zero, List.set_cons_succ]
  refine wpAnyH_take (i := 22) (v := undef) rfl (by kernel_rfl) (by kernel_rfl) (by kernel_rfl) (fun _ _ _ h => h) (Or.inr ⟨by rfl, rfl⟩) HH.out ?_
  change wpAnyH _ _ _ _ _ _ _ (Act.put _ (some 31) _) _
  simp only [Act.put, List.setIfInBounds_toArray, List.set_cons_zero, List.set_cons_succ]
  refine wpAnyH_take (i := 23) (v := undef) rfl (by kernel_rfl) (by kernel_rfl) (by kernel_rfl) (fun _ _ _ h => h) (Or.inr ⟨by rfl, rfl⟩) HH.out ?_
  change wpAnyH _ _ _ _ _ _ _ (Act.put _ (some 32) _) _
  simp only [Act.put, List.setIfInBounds_toArray, List.set_cons_zero, List.set_cons_succ]
  refine wpAnyH_take (i := 24) (v := undef) rfl (by kernel_rfl) (by kernel_rfl) (by kernel_rfl) (fun _ _ _ h => h) (Or.inr ⟨by rfl, rfl⟩) HH.out ?_
  change wpAnyH _ _ _ _ _ _ _ (Act.put _ (some 33) _) _
  simp only [Act.put, List.setIfInBounds_toArray, List.set_cons_zero, List.set_cons_succ]
  refine wpAnyH_take (i := 25) (v := ?_) rfl (by kernel_rfl) (by kernel_rfl) (by kernel_rfl) (fun _ _ _ h => h) (Or.inl ⟨by rfl, ?_⟩) HH.out ?_
  rotate_left
  · intro w hSw; go_simp; try with_reducible rfl
  change wpAnyH _ _ _ _ _ _ _ (Act.put _ (some 34) _) _
  simp only [Act.put, List.setIfInBounds_toArray, List.set_cons_zero, List.set_cons_succ]
  refine wpAnyH_done (by kernel_rfl) ?_ _
  go_wp2
  go_ret
  exact ⟨rfl, by (repeat (first | with_reducible exact Ext.refl _ | with_reducible assumption | refine Ext.trans ?_ (by with_reducible assumption) | refine Ext.alloc ?_ _ _ | refine Ext.drew ?_ | refine Ext.drewN ?_ _))⟩
set_option maxRecDepth 100000 in
set_option maxHeartbeats 6400000 in
theorem vUndoStop1 {p : Nat} {ms : List Nat} (h : VRep own w g c V) (hm : V.marks = p :: ms) (hpos : 0 < V.journal.length) (hle : V.journal.length ≤ p) : Calls Hvah.prog 365 #[.pointer (some ⟨g, 2435, none⟩)] w fun e w' => e = .returned (.bool false) ∧ Ext w w' := by
  have hnM := h.nM
  have hnJ := h.nJ
  have n1 := h.nm
  rw [hm, List.length_cons] at n1 hnM
  have n2 := h.marks ms.length (by rw [hm]; simp)
  rw [markAt_top hm] at n2
  have HL := fun W (hW : Ext w W) => vLive (h.blk.ext hW) (ms.length + 1) (ms.length : Int) n1 (by omega)
  rw [decide_eq_true (show (0 : Int) ≤ ms.length ∧ (ms.length : Int) < ((ms.length + 1 : Nat) : Int) by omega)] at HL
  have hpj : p ≤ V.journal.length := h.jok.marks p (by rw [hm]; simp)
  have w1 : IntKind.i32.wrap (ms.length : Int) = (ms.length : Int) := by rw [IntKind.wrap_i32]; omega
  have KB := fun W (hW : Ext w W) => h.blk.ext hW
  have mm1 : (ms.length : Int) < 16384 := by omega
  generalize ms.length = mm at *
  obtain ⟨e, js, hj⟩ : ∃ e js, V.journal = e :: js := by cases hh : V.journal with | nil => (rw [hh] at hpos; cases hpos) | cons e js => exact ⟨e, js, rfl⟩
  obtain ⟨bj, cap, cj, jv, hc1, hc2, hjb, hown, hje⟩ := h.jtop hj
  rw [hj, List.length_cons] at hle hpj hnJ
  clear hj hpos h hje hjb
  generalize js.length = k at *
  have z1 : ((k : Int) + 1 == 0) = false := by simp; omega
  have z2 : (k : Int) + 1 ≤ p := by omega
  have z3 : IntKind.i64.wrap (p : Int) = (p : Int) := by rw [IntKind.wrap_i64]; omega
  go_enter Hvah.func365, Hvah.ntmps365
  go_upto_region 2 with (first | ((with_reducible (refine Veil.out ?_; apply wl_load1 one80)); (case hx => rfl); (case hB => exact KB _ (by (repeat (first | with_reducible exact Ext.refl _ | with_reducible assumption | refine Ext.trans ?_ (by with_reducible assumption) | refine Ext.alloc ?_ _ _ | refine Ext.drew ?_ | refine Ext.drewN ?_ _)))); (case ho => decide); rw [jv]))
  refine w_ext ?_
  rintro W0 hW0
  refine wp_region_held_drew (S := fun w' => Ext W0 w') (by kernel_rfl) (Ext.refl _).drew (fun hHeld => ?_)
  have HH : Hid (Ext W0 _) := hHeld
  clear hHeld
  refine wpAnyH_take (i := 0) (v := ?_) rfl (by kernel_rfl) (by kernel_rfl) (by kernel_rfl) (fun _ _ _ h => h) (Or.inl ⟨by rfl, ?_⟩) HH.out ?_
  rotate_left
  · intro w hSw; go_simp; try with_reducible rfl
  change wpAnyH _ _ _ _ _ _ _ (Act.put _ (some 9) _) _
  simp only [Act.put, List.setIfInBounds_toArray, List.set_cons_zero, List.set_cons_succ]
  refine wpAnyH_take (i := 1) (v := ?_) rfl (by kernel_rfl) (by kernel_rfl) (by kernel_rfl) (fun _ _ _ h => h) (Or.inl ⟨by rfl, ?_⟩) HH.out ?_
  rotate_left
  · intro w hSw; go_simp; try with_reducible rfl
  change wpAnyH _ _ _ _ _ _ _ (Act.put _ (some 10) _) _
  simp only [Act.put, List.setIfInBounds_toArray, List.set_cons_zero, List.set_cons_succ]
  refine wpAnyH_take (i := 2) (v := ?_) rfl (by kernel_rfl) (by kernel_rfl) (by kernel_rfl) (fun _ _ _ h => h) (Or.inl ⟨by rfl, ?_⟩) HH.out ?_
  rotate_left
  · intro w hSw; go_simp; try with_reducible rfl
  change wpAnyH _ _ _ _ _ _ _ (Act.put _ (some 11) _) _
  simp only [Act.put, List.setIfInBounds_toArray, List.set_cons_zero, List.set_cons_succ]
  refine wpAnyH_take (i := 3) (v := ?_) rfl (by kernel_rfl) (by kernel_rfl) (by kernel_rfl) (fun _ _ _ h => h) (Or.inl ⟨by rfl, ?_⟩) HH.out ?_
  rotate_left
  · intro w hSw; go_simp; try with_reducible rfl
  change wpAnyH _ _ _ _ _ _ _ (Act.put _ (some 12) _) _
  simp only [Act.put, List.setIfInBounds_toArray, List.set_cons_zero, List.set_cons_succ]
  refine wpAnyH_take (i := 4) (v := ?_) rfl (by kernel_rfl) (by kernel_rfl) (by kernel_rfl) (fun _ _ _ h => h) (Or.inl ⟨by rfl, ?_⟩) HH.out ?_
  rotate_left
  · intro w hSw; go_simp; try with_reducible rfl
  change wpAnyH _ _ _ _ _ _ _ (Act.put _ (some 13) _) _
  simp only [Act.put, List.setIfInBounds_toArray, List.set_cons_zero, List.set_cons_succ]
  refine wpAnyH_take (i := 5) (v := ?_) rfl (by kernel_rfl) (by kernel_rfl) (by kernel_rfl) (fun _ _ _ h => h) (Or.inl ⟨by rfl, ?_⟩) HH.out ?_
  rotate_left
  · intro w hSw; go_simp; try with_reducible rfl
  change wpAnyH _ _ _ _ _ _ _ (Act.put _ (some 14) _) _
  simp only [Act.put, List.setIfInBounds_toArray, List.set_cons_zero, List.set_cons_succ]
  refine wpAnyH_take (i := 6) (v := ?_) rfl (by kernel_rfl) (by kernel_rfl) (by kernel_rfl) (fun _ _ _ h => h) (Or.inl ⟨by rfl, ?_⟩) HH.out ?_
  rotate_left
  · intro w hSw; go_simp; try with_reducible rfl
  change wpAnyH _ _ _ _ _ _ _ (Act.put _ (some 15) _) _
  simp only [Act.put, List.setIfInBounds_toArray, List.set_cons_zero, List.set_cons_succ]
  refine wpAnyH_take (i := 7) rfl (by kernel_rfl) (by kernel_rfl) (by kernel_rfl) (fun _ _ _ h => h) (yieldsIf_load1 (by rfl) _ _ rfl _ _ rfl one21 _ (fun w hSw => by rw [(KB _ (Ext.trans (by (repeat (first | with_reducible exact Ext.refl _ | with_reducible assumption | refine Ext.trans ?_ (by with_reducible assumption) | refine Ext.alloc ?_ _ _ | refine Ext.drew ?_ | refine Ext.drewN ?_ _))) hSw)).cell (by omega), n1])) HH.out ?_
  change wpAnyH _ _ _ _ _ _ _ (Act.put _ (some 16) _) _
  simp only [Act.put, List.setIfInBounds_toArray, List.set_cons_zero, List.set_cons_succ]
  refine wpAnyH_take (i := 8) (v := ?_) rfl (by kernel_rfl) (by kernel_rfl) (by kernel_rfl) (fun _ _ _ h => h) (Or.inl ⟨by rfl, ?_⟩) HH.out ?_
  rotate_left
  · intro w hSw; go_simp; try with_reducible rfl
  change wpAnyH _ _ _ _ _ _ _ (Act.put _ (some 17) _) _
  simp only [Act.put, List.setIfInBounds_toArray, List.set_cons_zero, List.set_cons_succ]
  refine wpAnyH_ready (rs := [9]) (by kernel_rfl) (by simp) ?_
  refine AllReadyH.cons rfl (fun K hK => ?_) AllReadyH.nil
  go_simp
  go_at_call 364; refine (HL _ (by (repeat (first | with_reducible exact Ext.refl _ | with_reducible assumption | refine Ext.trans ?_ (by with_reducible assumption) | refine Ext.alloc ?_ _ _ | refine Ext.drew ?_ | refine Ext.drewN ?_ _)))).mono ?_; rintro e w1 ⟨rfl, hww⟩; replace hww := hww.symm; subst hww
  refine hK.out _ _ ?_ (fun hHeld => ?_)
  · first | exact HH.out.trans hmY | exact HH.out.trans he | exact HH.out
  clear hK K HH
  have HH : Hid (Ext W0 _) := hHeld
  clear hHeld
  refine wpAnyH_take (i := 10) (v := ?_) rfl (by kernel_rfl) (by kernel_rfl) (by kernel_rfl) (fun _ _ _ h => h) (Or.inl ⟨by rfl, ?_⟩) HH.out ?_
  rotate_left
  · intro w hSw; go_simp; try with_reducible rfl
  change wpAnyH _ _ _ _ _ _ _ (Act.put _ (some 19) _) _
  simp only [Act.put, List.setIfInBounds_toArray, List.set_cons_zero, List.set_cons_succ]
  refine wpAnyH_take (i := 11) (v := ?_) rfl (by kernel_rfl) (by kernel_rfl) (by kernel_rfl) (fun _ _ _ h => h) (Or.inl ⟨by rfl, ?_⟩) HH.out ?_
  rotate_left
  · intro w hSw; go_simp; try with_reducible rfl
  change wpAnyH _ _ _ _ _ _ _ (Act.put _ (some 20) _) _
  simp only [Act.put, List.setIfInBounds_toArray, List.set_cons_zero, List.set_cons_succ]
  refine wpAnyH_take (i := 12) (v := ?_) rfl (by kernel_rfl) (by kernel_rfl) (by kernel_rfl) (fun _ _ _ h => h) (Or.inl ⟨by rfl, ?_⟩) HH.out ?_
  rotate_left
  · intro w hSw; go_simp; try with_reducible rfl
  change wpAnyH _ _ _ _ _ _ _ (Act.put _ (some 21) _) _
  simp only [Act.put, List.setIfInBounds_toArray, List.set_cons_zero, List.set_cons_succ]
  refine wpAnyH_take (i := 13) (v := ?_) rfl (by kernel_rfl) (by kernel_rfl) (by kernel_rfl) (fun _ _ _ h => h) (Or.inl ⟨by rfl, ?_⟩) HH.out ?_
  rotate_left
  · intro w hSw; go_simp; try with_reducible rfl
  change wpAnyH _ _ _ _ _ _ _ (Act.put _ (some 22) _) _
  simp only [Act.put, List.setIfInBounds_toArray, List.set_cons_zero, List.set_cons_succ]
  refine wpAnyH_take (i := 14) (v := ?_) rfl (by kernel_rfl) (by kernel_rfl) (by kernel_rfl) (fun _ _ _ h => h) (Or.inl ⟨by rfl, ?_⟩) HH.out ?_
  rotate_left
  · intro w hSw; go_simp; try with_reducible rfl
  change wpAnyH _ _ _ _ _ _ _ (Act.put _ (some 23) _) _
  simp only [Act.put, List.setIfInBounds_toArray, List.set_cons_zero, List.set_cons_succ]
  refine wpAnyH_take (i := 15) (v := ?_) rfl (by kernel_rfl) (by kernel_rfl) (by kernel_rfl) (fun _ _ _ h => h) (Or.inl ⟨by rfl, ?_⟩) HH.out ?_
  rotate_left
  · intro w hSw; go_simp; try with_reducible rfl
  change wpAnyH _ _ _ _ _ _ _ (Act.put _ (some 24) _) _
  simp only [Act.put, List.setIfInBounds_toArray, List.set_cons_zero, List.set_cons_succ]
  refine wpAnyH_take (i := 16) rfl (by kernel_rfl) (by kernel_rfl) (by kernel_rfl) (fun _ _ _ h => h) (yieldsIf_load1 (by rfl) _ _ rfl _ _ rfl one21 _ (fun w hSw => by rw [(KB _ (Ext.trans (by (repeat (first | with_reducible exact Ext.refl _ | with_reducible assumption | refine Ext.trans ?_ (by with_reducible assumption) | refine Ext.alloc ?_ _ _ | refine Ext.drew ?_ | refine Ext.drewN ?_ _))) hSw)).cell (by omega), n1])) HH.out ?_
  change wpAnyH _ _ _ _ _ _ _ (Act.put _ (some 25) _) _
  simp only [Act.put, List.setIfInBounds_toArray, List.set_cons_zero, List.set_cons_succ]
  refine wpAnyH_take (i := 17) (v := ?_) rfl (by kernel_rfl) (by kernel_rfl) (by kernel_rfl) (fun _ _ _ h => h) (Or.inl ⟨by rfl, ?_⟩) HH.out ?_
  rotate_left
  · intro w hSw; go_simp; try with_reducible rfl
  change wpAnyH _ _ _ _ _ _ _ (Act.put _ (some 26) _) _
  simp only [Act.put, List.setIfInBounds_toArray, List.set_cons_zero, List.set_cons_succ]
  refine wpAnyH_take (i := 18) (v := ?_) rfl (by kernel_rfl) (by kernel_rfl) (by kernel_rfl) (fun _ _ _ h => h) (Or.inl ⟨by rfl, ?_⟩) HH.out ?_
  rotate_left
  · intro w hSw; go_simp; try with_reducible rfl
  change wpAnyH _ _ _ _ _ _ _ (Act.put _ (some 27) _) _
  simp only [Act.put, List.setIfInBounds_toArray, List.set_cons_zero, List.set_cons_succ]
  refine wpAnyH_take (i := 19) (v := ?_) rfl (by kernel_rfl) (by kernel_rfl) (by kernel_rfl) (fun _ _ _ h => h) (Or.inl ⟨by rfl, ?_⟩) HH.out ?_
  rotate_left
  · intro w hSw; go_simp; try with_reducible rfl
  change wpAnyH _ _ _ _ _ _ _ (Act.put _ (some 28) _) _
  simp only [Act.put, List.setIfInBounds_toArray, List.set_cons_zero, List.set_cons_succ]
  refine wpAnyH_take (i := 20) (v := ?_) rfl (by kernel_rfl) (by kernel_rfl) (by kernel_rfl) (fun _ _ _ h => h) (Or.inl ⟨by rfl, ?_⟩) HH.out ?_
  rotate_left
  · intro w hSw; go_simp; try with_reducible rfl
  change wpAnyH _ _ _ _ _ _ _ (Act.put _ (some 29) _) _
  simp only [Act.put, List.setIfInBounds_toArray, List.set_cons_zero, List.set_cons_succ]
  refine wpAnyH_take (i := 21) rfl (by kernel_rfl) (by kernel_rfl) (by kernel_rfl) (fun _ _ _ h => h) (yieldsIf_load1 (by rfl) _ _ rfl _ _ rfl one21 _ (fun w hSw => by rw [(KB _ (Ext.trans (by (repeat (first | with_reducible exact Ext.refl _ | with_reducible assumption | refine Ext.trans ?_ (by with_reducible assumption) | refine Ext.alloc ?_ _ _ | refine Ext.drew ?_ | refine Ext.drewN ?_ _))) hSw)).cell (by omega), n2])) HH.out ?_
  change wpAnyH _ _ _ _ _ _ _ (Act.put _ (some 30) _) _
  simp only [Act.put, List.setIfInBounds_toArray, List.set_cons_zero, List.set_cons_succ]
  refine wpAnyH_take (i := 22) (v := ?_) rfl (by kernel_rfl) (by kernel_rfl) (by kernel_rfl) (fun _ _ _ h => h) (Or.inl ⟨by rfl, ?_⟩) HH.out ?_
  rotate_left
  · intro w hSw; go_simp; try with_reducible rfl
  change wpAnyH _ _ _ _ _ _ _ (Act.put _ (some 31) _) _
  simp only [Act.put, List.setIfInBounds_toArray, List.set_cons_zero, List.set_cons_succ]
  refine wpAnyH_take (i := 23) (v := ?_) rfl (by kernel_rfl) (by kernel_rfl) (by kernel_rfl) (fun _ _ _ h => h) (Or.inl ⟨by rfl, ?_⟩) HH.out ?_
  rotate_left
  · intro w hSw; go_simp; try with_reducible rfl
  change wpAnyH _ _ _ _ _ _ _ (Act.put _ (some 32) _) _
  simp only [Act.put, List.setIfInBounds_toArray, List.set_cons_zero, List.set_cons_succ]
  refine wpAnyH_take (i := 24) (v := ?_) rfl (by kernel_rfl) (by kernel_rfl) (by kernel_rfl) (fun _ _ _ h => h) (Or.inl ⟨by rfl, ?_⟩) HH.out ?_
  rotate_left
  · intro w hSw; go_simp; try with_reducible rfl
  change wpAnyH _ _ _ _ _ _ _ (Act.put _ (some 33) _) _
  simp only [Act.put, List.setIfInBounds_toArray, List.set_cons_zero, List.set_cons_succ]
  refine wpAnyH_take (i := 25) (v := ?_) rfl (by kernel_rfl) (by kernel_rfl) (by kernel_rfl) (fun _ _ _ h => h) (Or.inl ⟨by rfl, ?_⟩) HH.out ?_
  rotate_left
  · intro w hSw; go_simp; try with_reducible rfl
  change wpAnyH _ _ _ _ _ _ _ (Act.put _ (some 34) _) _
  simp only [Act.put, List.setIfInBounds_toArray, List.set_cons_zero, List.set_cons_succ]
  refine wpAnyH_done (by kernel_rfl) ?_ _
  go_wp2
  go_ret
  exact ⟨rfl, by (repeat (first | with_reducible exact Ext.refl _ | with_reducible assumption | refine Ext.trans ?_ (by with_reducible assumption) | refine Ext.alloc ?_ _ _ | refine Ext.drew ?_ | refine Ext.drewN ?_ _))⟩
set_option maxRecDepth 100000 in
set_option maxHeartbeats 6400000 in
theorem vUndoGo {p : Nat} {ms : List Nat} {e : JE} {js : List JE} (h : VRep own w g c V) (hm : V.marks = p :: ms) (hj : V.journal = e :: js) (hgt : p ≤ js.length) (hlog : e.kind = 7 → V.logs ≠ []) : Calls Hvah.prog 365 #[.pointer (some ⟨g, 2435, none⟩)] w fun r w' => r = .returned (.bool true) ∧ ∃ c', VRep own w' g c' { V.undo e with journal := js } ∧ VStep own w c own w' c' := by
  have hm0 := hm
  have hml : ms.length + 1 ≤ 16384 := by have := h.nM; rw [hm] at this; exact this
  have hnM := h.nM
  have hnJ := h.nJ
  have n1 := h.nm
  rw [hm, List.length_cons] at n1 hnM
  have n2 := h.marks ms.length (by rw [hm]; simp)
  rw [markAt_top hm] at n2
  have HL := fun W (hW : Ext w W) => vLive (h.blk.ext hW) (ms.length + 1) (ms.length : Int) n1 (by omega)
  rw [decide_eq_true (show (0 : Int) ≤ ms.length ∧ (ms.length : Int) < ((ms.length + 1 : Nat) : Int) by omega)] at HL
  have hpj : p ≤ V.journal.length := h.jok.marks p (by rw [hm]; simp)
  have w1 : IntKind.i32.wrap (ms.length : Int) = (ms.length : Int) := by rw [IntKind.wrap_i32]; omega
  have KB := fun W (hW : Ext w W) => h.blk.ext hW
  have mm1 : (ms.length : Int) < 16384 := by omega
  obtain ⟨bj, cap, cj, jv, hc1, hc2, hjb, hown, hje⟩ := h.jtop hj
  have HU := fun W (hW : Ext w W) => vUndo (h.ext hW) (hjb.ext hW) hown (hje.ext hW) (by have : (js.length + 1) * 9 ≤ cap * 9 := Nat.mul_le_mul_right _ hc1; omega) (h.jok.fits e (by rw [hj]; simp)) hlog
  rw [hj, List.length_cons] at hpj hnJ
  have z1 : ((js.length : Int) + 1 == 0) = false := by simp; omega
  have z2 : ¬ (js.length : Int) + 1 ≤ p := by omega
  have z3 : IntKind.i64.wrap (p : Int) = (p : Int) := by rw [IntKind.wrap_i64]; omega
  have z4 : IntKind.i64.wrap (js.length : Int) = (js.length : Int) := by rw [IntKind.wrap_i64]; omega
  obtain ⟨mm, hmm⟩ : ∃ mm, Hid (ms.length = mm) := ⟨_, rfl⟩
  obtain ⟨k, hk⟩ : ∃ k, Hid (js.length = k) := ⟨_, rfl⟩
  rw [hmm.out] at n1 n2 HL w1 mm1
  rw [hk.out] at jv HU hc1 z1 z2 z4 hnJ hgt
  go_enter Hvah.func365, Hvah.ntmps365
  go_upto_region 2 with (first | ((with_reducible (refine Veil.out ?_; apply wl_load1 one80)); (case hx => rfl); (case hB => exact KB _ (by (repeat (first | with_reducible exact Ext.refl _ | with_reducible assumption | refine Ext.trans ?_ (by with_reducible assumption) | refine Ext.alloc ?_ _ _ | refine Ext.drew ?_ | refine Ext.drewN ?_ _)))); (case ho => decide); rw [jv]))
  refine w_ext ?_
  rintro W0 hW0
  refine wp_region_held_drew (S := fun w' => Ext W0 w') (by kernel_rfl) (Ext.refl _).drew (fun hHeld => ?_)
  have HH : Hid (Ext W0 _) := hHeld
  clear hHeld
  refine wpAnyH_take (i := 0) (v := ?_) rfl (by kernel_rfl) (by kernel_rfl) (by kernel_rfl) (fun _ _ _ h => h) (Or.inl ⟨by rfl, ?_⟩) HH.out ?_
  rotate_left
  · intro w hSw; go_simp; try with_reducible rfl
  change wpAnyH _ _ _ _ _ _ _ (Act.put _ (some 9) _) _
  simp only [Act.put, List.setIfInBounds_toArray, List.set_cons_zero, List.set_cons_succ]
  refine wpAnyH_take (i := 1) (v := ?_) rfl (by kernel_rfl) (by kernel_rfl) (by kernel_rfl) (fun _ _ _ h => h) (Or.inl ⟨by rfl, ?_⟩) HH.out ?_
  rotate_left
  · intro w hSw; go_simp; try with_reducible rfl
  change wpAnyH _ _ _ _ _ _ _ (Act.put _ (some 10) _) _
  simp only [Act.put, List.setIfInBounds_toArray, List.set_cons_zero, List.set_cons_succ]
  refine wpAnyH_take (i := 2) (v := ?_) rfl (by kernel_rfl) (by kernel_rfl) (by kernel_rfl) (fun _ _ _ h => h) (Or.inl ⟨by rfl, ?_⟩) HH.out ?_
  rotate_left
  · intro w hSw; go_simp; try with_reducible rfl
  change wpAnyH _ _ _ _ _ _ _ (Act.put _ (some 11) _) _
  simp only [Act.put, List.setIfInBounds_toArray, List.set_cons_zero, List.set_cons_succ]
  refine wpAnyH_take (i := 3) (v := ?_) rfl (by kernel_rfl) (by kernel_rfl) (by kernel_rfl) (fun _ _ _ h => h) (Or.inl ⟨by rfl, ?_⟩) HH.out ?_
  rotate_left
  · intro w hSw; go_simp; try with_reducible rfl
  change wpAnyH _ _ _ _ _ _ _ (Act.put _ (some 12) _) _
  simp only [Act.put, List.setIfInBounds_toArray, List.set_cons_zero, List.set_cons_succ]
  refine wpAnyH_take (i := 4) (v := ?_) rfl (by kernel_rfl) (by kernel_rfl) (by kernel_rfl) (fun _ _ _ h => h) (Or.inl ⟨by rfl, ?_⟩) HH.out ?_
  rotate_left
  · intro w hSw; go_simp; try with_reducible rfl
  change wpAnyH _ _ _ _ _ _ _ (Act.put _ (some 13) _) _
  simp only [Act.put, List.setIfInBounds_toArray, List.set_cons_zero, List.set_cons_succ]
  refine wpAnyH_take (i := 5) (v := ?_) rfl (by kernel_rfl) (by kernel_rfl) (by kernel_rfl) (fun _ _ _ h => h) (Or.inl ⟨by rfl, ?_⟩) HH.out ?_
  rotate_left
  · intro w hSw; go_simp; try with_reducible rfl
  change wpAnyH _ _ _ _ _ _ _ (Act.put _ (some 14) _) _
  simp only [Act.put, List.setIfInBounds_toArray, List.set_cons_zero, List.set_cons_succ]
  refine wpAnyH_take (i := 6) (v := ?_) rfl (by kernel_rfl) (by kernel_rfl) (by kernel_rfl) (fun _ _ _ h => h) (Or.inl ⟨by rfl, ?_⟩) HH.out ?_
  rotate_left
  · intro w hSw; go_simp; try with_reducible rfl
  change wpAnyH _ _ _ _ _ _ _ (Act.put _ (some 15) _) _
  simp only [Act.put, List.setIfInBounds_toArray, List.set_cons_zero, List.set_cons_succ]
  refine wpAnyH_take (i := 7) rfl (by kernel_rfl) (by kernel_rfl) (by kernel_rfl) (fun _ _ _ h => h) (yieldsIf_load1 (by rfl) _ _ rfl _ _ rfl one21 _ (fun w hSw => by rw [(KB _ (Ext.trans (by (repeat (first | with_reducible exact Ext.refl _ | with_reducible assumption | refine Ext.trans ?_ (by with_reducible assumption) | refine Ext.alloc ?_ _ _ | refine Ext.drew ?_ | refine Ext.drewN ?_ _))) hSw)).cell (by omega), n1])) HH.out ?_
  change wpAnyH _ _ _ _ _ _ _ (Act.put _ (some 16) _) _
  simp only [Act.put, List.setIfInBounds_toArray, List.set_cons_zero, List.set_cons_succ]
  refine wpAnyH_take (i := 8) (v := ?_) rfl (by kernel_rfl) (by kernel_rfl) (by kernel_rfl) (fun _ _ _ h => h) (Or.inl ⟨by rfl, ?_⟩) HH.out ?_
  rotate_left
  · intro w hSw; go_simp; try with_reducible rfl
  change wpAnyH _ _ _ _ _ _ _ (Act.put _ (some 17) _) _
  simp only [Act.put, List.setIfInBounds_toArray, List.set_cons_zero, List.set_cons_succ]
  refine wpAnyH_ready (rs := [9]) (by kernel_rfl) (by simp) ?_
  refine AllReadyH.cons rfl (fun K hK => ?_) AllReadyH.nil
  go_simp
  go_at_call 364; refine (HL _ (by (repeat (first | with_reducible exact Ext.refl _ | with_reducible assumption | refine Ext.trans ?_ (by with_reducible assumption) | refine Ext.alloc ?_ _ _ | refine Ext.drew ?_ | refine Ext.drewN ?_ _)))).mono ?_; rintro e w1 ⟨rfl, hww⟩; replace hww := hww.symm; subst hww
  refine hK.out _ _ ?_ (fun hHeld => ?_)
  · first | exact HH.out.trans hmY | exact HH.out.trans he | exact HH.out
  clear hK K HH
  have HH : Hid (Ext W0 _) := hHeld
  clear hHeld
  refine wpAnyH_take (i := 10) (v := ?_) rfl (by kernel_rfl) (by kernel_rfl) (by kernel_rfl) (fun _ _ _ h => h) (Or.inl ⟨by rfl, ?_⟩) HH.out ?_
  rotate_left
  · intro w hSw; go_simp; try with_reducible rfl
  change wpAnyH _ _ _ _ _ _ _ (Act.put _ (some 19) _) _
  simp only [Act.put, List.setIfInBounds_toArray, List.set_cons_zero, List.set_cons_succ]
  refine wpAnyH_take (i := 11) (v := ?_) rfl (by kernel_rfl) (by kernel_rfl) (by kernel_rfl) (fun _ _ _ h => h) (Or.inl ⟨by rfl, ?_⟩) HH.out ?_
  rotate_left
  · intro w hSw; go_simp; try with_reducible rfl
  change wpAnyH _ _ _ _ _ _ _ (Act.put _ (some 20) _) _
  simp only [Act.put, List.setIfInBounds_toArray, List.set_cons_zero, List.set_cons_succ]
  refine wpAnyH_take (i := 12) (v := ?_) rfl (by kernel_rfl) (by kernel_rfl) (by kernel_rfl) (fun _ _ _ h => h) (Or.inl ⟨by rfl, ?_⟩) HH.out ?_
  rotate_left
  · intro w hSw; go_simp; try with_reducible rfl
  change wpAnyH _ _ _ _ _ _ _ (Act.put _ (some 21) _) _
  simp only [Act.put, List.setIfInBounds_toArray, List.set_cons_zero, List.set_cons_succ]
  refine wpAnyH_take (i := 13) (v := ?_) rfl (by kernel_rfl) (by kernel_rfl) (by kernel_rfl) (fun _ _ _ h => h) (Or.inl ⟨by rfl, ?_⟩) HH.out ?_
  rotate_left
  · intro w hSw; go_simp; try with_reducible rfl
  change wpAnyH _ _ _ _ _ _ _ (Act.put _ (some 22) _) _
  simp only [Act.put, List.setIfInBounds_toArray, List.set_cons_zero, List.set_cons_succ]
  refine wpAnyH_take (i := 14) (v := ?_) rfl (by kernel_rfl) (by kernel_rfl) (by kernel_rfl) (fun _ _ _ h => h) (Or.inl ⟨by rfl, ?_⟩) HH.out ?_
  rotate_left
  · intro w hSw; go_simp; try with_reducible rfl
  change wpAnyH _ _ _ _ _ _ _ (Act.put _ (some 23) _) _
  simp only [Act.put, List.setIfInBounds_toArray, List.set_cons_zero, List.set_cons_succ]
  refine wpAnyH_take (i := 15) (v := ?_) rfl (by kernel_rfl) (by kernel_rfl) (by kernel_rfl) (fun _ _ _ h => h) (Or.inl ⟨by rfl, ?_⟩) HH.out ?_
  rotate_left
  · intro w hSw; go_simp; try with_reducible rfl
  change wpAnyH _ _ _ _ _ _ _ (Act.put _ (some 24) _) _
  simp only [Act.put, List.setIfInBounds_toArray, List.set_cons_zero, List.set_cons_succ]
  refine wpAnyH_take (i := 16) rfl (by kernel_rfl) (by kernel_rfl) (by kernel_rfl) (fun _ _ _ h => h) (yieldsIf_load1 (by rfl) _ _ rfl _ _ rfl one21 _ (fun w hSw => by rw [(KB _ (Ext.trans (by (repeat (first | with_reducible exact Ext.refl _ | with_reducible assumption | refine Ext.trans ?_ (by with_reducible assumption) | refine Ext.alloc ?_ _ _ | refine Ext.drew ?_ | refine Ext.drewN ?_ _))) hSw)).cell (by omega), n1])) HH.out ?_
  change wpAnyH _ _ _ _ _ _ _ (Act.put _ (some 25) _) _
  simp only [Act.put, List.setIfInBounds_toArray, List.set_cons_zero, List.set_cons_succ]
  refine wpAnyH_take (i := 17) (v := ?_) rfl (by kernel_rfl) (by kernel_rfl) (by kernel_rfl) (fun _ _ _ h => h) (Or.inl ⟨by rfl, ?_⟩) HH.out ?_
  rotate_left
  · intro w hSw; go_simp; try with_reducible rfl
  change wpAnyH _ _ _ _ _ _ _ (Act.put _ (some 26) _) _
  simp only [Act.put, List.setIfInBounds_toArray, List.set_cons_zero, List.set_cons_succ]
  refine wpAnyH_take (i := 18) (v := ?_) rfl (by kernel_rfl) (by kernel_rfl) (by kernel_rfl) (fun _ _ _ h => h) (Or.inl ⟨by rfl, ?_⟩) HH.out ?_
  rotate_left
  · intro w hSw; go_simp; try with_reducible rfl
  change wpAnyH _ _ _ _ _ _ _ (Act.put _ (some 27) _) _
  simp only [Act.put, List.setIfInBounds_toArray, List.set_cons_zero, List.set_cons_succ]
  refine wpAnyH_take (i := 19) (v := ?_) rfl (by kernel_rfl) (by kernel_rfl) (by kernel_rfl) (fun _ _ _ h => h) (Or.inl ⟨by rfl, ?_⟩) HH.out ?_
  rotate_left
  · intro w hSw; go_simp; try with_reducible rfl
  change wpAnyH _ _ _ _ _ _ _ (Act.put _ (some 28) _) _
  simp only [Act.put, List.setIfInBounds_toArray, List.set_cons_zero, List.set_cons_succ]
  refine wpAnyH_take (i := 20) (v := ?_) rfl (by kernel_rfl) (by kernel_rfl) (by kernel_rfl) (fun _ _ _ h => h) (Or.inl ⟨by rfl, ?_⟩) HH.out ?_
  rotate_left
  · intro w hSw; go_simp; try with_reducible rfl
  change wpAnyH _ _ _ _ _ _ _ (Act.put _ (some 29) _) _
  simp only [Act.put, List.setIfInBounds_toArray, List.set_cons_zero, List.set_cons_succ]
  refine wpAnyH_take (i := 21) rfl (by kernel_rfl) (by kernel_rfl) (by kernel_rfl) (fun _ _ _ h => h) (yieldsIf_load1 (by rfl) _ _ rfl _ _ rfl one21 _ (fun w hSw => by rw [(KB _ (Ext.trans (by (repeat (first | with_reducible exact Ext.refl _ | with_reducible assumption | refine Ext.trans ?_ (by with_reducible assumption) | refine Ext.alloc ?_ _ _ | refine Ext.drew ?_ | refine Ext.drewN ?_ _))) hSw)).cell (by omega), n2])) HH.out ?_
  change wpAnyH _ _ _ _ _ _ _ (Act.put _ (some 30) _) _
  simp only [Act.put, List.setIfInBounds_toArray, List.set_cons_zero, List.set_cons_succ]
  refine wpAnyH_take (i := 22) (v := ?_) rfl (by kernel_rfl) (by kernel_rfl) (by kernel_rfl) (fun _ _ _ h => h) (Or.inl ⟨by rfl, ?_⟩) HH.out ?_
  rotate_left
  · intro w hSw; go_simp; try with_reducible rfl
  change wpAnyH _ _ _ _ _ _ _ (Act.put _ (some 31) _) _
  simp only [Act.put, List.setIfInBounds_toArray, List.set_cons_zero, List.set_cons_succ]
  refine wpAnyH_take (i := 23) (v := ?_) rfl (by kernel_rfl) (by kernel_rfl) (by kernel_rfl) (fun _ _ _ h => h) (Or.inl ⟨by rfl, ?_⟩) HH.out ?_
  rotate_left
  · intro w hSw; go_simp; try with_reducible rfl
  change wpAnyH _ _ _ _ _ _ _ (Act.put _ (some 32) _) _
  simp only [Act.put, List.setIfInBounds_toArray, List.set_cons_zero, List.set_cons_succ]
  refine wpAnyH_take (i := 24) (v := ?_) rfl (by kernel_rfl) (by kernel_rfl) (by kernel_rfl) (fun _ _ _ h => h) (Or.inl ⟨by rfl, ?_⟩) HH.out ?_
  rotate_left
  · intro w hSw; go_simp; try with_reducible rfl
  change wpAnyH _ _ _ _ _ _ _ (Act.put _ (some 33) _) _
  simp only [Act.put, List.setIfInBounds_toArray, List.set_cons_zero, List.set_cons_succ]
  refine wpAnyH_take (i := 25) (v := ?_) rfl (by kernel_rfl) (by kernel_rfl) (by kernel_rfl) (fun _ _ _ h => h) (Or.inl ⟨by rfl, ?_⟩) HH.out ?_
  rotate_left
  · intro w hSw; go_simp; try with_reducible rfl
  change wpAnyH _ _ _ _ _ _ _ (Act.put _ (some 34) _) _
  simp only [Act.put, List.setIfInBounds_toArray, List.set_cons_zero, List.set_cons_succ]
  refine wpAnyH_done (by kernel_rfl) ?_ _
  go_wp2_with (first | ((with_reducible (refine Veil.out ?_; apply wl_load1 one80)); (case hx => rfl); (case hB => exact KB _ (by (repeat (first | with_reducible exact Ext.refl _ | with_reducible assumption | refine Ext.trans ?_ (by with_reducible assumption) | refine Ext.alloc ?_ _ _ | refine Ext.drew ?_ | refine Ext.drewN ?_ _)))); (case ho => decide); rw [jv]) | (go_at_call 408; refine (HU _ (by (repeat (first | with_reducible exact Ext.refl _ | with_reducible assumption | refine Ext.trans ?_ (by with_reducible assumption) | refine Ext.alloc ?_ _ _ | refine Ext.drew ?_ | refine Ext.drewN ?_ _)))).mono ?_; rintro r w5 ⟨rfl, c5, h5, k5⟩; refine Hid.out ?_))
  obtain ⟨u1, u2⟩ := undo_keeps V e
  obtain ⟨b5, cap5, cj5, v5, y1, y2, y3, y4, y5⟩ := h5.jtop (u1.trans hj)
  have g5 := h5.jrn
  rw [u1, hj, List.reverse_cons, v5] at g5
  rw [hk.out] at v5 y1
  have hS : VStep own w c own w5 c5 := (VStep.ext (show Ext w W0.drew by (repeat (first | with_reducible exact Ext.refl _ | with_reducible assumption | refine Ext.trans ?_ (by with_reducible assumption) | refine Ext.alloc ?_ _ _ | refine Ext.drew ?_ | refine Ext.drewN ?_ _)))).trans k5
  clear KB jv HU
  have KB := fun W (hW : Ext w5 W) => h5.blk.ext hW
  have jv := v5
  clear v5
  unfold Hid
  go_wp2_with (first | ((with_reducible (refine Veil.out ?_; apply wl_load1 one80)); (case hx => rfl); (case hB => exact KB _ (by (repeat (first | with_reducible exact Ext.refl _ | with_reducible assumption | refine Ext.trans ?_ (by with_reducible assumption) | refine Ext.alloc ?_ _ _ | refine Ext.drew ?_ | refine Ext.drewN ?_ _)))); (case ho => decide); rw [jv]) | ((with_reducible (refine Veil.out ?_; apply wl_storeC one80)); (case hx => rfl); (case hy => rfl); (case h1 => rfl); (case hB => exact KB _ (by (repeat (first | with_reducible exact Ext.refl _ | with_reducible assumption | refine Ext.trans ?_ (by with_reducible assumption) | refine Ext.alloc ?_ _ _ | refine Ext.drew ?_ | refine Ext.drewN ?_ _)))); (case hi => decide); rintro W9 b9 m9))
  go_ret
  refine ⟨rfl, _, h5.gen (X := { V.undo e with journal := js }) m9 b9 rfl rfl rfl (fun i h1 h2 => updv_ne _ _ (by omega)) (updv_ne _ _ (by omega)) (updv_ne _ _ (by omega)) ⟨fun e' he' => ?_, fun q hq => ?_, h5.jok.fall⟩ ?_ h5.nL h5.nM ?_ ?_ (fun id hid => ?_) (by rw [updv_ne _ _ (by omega)]; exact h5.nm) (by rw [updv_ne _ _ (by omega)]; exact h5.ref) h5.rLt, hS.trans ⟨fun _ _ => rfl, fun i hi => updv_ne _ _ (by omega), m9.sub (fun x hx => by rw [hx, h.tag]; exact ⟨by decide, by decide⟩)⟩⟩
  · exact fits_more (h5.jok.fits e' (by rw [u1, hj]; exact List.mem_cons_of_mem _ he')) (Nat.le_refl _) (Nat.le_refl _) (Nat.le_refl _)
  · have hq2 : q ∈ V.marks := by rw [← u2]; exact hq
    show q ≤ js.length
    rw [hk.out]
    rw [hm0] at hq2
    rcases List.mem_cons.1 hq2 with rfl | hq3
    · exact hgt
    · have hf := h.jok.fall
      rw [hm0] at hf
      exact Nat.le_trans ((List.pairwise_cons.1 hf).1 q hq3) hgt
  · show js.length ≤ 65536; rw [hk.out]; omega
  · rw [updv_same]
    have hm5 := (Keep.here h5 m9).row g5 (fun _ _ _ q => (Keep.here h5 m9).je (fun _ _ => rfl) q) (by decide) (by decide)
    have hl5 : js.length + 1 = (js.reverse ++ [e]).length := by simp
    rw [hl5] at hm5
    have := hm5.pop (k := js.length) (by simp)
    rw [List.take_left' (by simp), hk.out] at this
    exact this
  · rw [updv_ne _ _ (by omega)]; exact h5.logsHere m9
  · have := h5.nM
    have hid' : id < (V.undo e).marks.length := hid
    rw [updv_ne _ _ (by omega)]; exact h5.marks id hid
theorem VRep.marksTo (h : VRep own w g c V) (k : Nat) (hk : k ≤ V.marks.length) (hm : Mod (· = g) w w') (hB : Blk w' g 27024 105 (updv c 27014 (.int .i32 (k : Nat)))) : VRep own w' g (updv c 27014 (.int .i32 (k : Nat))) { V with marks := V.marks.drop (V.marks.length - k) } ∧ VStep own w c own w' (updv c 27014 (.int .i32 (k : Nat))) := by
  have hnM := h.nM
  have hl : (V.marks.drop (V.marks.length - k)).length = k := by rw [List.length_drop]; omega
  refine ⟨h.gen hm hB rfl rfl rfl (fun i h1 h2 => updv_ne _ _ (by omega)) (updv_ne _ _ (by omega)) (updv_ne _ _ (by omega)) ⟨fun e he => fits_more (h.jok.fits e he) (Nat.le_refl _) (Nat.le_refl _) (Nat.le_refl _), fun p hp => h.jok.marks p (List.mem_of_mem_drop hp), List.Pairwise.sublist (List.drop_sublist _ _) h.jok.fall⟩ h.nJ h.nL (by show (V.marks.drop _).length ≤ _; omega) (by rw [updv_ne _ _ (by omega)]; exact h.jrnHere hm) (by rw [updv_ne _ _ (by omega)]; exact h.logsHere hm) (fun id hid => ?_) (by rw [updv_same]; show _ = Value.int .i32 ((V.marks.drop (V.marks.length - k)).length : Nat); rw [hl]) (by rw [updv_ne _ _ (by omega)]; exact h.ref) h.rLt, fun _ _ => rfl, fun i hi => updv_ne _ _ (by omega), hm.sub (fun x hx => by rw [hx, h.tag]; exact ⟨by decide, by decide⟩)⟩
  have hid' : id < (V.marks.drop (V.marks.length - k)).length := hid
  rw [hl] at hid'
  rw [updv_ne _ _ (by omega), h.marks id (by omega)]
  suffices hq : V.markAt id = (V.marks.drop (V.marks.length - k)).reverse.getD id 0 by
    show _ = Value.int .i32 (((V.marks.drop (V.marks.length - k)).reverse.getD id 0 : Nat) : Int)
    rw [← hq]
  unfold EV.markAt
  rw [List.getD_eq_getElem?_getD, List.getD_eq_getElem?_getD, List.getElem?_eq_getElem (by simp; omega), List.getElem?_eq_getElem (by simp; omega)]
  simp only [Option.getD_some, List.getElem_reverse, List.getElem_drop, List.length_drop]
  congr 1
  omega
theorem revert_step (V : EV) (q : Nat) (ms : List Nat) (h1 : 0 < q) (hq : q ≤ V.journal.length) : ∃ e, (V.revert q ms).journal = e :: V.journal.drop (V.journal.length - (q - 1)) ∧ { (V.revert q ms).undo e with journal := V.journal.drop (V.journal.length - (q - 1)) } = V.revert (q - 1) ms := by
  have hlt : V.journal.length - q < V.journal.length := by omega
  have e1 : V.journal.length - (q - 1) = (V.journal.length - q) + 1 := by omega
  refine ⟨V.journal[V.journal.length - q], ?_, ?_⟩
  · show V.journal.drop (V.journal.length - q) = _
    rw [e1, List.drop_eq_getElem_cons hlt]
  · have e2 : V.till (q - 1) = (V.till q).undo V.journal[V.journal.length - q] := by
      unfold EV.till
      rw [e1, List.take_add_one, List.getElem?_eq_getElem hlt, undoL_append]
      rfl
    unfold EV.revert
    rw [undo_marks, e2]
/-- The journal's length in the heap. -/
def jlenW (g : Nat) (w : World) : Nat := match w.cell? ⟨g, 10629, none⟩ with | some (.slice _ n _) => n | _ => 0
theorem VRep.jlen (h : VRep own w g c V) : jlenW g w = V.journal.length := by
  unfold jlenW
  rw [h.blk.cell (by omega)]
  rcases h.jrn with ⟨q1, q2⟩ | ⟨b, cap, cj, q1, _⟩
  · rw [q2]; have : V.journal = [] := List.reverse_eq_nil_iff.1 q1; rw [this]; rfl
  · rw [q1, List.length_reverse]
set_option maxRecDepth 100000 in
set_option maxHeartbeats 6400000 in
theorem vRevertTo {id : Nat} (h : VRep own w g c V) (hJ : V.JOK) (hid : id < V.marks.length) : Calls Hvah.prog 258 #[.pointer (some ⟨g, 2435, none⟩), .int .i32 id] w fun e w' => e = .returned (.bool true) ∧ ∃ c', VRep own w' g c' (V.revertTo id) ∧ VStep own w c own w' c' := by
  have hnM := h.nM
  have HL := vLive h.blk V.marks.length (id : Int) h.nm hnM
  rw [decide_eq_true (show (0 : Int) ≤ id ∧ (id : Int) < (V.marks.length : Nat) by omega)] at HL
  have w2 : IntKind.i32.wrap ((id : Int) + 1) = ((id + 1 : Nat) : Int) := by rw [IntKind.wrap_i32]; omega
  obtain ⟨ms, hms⟩ : ∃ ms, V.marks.drop (V.marks.length - (id + 1)) = V.markAt id :: ms := by
    rw [List.drop_eq_getElem_cons (by omega)]
    refine ⟨_, congrArg (· :: _) ?_⟩
    unfold EV.markAt
    rw [List.getD_eq_getElem?_getD, List.getElem?_eq_getElem (by simp; omega)]
    simp only [Option.getD_some, List.getElem_reverse]
    congr 1
    omega
  have hpl := markAt_le hJ id
  have hle : ∀ p ∈ V.markAt id :: ms, p ≤ V.markAt id := by
    have hf : (V.markAt id :: ms).Pairwise fun x y => y ≤ x := by rw [← hms]; exact List.Pairwise.sublist (List.drop_sublist _ _) hJ.fall
    intro p hp
    rcases List.mem_cons.1 hp with rfl | hp
    · exact Nat.le_refl _
    · exact (List.pairwise_cons.1 hf).1 p hp
  have hpw : (V.markAt id :: ms).Pairwise fun x y => y ≤ x := by rw [← hms]; exact List.Pairwise.sublist (List.drop_sublist _ _) hJ.fall
  go_enter Hvah.func258, Hvah.ntmps258
  go_wp2_with (first | (go_at_call 364; refine HL.mono ?_; rintro e w1 ⟨rfl, hww⟩; replace hww := hww.symm; subst hww) | ((with_reducible (refine Veil.out ?_; apply wl_storeC one21)); (case hx => rfl); (case hy => first | exact congrArg (Value.int .i32) w2 | rfl); (case h1 => rfl); (case hB => exact h.blk); (case hi => decide); rintro W2 b2 m2))
  obtain ⟨h2, k2⟩ := h.marksTo (id + 1) (by omega) m2 b2
  rw [hms] at h2
  have i0 : VRep own W2 g (updv c 27014 (.int .i32 (id + 1 : Nat))) (V.revert V.journal.length (V.markAt id :: ms)) := by
    have e1 : V.revert V.journal.length (V.markAt id :: ms) = { V with marks := V.markAt id :: ms } := by
      unfold EV.revert EV.till
      rw [Nat.sub_self]
      rfl
    rw [e1]; exact h2
  simp only [Act.put]
  go_loopw [] (fun wr => ∃ c1 q, V.markAt id ≤ q ∧ q ≤ V.journal.length ∧ VRep own wr g c1 (V.revert q (V.markAt id :: ms)) ∧ VStep own w c own wr c1) (fun wr => jlenW g wr)
  case atStart => exact ⟨_, _, hpl, Nat.le_refl _, i0, k2⟩
  case round =>
    obtain ⟨c1, q, q1, q2, hr, ks⟩ := hrel
    have hmk : (V.revert q (V.markAt id :: ms)).marks = V.markAt id :: ms := rfl
    have hjl : (V.revert q (V.markAt id :: ms)).journal.length = q := by
      show (V.journal.drop (V.journal.length - q)).length = q
      rw [List.length_drop]; omega
    rcases Nat.eq_or_lt_of_le q1 with hq | hq
    · have HS : Calls Hvah.prog 365 #[.pointer (some ⟨g, 2435, none⟩)] wr fun e w' => e = .returned (.bool false) ∧ Ext wr w' := by
        rcases Nat.eq_zero_or_pos q with h0 | h0
        · exact vUndoStop0 hr (List.eq_nil_of_length_eq_zero (by rw [hjl, h0]))
        · exact vUndoStop1 hr hmk (by rw [hjl]; exact h0) (by rw [hjl]; omega)
      subst hq
      go_wp2_with (first | (go_at_call 365; refine HS.mono ?_; rintro e w5 ⟨rfl, he⟩) | ((with_reducible (refine Veil.out ?_; apply wl_storeC one21)); (case hx => rfl); (case hy => rfl); (case h1 => rfl); (case hB => exact hr.blk.ext he); (case hi => decide); rintro W7 b7 m7))
      go_ret
      obtain ⟨h7, k7⟩ := (hr.ext he).marksTo id (show id ≤ (V.markAt id :: ms).length by rw [← hms, List.length_drop]; omega) m7 b7
      refine ⟨rfl, _, ?_, (ks.trans (VStep.ext he)).trans k7⟩
      have e1 : ({ V.revert (V.markAt id) (V.markAt id :: ms) with marks := (V.markAt id :: ms).drop ((V.markAt id :: ms).length - id) } : EV) = V.revertTo id := by
        unfold EV.revertTo EV.revert
        rw [← hms, List.drop_drop, List.length_drop, show V.marks.length - (id + 1) + (V.marks.length - (V.marks.length - (id + 1)) - id) = V.marks.length - id by omega]
      rw [← e1]; exact h7
    · obtain ⟨e, j1, j2⟩ := revert_step V q (V.markAt id :: ms) (by omega) q2
      have hjk := revert_JOK hJ q2 (V.markAt id :: ms) (fun p hp => Nat.le_trans (hle p hp) q1) hpw
      have hlg : e.kind = 7 → (V.revert q (V.markAt id :: ms)).logs ≠ [] := fun hk7 hnil => by
        have := hjk.logs
        rw [j1, List.filter_cons, hnil] at this
        simp [hk7] at this
      have HG := vUndoGo hr hmk j1 (by rw [List.length_drop]; omega) hlg
      rw [j2] at HG
      have hml := hr.jlen
      go_wp2_with (go_at_call 365; refine HG.mono ?_; rintro e2 w5 ⟨rfl, c5, h5, k5⟩)
      go_roundw
      case rel => exact ⟨c5, q - 1, by omega, by omega, h5, ks.trans k5⟩
      case measure =>
        rw [h5.jlen, hml, hjl]
        show (V.journal.drop _).length < q
        rw [List.length_drop]; omega
end
end Go.Proofs.YgvahwGreat
