import Derived.Test.YgvahwGreatOps
namespace Go.Proofs.YgvahwGreat
theorem WF_undo {V : EV} (hw : V.WF) (e : JE) : (V.undo e).WF := by
  unfold EV.undo
  by_cases k0 : e.kind = 0
  · rw [if_pos k0]; exact WF_modA hw _ (fun _ => rfl)
  rw [if_neg k0]
  by_cases k1 : e.kind = 1
  · rw [if_pos k1]; exact WF_modA hw _ (fun _ => rfl)
  rw [if_neg k1]
  by_cases k2 : e.kind = 2
  · rw [if_pos k2]; exact WF_modA hw _ (fun _ => rfl)
  rw [if_neg k2]
  by_cases k3 : e.kind = 3
  · rw [if_pos k3]; exact WF_modS hw _ (fun _ => rfl)
  rw [if_neg k3]
  by_cases k4 : e.kind = 4
  · rw [if_pos k4]; exact WF_modA hw _ (fun _ => rfl)
  rw [if_neg k4]
  by_cases k5 : e.kind = 5
  · rw [if_pos k5]; exact WF_modS hw _ (fun _ => rfl)
  rw [if_neg k5]
  by_cases k6 : e.kind = 6
  · rw [if_pos k6]; exact ⟨hw.a1, hw.s1, hw.t1, hw.sA, hw.tA⟩
  rw [if_neg k6]
  by_cases k7 : e.kind = 7
  · rw [if_pos k7]; exact ⟨hw.a1, hw.s1, hw.t1, hw.sA, hw.tA⟩
  rw [if_neg k7]
  by_cases k8 : e.kind = 8
  · rw [if_pos k8]; exact WF_modT hw _
  rw [if_neg k8]
  by_cases k9 : e.kind = 9
  · rw [if_pos k9]; exact WF_modA hw _ (fun _ => rfl)
  rw [if_neg k9]
  exact WF_modA hw _ (fun _ => rfl)
theorem WF_undoL {V : EV} (hw : V.WF) (l : List JE) : (undoL l V).WF := by
  induction l generalizing V with
  | nil => exact hw
  | cons e l ih => exact ih (WF_undo hw e)
theorem undoL_append (l m : List JE) (V : EV) : undoL (l ++ m) V = undoL m (undoL l V) := by
  induction l generalizing V with
  | nil => rfl
  | cons e l ih => exact ih _
/-- What V is when only p entries are left. -/
def EV.till (V : EV) (p : Nat) : EV := undoL (V.journal.take (V.journal.length - p)) V
/-- The mark of an id. -/
def EV.markAt (V : EV) (id : Nat) : Nat := V.marks.reverse.getD id 0
/-- The world of an id. -/
def EV.savedAt (V : EV) (id : Nat) : AW := (V.till (V.markAt id)).abs
theorem till_op {V X : EV} {W : AW} {e : JE} (ho : V.Op X W e) (hw : V.WF) (hj : V.JOK) {p : Nat} (hp : p ≤ V.journal.length) : (X.till p).abs = (V.till p).abs := by
  unfold EV.till
  rw [ho.jn, List.length_cons, show V.journal.length + 1 - p = (V.journal.length - p) + 1 by omega, List.take_succ_cons, undoL]
  exact (ho.back.undoL _ fun d hd => hj.fits d (List.mem_of_mem_take hd)).abs (WF_undoL hw _)
theorem EV.fits.op {V X : EV} {W : AW} {e d : JE} (ho : V.Op X W e) (h : V.fits d) : X.fits d := by
  obtain ⟨h1, h2, h3⟩ := ho.size
  exact ⟨fun k => Nat.lt_of_lt_of_le (h.1 k) h1, fun k => Nat.lt_of_lt_of_le (h.2.1 k) h2, fun k => Nat.lt_of_lt_of_le (h.2.2.1 k) h3, h.2.2.2⟩
theorem JOK_op {V X : EV} {W : AW} {e : JE} (ho : V.Op X W e) (hj : V.JOK) : X.JOK := by
  refine ⟨fun d hd => ?_, ?_, fun p hp => ?_, by rw [ho.mks]; exact hj.fall⟩
  · rw [ho.jn] at hd
    rcases List.mem_cons.1 hd with rfl | h
    · exact ho.fits
    · exact (hj.fits d h).op ho
  · rw [ho.jn, List.filter_cons]
    have h1 := hj.logs
    have h2 := ho.log
    by_cases h : e.kind = 7
    · simp only [h, decide_true, if_true, List.length_cons] at h2 ⊢; omega
    · simp only [h, decide_false, if_false, Bool.false_eq_true] at h2 ⊢; omega
  · rw [ho.jn, List.length_cons]; rw [ho.mks] at hp; have := hj.marks p hp; omega
theorem markAt_le {V : EV} (hj : V.JOK) (id : Nat) : V.markAt id ≤ V.journal.length := by
  unfold EV.markAt
  rw [List.getD_eq_getElem?_getD]
  cases h : V.marks.reverse[id]? with
  | none => simp
  | some p => exact hj.marks p (List.mem_reverse.1 (List.mem_of_getElem? h))
theorem savedAt_op {V X : EV} {W : AW} {e : JE} (ho : V.Op X W e) (hw : V.WF) (hj : V.JOK) (id : Nat) : X.savedAt id = V.savedAt id := by
  unfold EV.savedAt
  rw [show X.markAt id = V.markAt id by unfold EV.markAt; rw [ho.mks]]
  exact till_op ho hw hj (markAt_le hj id)
/-- A snapshot. -/
def EV.snap (V : EV) : EV := { V with marks := V.journal.length :: V.marks }
theorem undo_marks (V : EV) (m : List Nat) (j : List JE) (e : JE) : ({ V with marks := m, journal := j } : EV).undo e = { V.undo e with marks := m, journal := j } := by
  unfold EV.undo
  by_cases k0 : e.kind = 0
  · simp only [if_pos k0]; rfl
  simp only [if_neg k0]
  by_cases k1 : e.kind = 1
  · simp only [if_pos k1]; rfl
  simp only [if_neg k1]
  by_cases k2 : e.kind = 2
  · simp only [if_pos k2]; rfl
  simp only [if_neg k2]
  by_cases k3 : e.kind = 3
  · simp only [if_pos k3]; rfl
  simp only [if_neg k3]
  by_cases k4 : e.kind = 4
  · simp only [if_pos k4]; rfl
  simp only [if_neg k4]
  by_cases k5 : e.kind = 5
  · simp only [if_pos k5]; rfl
  simp only [if_neg k5]
  by_cases k6 : e.kind = 6
  · simp only [if_pos k6]
  simp only [if_neg k6]
  by_cases k7 : e.kind = 7
  · simp only [if_pos k7]
  simp only [if_neg k7]
  by_cases k8 : e.kind = 8
  · simp only [if_pos k8]; rfl
  simp only [if_neg k8]
  by_cases k9 : e.kind = 9
  · simp only [if_pos k9]; rfl
  simp only [if_neg k9]
  rfl
theorem undoL_marks (V : EV) (m : List Nat) (j : List JE) (l : List JE) : undoL l { V with marks := m, journal := j } = { undoL l V with marks := m, journal := j } := by
  induction l generalizing V with
  | nil => rfl
  | cons e l ih => rw [undoL, undo_marks, ih]; rfl
theorem abs_marks (V : EV) (m : List Nat) (j : List JE) : ({ V with marks := m, journal := j } : EV).abs = V.abs := rfl
theorem till_snap (V : EV) (p : Nat) : (V.snap.till p).abs = (V.till p).abs := by
  unfold EV.till EV.snap
  have := undoL_marks V (V.journal.length :: V.marks) V.journal (V.journal.take (V.journal.length - p))
  simp only
  show EV.abs (undoL _ { V with marks := V.journal.length :: V.marks, journal := V.journal }) = _
  rw [this]; rfl
theorem markAt_snap (V : EV) (id : Nat) : V.snap.markAt id = if id = V.marks.length then V.journal.length else V.markAt id := by
  unfold EV.markAt EV.snap
  simp only [List.reverse_cons]
  rw [List.getD_eq_getElem?_getD, List.getD_eq_getElem?_getD, List.getElem?_append]
  simp only [List.length_reverse]
  split
  · rw [if_neg (by omega)]
  · split
    · rename_i h1 h2; subst h2; simp
    · rw [List.getElem?_eq_none (by simp; omega), List.getElem?_eq_none (by simp; omega)]
theorem savedAt_snap (V : EV) (id : Nat) : V.snap.savedAt id = if id = V.marks.length then V.abs else V.savedAt id := by
  unfold EV.savedAt
  rw [markAt_snap]
  split
  · rw [till_snap]; unfold EV.till; rw [Nat.sub_self]; rfl
  · rw [till_snap]
theorem JOK_snap {V : EV} (hj : V.JOK) : V.snap.JOK :=
  ⟨hj.fits, hj.logs, fun p hp => by
    rcases List.mem_cons.1 hp with rfl | h
    · exact Nat.le_refl _
    · exact hj.marks p h, List.pairwise_cons.2 ⟨fun y hy => hj.marks y hy, hj.fall⟩⟩
/-- Back to a mark; those above it and it are dropped. -/
def EV.revert (V : EV) (p : Nat) (ms : List Nat) : EV := { V.till p with journal := V.journal.drop (V.journal.length - p), marks := ms }
theorem undoL_sizes (l : List JE) (V : EV) : (undoL l V).accts.length = V.accts.length ∧ (undoL l V).slots.length = V.slots.length ∧ (undoL l V).temps.length = V.temps.length := by
  induction l generalizing V with
  | nil => exact ⟨rfl, rfl, rfl⟩
  | cons e l ih =>
    obtain ⟨h1, h2, h3⟩ := ih (V.undo e)
    obtain ⟨g1, g2, g3⟩ := undo_sizes V e
    exact ⟨h1.trans g1, h2.trans g2, h3.trans g3⟩
theorem till_till (V : EV) (p q : Nat) (ms : List Nat) (h : q ≤ p) (hp : p ≤ V.journal.length) : ((V.revert p ms).till q).abs = (V.till q).abs := by
  unfold EV.till EV.revert
  simp only
  rw [undoL_marks, abs_marks]
  unfold EV.till
  rw [← undoL_append, List.length_drop]
  congr 2
  rw [show V.journal.length - q = (V.journal.length - p) + (V.journal.length - (V.journal.length - p) - q) by omega, List.take_add]
/-- What logs are left. -/
theorem undoL_logs (l : List JE) (V : EV) : (undoL l V).logs.length = V.logs.length - (l.filter fun e => decide (e.kind = 7)).length := by
  induction l generalizing V with
  | nil => simp [undoL]
  | cons e l ih =>
    rw [undoL, ih, List.filter_cons]
    by_cases h : e.kind = 7
    · have : (V.undo e).logs = V.logs.dropLast := by unfold EV.undo; simp [h]
      rw [this]; simp [h]; omega
    · have : (V.undo e).logs = V.logs := by
        unfold EV.undo
        by_cases k0 : e.kind = 0
        · rw [if_pos k0]; rfl
        rw [if_neg k0]
        by_cases k1 : e.kind = 1
        · rw [if_pos k1]; rfl
        rw [if_neg k1]
        by_cases k2 : e.kind = 2
        · rw [if_pos k2]; rfl
        rw [if_neg k2]
        by_cases k3 : e.kind = 3
        · rw [if_pos k3]; rfl
        rw [if_neg k3]
        by_cases k4 : e.kind = 4
        · rw [if_pos k4]; rfl
        rw [if_neg k4]
        by_cases k5 : e.kind = 5
        · rw [if_pos k5]; rfl
        rw [if_neg k5]
        by_cases k6 : e.kind = 6
        · rw [if_pos k6]
        rw [if_neg k6, if_neg h]
        by_cases k8 : e.kind = 8
        · rw [if_pos k8]; rfl
        rw [if_neg k8]
        by_cases k9 : e.kind = 9
        · rw [if_pos k9]; rfl
        rw [if_neg k9]; rfl
      rw [this]; simp [h]
theorem revert_JOK {V : EV} (hj : V.JOK) {p : Nat} (hp : p ≤ V.journal.length) (ms : List Nat) (hms : ∀ q ∈ ms, q ≤ p) (hf : ms.Pairwise fun x y => y ≤ x) : (V.revert p ms).JOK := by
  obtain ⟨h1, h2, h3⟩ := undoL_sizes (V.journal.take (V.journal.length - p)) V
  refine ⟨fun e he => ?_, ?_, fun q hq => ?_, hf⟩
  · have := hj.fits e (List.mem_of_mem_drop he)
    exact ⟨fun k => by rw [show (V.revert p ms).accts.length = _ from h1]; exact this.1 k, fun k => by rw [show (V.revert p ms).slots.length = _ from h2]; exact this.2.1 k, fun k => by rw [show (V.revert p ms).temps.length = _ from h3]; exact this.2.2.1 k, this.2.2.2⟩
  · show _ ≤ (undoL _ V).logs.length
    rw [undoL_logs]
    have h5 := hj.logs
    have h6 : V.journal.filter (fun e => decide (e.kind = 7)) = (V.journal.take (V.journal.length - p)).filter (fun e => decide (e.kind = 7)) ++ (V.journal.drop (V.journal.length - p)).filter (fun e => decide (e.kind = 7)) := by
      rw [← List.filter_append, List.take_append_drop]
    rw [h6, List.length_append] at h5
    show List.length (List.filter _ (V.journal.drop (V.journal.length - p))) ≤ _
    omega
  · show q ≤ (V.journal.drop _).length
    rw [List.length_drop]; have := hms q hq; omega
theorem revert_WF {V : EV} (hw : V.WF) (p : Nat) (ms : List Nat) : (V.revert p ms).WF := by
  have := WF_undoL hw (V.journal.take (V.journal.length - p))
  exact ⟨this.a1, this.s1, this.t1, this.sA, this.tA⟩
/-- Back to the snapshot id: the marks below it are left. -/
def EV.revertTo (V : EV) (id : Nat) : EV := V.revert (V.markAt id) (V.marks.drop (V.marks.length - id))
theorem fall_le {V : EV} (hj : V.JOK) {i j : Nat} (hij : i ≤ j) (h : j < V.marks.length) : V.markAt i ≤ V.markAt j := by
  unfold EV.markAt
  have hf : V.marks.reverse.Pairwise fun x y => x ≤ y := List.pairwise_reverse.2 hj.fall
  rw [List.getD_eq_getElem?_getD, List.getD_eq_getElem?_getD, List.getElem?_eq_getElem (by simp; omega), List.getElem?_eq_getElem (by simp; omega)]
  simp only [Option.getD_some]
  rcases Nat.eq_or_lt_of_le hij with h1 | h1
  · subst h1; exact Nat.le_refl _
  · exact List.pairwise_iff_getElem.1 hf i j (by simp; omega) (by simp; omega) h1
theorem revertTo_marks (V : EV) {id : Nat} (h : id < V.marks.length) (j : Nat) (hj : j < id) : (V.revertTo id).markAt j = V.markAt j := by
  unfold EV.markAt
  show (V.marks.drop (V.marks.length - id)).reverse.getD j 0 = _
  rw [List.getD_eq_getElem?_getD, List.getD_eq_getElem?_getD, List.getElem?_eq_getElem (by simp; omega), List.getElem?_eq_getElem (by simp; omega)]
  simp only [Option.getD_some, List.getElem_reverse, List.getElem_drop, List.length_drop]
  congr 1
  omega
theorem revertTo_ok {V : EV} (hw : V.WF) (hj : V.JOK) {id : Nat} (h : id < V.marks.length) : (V.revertTo id).abs = V.savedAt id ∧ (V.revertTo id).JOK ∧ (V.revertTo id).WF ∧ (V.revertTo id).marks.length = id ∧ ∀ j, j < id → (V.revertTo id).savedAt j = V.savedAt j := by
  have hp := markAt_le hj id
  refine ⟨rfl, revert_JOK hj hp _ (fun q hq => ?_) (List.Pairwise.sublist (List.drop_sublist _ _) hj.fall), revert_WF hw _ _, ?_, fun j hlt => ?_⟩
  · obtain ⟨k, hk, rfl⟩ := List.getElem_of_mem hq
    rw [List.length_drop] at hk
    rw [List.getElem_drop]
    have := fall_le hj (i := id - 1 - k) (j := id) (by omega) h
    unfold EV.markAt at this ⊢
    rw [List.getD_eq_getElem?_getD, List.getElem?_eq_getElem (by simp; omega)] at this
    simp only [Option.getD_some, List.getElem_reverse] at this
    refine Nat.le_trans (Nat.le_of_eq ?_) this
    congr 1
    omega
  · show (V.marks.drop _).length = id
    rw [List.length_drop]; omega
  · unfold EV.savedAt
    rw [revertTo_marks V h j hlt]
    exact till_till V _ _ _ (fall_le hj (by omega) h) hp
end Go.Proofs.YgvahwGreat
