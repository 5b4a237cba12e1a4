import Derived.Test.YgvahwGreatOj
import Derived.Test.YgvahwGreatIvc
namespace Go.Proofs.YgvahwGreat
set_option linter.unusedSimpArgs false
set_option linter.unusedVariables false

/-- What the vault has laid, by the gas; A0 and S0 = what the opening laid. -/
structure EInv (A0 S0 B : Nat) (V : EV) (st : ASt) : Prop where
  j : 25 * V.journal.length + gsum st.frames ≤ 2500 + B
  a : 1250 * V.accts.length + gsum st.frames ≤ 1250 * A0 + B
  s : 2100 * V.slots.length + gsum st.frames ≤ 2100 * S0 + B
  t : 100 * V.temps.length + gsum st.frames ≤ B
  l : 375 * V.logs.length + gsum st.frames ≤ B
  m : 100 * V.marks.length + gsum st.frames ≤ 1000 + B
  hB : B ≤ 1027576
  hA : A0 ≤ 100
  hS : S0 ≤ 400
section
variable {A0 S0 B : Nat} {V X Z : EV} {st st' : ASt}
theorem EInv.room (h : EInv A0 S0 B V st) : Room V 8 := by
  obtain ⟨h1, h2, h3, h4, h5, h6, h7, h8, h9⟩ := h
  exact ⟨by omega, by omega, by omega, by omega, by omega, by omega⟩
theorem EInv.go (h : EInv A0 S0 B V st) {j a s t l m D : Nat} (q : V.Grew X j a s t l m) (hD : gsum st'.frames + D ≤ gsum st.frames) (hj : 25 * j ≤ D) (ha : 1250 * a ≤ D) (hs : 2100 * s ≤ D) (ht : 100 * t ≤ D) (hl : 375 * l ≤ D) (hm : 100 * m ≤ D) : EInv A0 S0 B X st' := by
  obtain ⟨h1, h2, h3, h4, h5, h6, h7, h8, h9⟩ := h
  obtain ⟨q1, q2, q3, q4, q5, q6⟩ := q
  exact ⟨by omega, by omega, by omega, by omega, by omega, by omega, h7, h8, h9⟩
theorem Grew.id (V : EV) : V.Grew V 0 0 0 0 0 0 := ⟨by omega, by omega, by omega, by omega, by omega, by omega⟩
theorem Grew.le {j a s t l m j' a' s' t' l' m' : Nat} (q : V.Grew X j a s t l m) (h1 : j ≤ j') (h2 : a ≤ a') (h3 : s ≤ s') (h4 : t ≤ t') (h5 : l ≤ l') (h6 : m ≤ m') : V.Grew X j' a' s' t' l' m' := by
  obtain ⟨q1, q2, q3, q4, q5, q6⟩ := q
  exact ⟨by omega, by omega, by omega, by omega, by omega, by omega⟩
theorem Grew.trans {j a s t l m j' a' s' t' l' m' : Nat} (q : V.Grew X j a s t l m) (r : X.Grew Z j' a' s' t' l' m') : V.Grew Z (j + j') (a + a') (s + s') (t + t') (l + l') (m + m') := by
  obtain ⟨q1, q2, q3, q4, q5, q6⟩ := q
  obtain ⟨r1, r2, r3, r4, r5, r6⟩ := r
  exact ⟨by omega, by omega, by omega, by omega, by omega, by omega⟩
theorem acct_at {a : Nat} (h : V.abs.warmA a = true) : V.ix a ≠ none := by
  intro e
  have h1 : (V.acct a).warm = true := h
  unfold EV.acct at h1
  rw [look_ix] at h1
  unfold EV.ix at e
  rw [e] at h1
  cases h1
theorem slot_at {a k : Nat} (h : V.abs.warmS a k = true) : ∃ i, V.ix a = some i ∧ ixG ESlot.kc (i, k) V.slots ≠ none := by
  have h1 : (V.sl a k).warm = true := h
  unfold EV.sl at h1
  cases e : V.ix a with
  | none => rw [e] at h1; cases h1
  | some i =>
    refine ⟨i, rfl, fun q => ?_⟩
    rw [e, Option.bind_some, look_ix, q] at h1
    cases h1
theorem need_at {a : Nat} (h : V.ix a ≠ none) : V.need a = V := by unfold EV.need; rw [if_neg h]
theorem grew_at {a : Nat} {f : EAcct → EAcct} {e : JE} (h : V.ix a ≠ none) : V.Grew (V.opA a f e) 1 0 0 0 0 0 := by
  unfold EV.opA
  rw [need_at h]
  exact ⟨by simp [EV.push, EV.modA], by simp [EV.push, EV.modA], by simp [EV.push, EV.modA], by simp [EV.push, EV.modA], by simp [EV.push, EV.modA], by simp [EV.push, EV.modA]⟩
theorem grewS_at {a k : Nat} {f : ESlot → ESlot} {e : JE} (h : V.ix a ≠ none) : V.Grew (V.opS a k f e) 1 0 1 0 0 0 := by
  unfold EV.opS EV.needAS
  rw [need_at h]
  have hs : (V.needS (V.at_ a) k).slots.length ≤ V.slots.length + 1 := by unfold EV.needS; split <;> simp
  have hr : (V.needS (V.at_ a) k).accts = V.accts ∧ (V.needS (V.at_ a) k).temps = V.temps ∧ (V.needS (V.at_ a) k).logs = V.logs ∧ (V.needS (V.at_ a) k).marks = V.marks ∧ (V.needS (V.at_ a) k).journal = V.journal := by
    unfold EV.needS; split <;> exact ⟨rfl, rfl, rfl, rfl, rfl⟩
  refine ⟨?_, ?_, ?_, ?_, ?_, ?_⟩
  · show (e :: (V.needS (V.at_ a) k).journal).length ≤ _; rw [hr.2.2.2.2]; simp
  · show (V.needS (V.at_ a) k).accts.length ≤ _; rw [hr.1]; omega
  · show ((V.needS (V.at_ a) k).slots.modify _ f).length ≤ _; rw [List.length_modify]; exact hs
  · show (V.needS (V.at_ a) k).temps.length ≤ _; rw [hr.2.1]; omega
  · show (V.needS (V.at_ a) k).logs.length ≤ _; rw [hr.2.2.1]; omega
  · show (V.needS (V.at_ a) k).marks.length ≤ _; rw [hr.2.2.2.1]; omega
theorem grewS_in {a k i : Nat} {f : ESlot → ESlot} {e : JE} (h : V.ix a = some i) (hs : ixG ESlot.kc (i, k) V.slots ≠ none) : V.Grew (V.opS a k f e) 1 0 0 0 0 0 := by
  unfold EV.opS EV.needAS
  rw [need_at (by rw [h]; simp)]
  have e1 : V.at_ a = i := by unfold EV.at_; rw [h]; rfl
  have e2 : V.needS (V.at_ a) k = V := by unfold EV.needS; rw [e1, if_neg hs]
  rw [e2]
  exact ⟨by simp [EV.push, EV.modS], by simp [EV.push, EV.modS], by simp [EV.push, EV.modS], by simp [EV.push, EV.modS], by simp [EV.push, EV.modS], by simp [EV.push, EV.modS]⟩
theorem grewT_at {a k v : Nat} (h : V.ix a ≠ none) : V.Grew (V.tstore a k v) 1 0 0 1 0 0 := by
  unfold EV.tstore EV.needAT
  rw [need_at h]
  have hs : (V.needT (V.at_ a) k).temps.length ≤ V.temps.length + 1 := by unfold EV.needT; split <;> simp
  have hr : (V.needT (V.at_ a) k).accts = V.accts ∧ (V.needT (V.at_ a) k).slots = V.slots ∧ (V.needT (V.at_ a) k).logs = V.logs ∧ (V.needT (V.at_ a) k).marks = V.marks ∧ (V.needT (V.at_ a) k).journal = V.journal := by
    unfold EV.needT; split <;> exact ⟨rfl, rfl, rfl, rfl, rfl⟩
  refine ⟨?_, ?_, ?_, ?_, ?_, ?_⟩
  · show (_ :: (V.needT (V.at_ a) k).journal).length ≤ _; rw [hr.2.2.2.2]; simp
  · show (V.needT (V.at_ a) k).accts.length ≤ _; rw [hr.1]; omega
  · show (V.needT (V.at_ a) k).slots.length ≤ _; rw [hr.2.1]; omega
  · show ((V.needT (V.at_ a) k).temps.modify _ _).length ≤ _; rw [List.length_modify]; exact hs
  · show (V.needT (V.at_ a) k).logs.length ≤ _; rw [hr.2.2.1]; omega
  · show (V.needT (V.at_ a) k).marks.length ≤ _; rw [hr.2.2.2.1]; omega
theorem grew_log (l : ALog) : V.Grew (V.putLog l) 1 0 0 0 1 0 := ⟨by simp [EV.putLog, EV.push], by simp [EV.putLog, EV.push], by simp [EV.putLog, EV.push], by simp [EV.putLog, EV.push], by simp [EV.putLog, EV.push], by simp [EV.putLog, EV.push]⟩
theorem grew_ref (n : Nat) : V.Grew (V.setRef n) 1 0 0 0 0 0 := ⟨by simp [EV.setRef, EV.push], by simp [EV.setRef, EV.push], by simp [EV.setRef, EV.push], by simp [EV.setRef, EV.push], by simp [EV.setRef, EV.push], by simp [EV.setRef, EV.push]⟩
theorem grew_revert (s : Nat) : V.Grew (V.revertTo s) 0 0 0 0 0 0 := by
  unfold EV.revertTo EV.revert EV.till
  obtain ⟨q1, q2, q3⟩ := undoL_sizes (V.journal.take (V.journal.length - V.markAt s)) V
  refine ⟨by simp, ?_, ?_, ?_, ?_, by simp⟩
  · show (undoL _ V).accts.length ≤ _; rw [q1]; omega
  · show (undoL _ V).slots.length ≤ _; rw [q2]; omega
  · show (undoL _ V).temps.length ≤ _; rw [q3]; omega
  · show (undoL _ V).logs.length ≤ _; rw [undoL_logs]; omega
theorem grew_any {a : Nat} {f : EAcct → EAcct} {e : JE} : V.Grew (V.opA a f e) 1 1 0 0 0 0 := grew_opA V a f e
theorem grew_moveI (A : AW) (a b v : Nat) : V.Grew (V.moveTo A a b v) 2 2 0 0 0 0 := by
  unfold EV.moveTo
  split
  · exact Grew.le (Grew.id V) (by omega) (by omega) (by omega) (by omega) (by omega) (by omega)
  · exact grew_any.trans grew_any
/-- What a frame's end lays. -/
theorem grew_ends {s : Nat} {f : AFrame} {status : Nat} {out : List Nat} (h : V.ix f.self ≠ none) : V.Grew (V.ends s f status out) 1 0 0 0 0 0 := by
  have h0 := Grew.le (j' := 1) (Grew.id V) (by omega) (Nat.le_refl 0) (Nat.le_refl 0) (Nat.le_refl 0) (Nat.le_refl 0) (Nat.le_refl 0)
  have h1 := Grew.le (j' := 1) (grew_revert (V := V) s) (by omega) (Nat.le_refl 0) (Nat.le_refl 0) (Nat.le_refl 0) (Nat.le_refl 0) (Nat.le_refl 0)
  unfold EV.ends
  split
  · split
    · split
      · exact h0
      · exact grew_at h
    · exact h1
  · split
    · exact h0
    · exact h1
theorem grew_ends0 {s : Nat} {f : AFrame} {status : Nat} {out : List Nat} (h : ¬ (createsA f.kind = true ∧ status = 0 ∧ (depositA f.gas out).2 = 0 ∧ out ≠ [])) : V.Grew (V.ends s f status out) 0 0 0 0 0 0 := by
  unfold EV.ends
  split
  · rename_i h1
    split
    · rename_i h2
      split
      · exact Grew.id V
      · rename_i h3; exact absurd ⟨h1.1, h1.2, h2, h3⟩ h
    · exact grew_revert s
  · split
    · exact Grew.id V
    · exact grew_revert s
end
section
variable {st : ASt} {f : AFrame} {rest : List AFrame}
/-- Code that is laid is paid. -/
theorem leave_dep {out : List Nat} (h1 : createsA f.kind = true) (h2 : (depositA f.gas out).2 = 0) (h3 : out ≠ []) : gsum (st.leave f rest 0 out).frames + 200 ≤ f.gas + gsum rest := by
  have hl : 1 ≤ out.length := by cases out with | nil => exact absurd rfl h3 | cons => simp
  have hd : (depositA f.gas out).1 + 200 ≤ f.gas := by
    unfold depositA at h2 ⊢
    split at h2; simp at h2
    split at h2; simp at h2
    split at h2; simp at h2
    rename_i q1 q2 q3
    rw [if_neg q1, if_neg q2, if_neg q3]
    simp only
    omega
  unfold ASt.leave
  simp only [h1, h2, Bool.true_and, decide_true, if_true]
  cases rest with
  | nil => simp only [gsum_nil]; omega
  | cons p rest =>
    simp only
    rw [gsum_cons, gsum_cons]
    show p.gas + (if 1 < 0 then 0 else (depositA f.gas out).1) + gsum rest + 200 ≤ _
    rw [if_neg (by omega)]
    omega
end
end Go.Proofs.YgvahwGreat
