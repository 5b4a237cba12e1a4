import Derived.Test.YgvahwGreatIvc
namespace Go.Proofs.YgvahwGreat
open Go.RowKit
set_option linter.unusedSimpArgs false
set_option linter.unusedVariables false
set_option maxRecDepth 4000
section
variable {st : ASt} {f : AFrame} {rest : List AFrame}
theorem stepF_ref (hpre : f.pre = 0) (hr : st.refusal f f.opcode ≠ 0) : st.stepF f rest = st.leave f rest (st.refusal f f.opcode) [] := by
  unfold ASt.stepF
  rw [if_neg (fun q => q hpre)]
  simp only [hr, ne_eq, not_false_eq_true, if_true]
theorem stepF_go (hpre : f.pre = 0) (hr : st.refusal f f.opcode = 0) : st.stepF f rest = (if f.opcode = 0 then st.leave (st.paidF f f.opcode) rest 0 [] else if f.opcode = 243 then st.leave (st.paidF f f.opcode) rest 0 (readA (st.paidF f f.opcode).mem (f.arg 0) (f.arg 1)) else if f.opcode = 253 then st.leave (st.paidF f f.opcode) rest 1 (readA (st.paidF f f.opcode).mem (f.arg 0) (f.arg 1)) else if f.opcode = 255 then st.destroys (st.paidF f f.opcode) rest else if f.opcode = 240 ∨ f.opcode = 245 then st.enterCreate (st.paidF f f.opcode) rest f.opcode else if famA f.opcode = 16 then st.enterCall (st.paidF f f.opcode) rest f.opcode else st.plain (st.paidF f f.opcode) rest f.opcode) := by
  unfold ASt.stepF
  rw [if_neg (fun q => q hpre)]
  simp only [hr, ne_eq, not_true, if_false]
  rfl
end
/-- Whether a transaction runs or is done. -/
def PhOK (st : ASt) : Prop := (st.frames ≠ [] ∧ st.phase = 1) ∨ (st.frames = [] ∧ st.phase = 2)
theorem leave_ph (st : ASt) (f : AFrame) (rest : List AFrame) (s : Nat) (out : List Nat) (h : st.phase = 1) : PhOK (st.leave f rest s out) := by
  unfold ASt.leave
  cases rest with
  | nil => exact Or.inr ⟨rfl, rfl⟩
  | cons p rest => exact Or.inl ⟨by simp, h⟩
theorem plain_ph (st : ASt) (f : AFrame) (rest : List AFrame) (o : Nat) (h : st.phase = 1) : PhOK (st.plain f rest o) := by
  unfold ASt.plain
  split
  · exact Or.inl ⟨by simp, h⟩
  split
  · exact Or.inl ⟨by simp, h⟩
  split
  · exact Or.inl ⟨by simp, h⟩
  split
  · exact Or.inl ⟨by simp, h⟩
  · exact Or.inl ⟨by simp, h⟩
theorem call_ph (st : ASt) (f : AFrame) (rest : List AFrame) (o : Nat) (h : st.phase = 1) : PhOK (st.enterCall f rest o) := by
  obtain ⟨v, ev⟩ : ∃ v, (if o = 241 ∨ o = 242 then f.arg 2 else 0) = v := ⟨_, rfl⟩
  by_cases hd : 6 ≤ rest.length ∨ st.now.bal f.self < v
  · unfold ASt.enterCall
    simp only [ev, if_pos hd]
    exact Or.inl ⟨by simp, h⟩
  · unfold ASt.enterCall
    simp only [ev, if_neg hd]
    exact Or.inl ⟨by simp [ASt.enter], h⟩
theorem create_ph (st : ASt) (f : AFrame) (rest : List AFrame) (o : Nat) (h : st.phase = 1) : PhOK (st.enterCreate f rest o) := by
  by_cases h1 : 6 ≤ rest.length ∨ st.now.bal f.self < f.arg 0 ∨ 18446744073709551615 ≤ st.now.nonce f.self
  · unfold ASt.enterCreate
    simp only [if_pos h1]
    exact Or.inl ⟨by simp, h⟩
  · obtain ⟨se, ese⟩ : ∃ s, (if o = 245 then create2AddrA f.self (f.arg 3) (readA f.mem (f.arg 1) (f.arg 2)) else createAddrA f.self (st.now.nonce f.self)) = s := ⟨_, rfl⟩
    by_cases h2 : ((st.now.setNonce f.self (st.now.nonce f.self + 1)).warm se).nonce se ≠ 0 ∨ ((st.now.setNonce f.self (st.now.nonce f.self + 1)).warm se).code se ≠ []
    · unfold ASt.enterCreate
      simp only [if_neg h1, ese, if_pos h2]
      exact Or.inl ⟨by simp, h⟩
    · unfold ASt.enterCreate
      simp only [if_neg h1, ese, if_neg h2]
      exact Or.inl ⟨by simp [ASt.enter], h⟩
theorem destroys_ph (st : ASt) (f : AFrame) (rest : List AFrame) (h : st.phase = 1) : PhOK (st.destroys f rest) := by
  unfold ASt.destroys
  exact leave_ph _ _ _ _ _ h
theorem stepF_ph (st : ASt) (f : AFrame) (rest : List AFrame) (h : st.phase = 1) : PhOK (st.stepF f rest) := by
  by_cases hpre : f.pre = 0
  · by_cases hrf : st.refusal f f.opcode = 0
    · rw [stepF_go hpre hrf]
      split
      · exact leave_ph _ _ _ _ _ h
      split
      · exact leave_ph _ _ _ _ _ h
      split
      · exact leave_ph _ _ _ _ _ h
      split
      · exact destroys_ph _ _ _ h
      split
      · exact create_ph _ _ _ _ h
      split
      · exact call_ph _ _ _ _ h
      · exact plain_ph _ _ _ _ h
    · rw [stepF_ref hpre hrf]; exact leave_ph _ _ _ _ _ h
  · unfold ASt.stepF
    rw [if_pos hpre]
    split
    · exact leave_ph _ _ _ _ _ h
    · split
      · exact leave_ph _ _ _ _ _ h
      · exact leave_ph _ _ _ _ _ h
end Go.Proofs.YgvahwGreat
