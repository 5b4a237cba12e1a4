import Derived.Test.YgvahwGreatBg0
import Derived.Test.YgvahwGreatZq
import Derived.Test.YgvahwGreatIve
namespace Go.Proofs.YgvahwGreat
open Go.RowKit
set_option linter.unusedVariables false
set_option linter.unusedSimpArgs false
set_option maxRecDepth 8000
/-- What a run leaves alone. -/
structure Hd (st st' : ASt) : Prop where
  limit : st'.limit = st.limit
  price : st'.price = st.price
  origin : st'.origin = st.origin
  made : st'.made = st.made
  env : st'.env = st.env
  orig : st'.orig = st.orig
theorem Hd.refl (st : ASt) : Hd st st := ⟨rfl, rfl, rfl, rfl, rfl, rfl⟩
theorem Hd.trans {a b c : ASt} (h : Hd a b) (k : Hd b c) : Hd a c := ⟨k.limit.trans h.limit, k.price.trans h.price, k.origin.trans h.origin, k.made.trans h.made, k.env.trans h.env, k.orig.trans h.orig⟩
theorem leave_hd (st : ASt) (f : AFrame) (rest : List AFrame) (s : Nat) (out : List Nat) : Hd st (st.leave f rest s out) := by
  unfold ASt.leave
  cases rest with
  | nil => exact ⟨rfl, rfl, rfl, rfl, rfl, rfl⟩
  | cons p r => exact ⟨rfl, rfl, rfl, rfl, rfl, rfl⟩
theorem plain_hd (st : ASt) (f : AFrame) (rest : List AFrame) (o : Nat) : Hd st (st.plain f rest o) := by
  unfold ASt.plain
  split
  · exact ⟨rfl, rfl, rfl, rfl, rfl, rfl⟩
  split
  · exact ⟨rfl, rfl, rfl, rfl, rfl, rfl⟩
  split
  · exact ⟨rfl, rfl, rfl, rfl, rfl, rfl⟩
  split
  · exact ⟨rfl, rfl, rfl, rfl, rfl, rfl⟩
  · exact ⟨rfl, rfl, rfl, rfl, rfl, rfl⟩
theorem call_hd (st : ASt) (f : AFrame) (rest : List AFrame) (o : Nat) : Hd st (st.enterCall f rest o) := by
  obtain ⟨v, ev⟩ : ∃ v, (if o = 241 ∨ o = 242 then f.arg 2 else 0) = v := ⟨_, rfl⟩
  by_cases hd : 6 ≤ rest.length ∨ st.now.bal f.self < v
  · unfold ASt.enterCall
    simp only [ev, if_pos hd]
    exact ⟨rfl, rfl, rfl, rfl, rfl, rfl⟩
  · unfold ASt.enterCall
    simp only [ev, if_neg hd]
    exact ⟨rfl, rfl, rfl, rfl, rfl, rfl⟩
theorem create_hd (st : ASt) (f : AFrame) (rest : List AFrame) (o : Nat) : Hd st (st.enterCreate f rest o) := by
  by_cases h1 : 6 ≤ rest.length ∨ st.now.bal f.self < f.arg 0 ∨ 18446744073709551615 ≤ st.now.nonce f.self
  · unfold ASt.enterCreate
    simp only [if_pos h1]
    exact ⟨rfl, rfl, rfl, rfl, rfl, rfl⟩
  · obtain ⟨se, ese⟩ : ∃ s, (if o = 245 then create2AddrA f.self (f.arg 3) (readA f.mem (f.arg 1) (f.arg 2)) else createAddrA f.self (st.now.nonce f.self)) = s := ⟨_, rfl⟩
    by_cases h2 : ((st.now.setNonce f.self (st.now.nonce f.self + 1)).warm se).nonce se ≠ 0 ∨ ((st.now.setNonce f.self (st.now.nonce f.self + 1)).warm se).code se ≠ []
    · unfold ASt.enterCreate
      simp only [if_neg h1, ese, if_pos h2]
      exact ⟨rfl, rfl, rfl, rfl, rfl, rfl⟩
    · unfold ASt.enterCreate
      simp only [if_neg h1, ese, if_neg h2]
      exact ⟨rfl, rfl, rfl, rfl, rfl, rfl⟩
theorem destroys_hd (st : ASt) (f : AFrame) (rest : List AFrame) : Hd st (st.destroys f rest) := by
  unfold ASt.destroys
  dsimp only
  exact ⟨(leave_hd _ f rest 0 []).limit, (leave_hd _ f rest 0 []).price, (leave_hd _ f rest 0 []).origin, (leave_hd _ f rest 0 []).made, (leave_hd _ f rest 0 []).env, (leave_hd _ f rest 0 []).orig⟩
/-- A frame's end with nothing behind it. -/
theorem leave_end (st : ASt) (f : AFrame) (rest : List AFrame) (s : Nat) (out : List Nat) (hs : s < 13) (hf : (st.leave f rest s out).frames = []) : (st.leave f rest s out).left ≤ f.gas ∧ (st.leave f rest s out).status < 13 := by
  cases rest with
  | cons p r => unfold ASt.leave at hf; simp at hf
  | nil =>
    obtain ⟨d, ed⟩ : ∃ d, depositA f.gas out = d := ⟨_, rfl⟩
    have hd : d.1 ≤ f.gas ∧ d.2 < 13 := by
      rw [← ed]
      unfold depositA
      split
      · exact ⟨Nat.zero_le _, by decide⟩
      split
      · exact ⟨Nat.zero_le _, by decide⟩
      split
      · exact ⟨Nat.zero_le _, by decide⟩
      · exact ⟨Nat.sub_le _ _, (by decide : (0 : Nat) < 13)⟩
    cases hb : (createsA f.kind && decide (s = 0)) with
    | true =>
      unfold ASt.leave
      simp only [ed, hb, if_true]
      constructor
      · split
        · exact Nat.zero_le _
        · exact hd.1
      · exact hd.2
    | false =>
      unfold ASt.leave
      simp only [ed, hb, Bool.false_eq_true, if_false]
      constructor
      · split
        · exact Nat.zero_le _
        · exact Nat.le_refl _
      · exact hs
theorem refusal_13 (st : ASt) (f : AFrame) (o : Nat) : st.refusal f o < 13 := by
  unfold ASt.refusal
  split
  · decide
  split
  · decide
  split
  · decide
  split
  · decide
  split
  · decide
  split
  · decide
  split
  · decide
  split
  · decide
  split
  · decide
  · decide
theorem stepF_hd (st : ASt) (f : AFrame) (rest : List AFrame) : Hd st (st.stepF f rest) := by
  by_cases hpre : f.pre = 0
  · by_cases hrf : st.refusal f f.opcode = 0
    · rw [stepF_go hpre hrf]
      split
      · exact leave_hd _ _ _ _ _
      split
      · exact leave_hd _ _ _ _ _
      split
      · exact leave_hd _ _ _ _ _
      split
      · exact destroys_hd _ _ _
      split
      · exact create_hd _ _ _ _
      split
      · exact call_hd _ _ _ _
      · exact plain_hd _ _ _ _
    · rw [stepF_ref hpre hrf]; exact leave_hd _ _ _ _ _
  · unfold ASt.stepF
    rw [if_pos hpre]
    split
    · exact leave_hd _ _ _ _ _
    · split
      · exact leave_hd _ _ _ _ _
      · exact leave_hd _ _ _ _ _
theorem plain_ne (st : ASt) (f : AFrame) (rest : List AFrame) (o : Nat) : (st.plain f rest o).frames ≠ [] := by
  unfold ASt.plain
  split
  · simp
  split
  · simp
  split
  · simp
  split
  · simp
  · simp
theorem call_ne (st : ASt) (f : AFrame) (rest : List AFrame) (o : Nat) : (st.enterCall f rest o).frames ≠ [] := by
  obtain ⟨v, ev⟩ : ∃ v, (if o = 241 ∨ o = 242 then f.arg 2 else 0) = v := ⟨_, rfl⟩
  by_cases hd : 6 ≤ rest.length ∨ st.now.bal f.self < v
  · unfold ASt.enterCall
    simp only [ev, if_pos hd]
    simp
  · unfold ASt.enterCall
    simp only [ev, if_neg hd]
    simp [ASt.enter]
theorem create_ne (st : ASt) (f : AFrame) (rest : List AFrame) (o : Nat) : (st.enterCreate f rest o).frames ≠ [] := by
  by_cases h1 : 6 ≤ rest.length ∨ st.now.bal f.self < f.arg 0 ∨ 18446744073709551615 ≤ st.now.nonce f.self
  · unfold ASt.enterCreate
    simp only [if_pos h1]
    simp
  · obtain ⟨se, ese⟩ : ∃ s, (if o = 245 then create2AddrA f.self (f.arg 3) (readA f.mem (f.arg 1) (f.arg 2)) else createAddrA f.self (st.now.nonce f.self)) = s := ⟨_, rfl⟩
    by_cases h2 : ((st.now.setNonce f.self (st.now.nonce f.self + 1)).warm se).nonce se ≠ 0 ∨ ((st.now.setNonce f.self (st.now.nonce f.self + 1)).warm se).code se ≠ []
    · unfold ASt.enterCreate
      simp only [if_neg h1, ese, if_pos h2]
      simp
    · unfold ASt.enterCreate
      simp only [if_neg h1, ese, if_neg h2]
      simp [ASt.enter]
theorem stepF_end (st : ASt) (f : AFrame) (rest : List AFrame) (hf : (st.stepF f rest).frames = []) : (st.stepF f rest).left ≤ f.gas ∧ (st.stepF f rest).status < 13 := by
  by_cases hpre : f.pre = 0
  · by_cases hrf : st.refusal f f.opcode = 0
    · rw [stepF_go hpre hrf] at hf ⊢
      have hg : (st.paidF f f.opcode).gas ≤ f.gas := Nat.sub_le _ _
      by_cases h0 : f.opcode = 0
      · rw [if_pos h0] at hf ⊢
        exact ⟨Nat.le_trans (leave_end _ _ _ _ _ (by decide) hf).1 hg, (leave_end _ _ _ _ _ (by decide) hf).2⟩
      rw [if_neg h0] at hf ⊢
      by_cases h1 : f.opcode = 243
      · rw [if_pos h1] at hf ⊢
        exact ⟨Nat.le_trans (leave_end _ _ _ _ _ (by decide) hf).1 hg, (leave_end _ _ _ _ _ (by decide) hf).2⟩
      rw [if_neg h1] at hf ⊢
      by_cases h2 : f.opcode = 253
      · rw [if_pos h2] at hf ⊢
        exact ⟨Nat.le_trans (leave_end _ _ _ _ _ (by decide) hf).1 hg, (leave_end _ _ _ _ _ (by decide) hf).2⟩
      rw [if_neg h2] at hf ⊢
      by_cases h3 : f.opcode = 255
      · rw [if_pos h3] at hf ⊢
        unfold ASt.destroys at hf ⊢
        exact ⟨Nat.le_trans (leave_end _ _ _ _ _ (by decide) hf).1 hg, (leave_end _ _ _ _ _ (by decide) hf).2⟩
      rw [if_neg h3] at hf ⊢
      by_cases h4 : f.opcode = 240 ∨ f.opcode = 245
      · rw [if_pos h4] at hf; exact absurd hf (create_ne _ _ _ _)
      rw [if_neg h4] at hf ⊢
      by_cases h5 : famA f.opcode = 16
      · rw [if_pos h5] at hf; exact absurd hf (call_ne _ _ _ _)
      rw [if_neg h5] at hf; exact absurd hf (plain_ne _ _ _ _)
    · rw [stepF_ref hpre hrf] at hf ⊢
      exact leave_end _ _ _ _ _ (refusal_13 _ _ _) hf
  · unfold ASt.stepF at hf ⊢
    rw [if_pos hpre] at hf ⊢
    cases hc : natCost f.pre f.input with
    | none => rw [hc] at hf; exact leave_end _ _ _ _ _ (by decide) hf
    | some k =>
      rw [hc] at hf
      simp only at hf ⊢
      by_cases hk : f.gas < k
      · rw [if_pos hk] at hf ⊢; exact leave_end _ _ _ _ _ (by decide) hf
      · rw [if_neg hk] at hf ⊢
        have := leave_end st { f with gas := f.gas - k } rest 0 (natRun f.pre f.input) (by decide) hf
        exact ⟨Nat.le_trans this.1 (Nat.sub_le _ _), this.2⟩
/-- At the end of a run. -/
theorem runs_end {B : Nat} : ∀ (n : Nat) {st : ASt} {T : Nat}, Runs st n → AInv T B st → (st.frames = [] → st.left ≤ B ∧ st.status < 13) → Hd st (ASt.steps n st) ∧ AInv T B (ASt.steps n st) ∧ (ASt.steps n st).left ≤ B ∧ (ASt.steps n st).status < 13
  | 0, st, T, hr, hA, h0 => ⟨Hd.refl st, hA, h0 hr.last⟩
  | n + 1, st, T, hr, hA, h0 => by
    have hne : st.frames ≠ [] := hr.more 0 (by omega)
    have hok : ∀ x ∈ st.step.frames, FOK x := hr.ok 1 (by omega)
    have hA2 := (hA.step hne hok).1
    obtain ⟨f, rest, hst⟩ : ∃ f rest, st.frames = f :: rest := by
      cases e : st.frames with
      | nil => exact absurd e hne
      | cons f rest => exact ⟨f, rest, rfl⟩
    have es : st.step = st.stepF f rest := by unfold ASt.step; rw [hst]
    have hg : f.gas ≤ B := by have := hA.gas; rw [hst, gsum_cons] at this; omega
    have hend : st.step.frames = [] → st.step.left ≤ B ∧ st.step.status < 13 := fun q => by
      rw [es] at q ⊢
      have := stepF_end st f rest q
      exact ⟨Nat.le_trans this.1 hg, this.2⟩
    obtain ⟨k1, k2, k3, k4⟩ := runs_end n hr.tail hA2 hend
    have hh : Hd st st.step := by rw [es]; exact stepF_hd st f rest
    exact ⟨hh.trans k1, k2, k3, k4⟩
end Go.Proofs.YgvahwGreat
