import Derived.Test.YgvahwGreatIve
import Derived.Test.YgvahwGreatOs
namespace Go.Proofs.YgvahwGreat
open Go.RowKit
set_option linter.unusedSimpArgs false
set_option linter.unusedVariables false

/-- The machine behind Admit, at an instruction that goes on. -/
structure XC (T A0 S0 B : Nat) (own : Nat → Nat) (w : World) (g : Nat) (c : Nat → Value) (V : EV) (st : ASt) (s : Nat) (sn stale : List Nat) (f : AFrame) (rest : List AFrame) (o : Nat) : Prop where
  h : MRep own w g c V { st with frames := st.paidF f o :: rest } (s :: sn) stale
  hst : st.frames = f :: rest
  hph : st.phase = 1
  hpre : f.pre = 0
  ho : f.opcode = o
  hr : st.refusal f o = 0
  hA : AInv T B st
  hE : EInv A0 S0 B V st
  hT : T < P256
/-- What an instruction leaves. -/
def XO (A0 S0 B : Nat) (own : Nat → Nat) (w : World) (g : Nat) (st' : ASt) (w' : World) : Prop :=
  ∃ own' c' V' sn' stale', MRep own' w' g c' V' st' sn' stale' ∧ MStep own w own' w' ∧ EInv A0 S0 B V' st'
theorem grow_ge {m : List Nat} {t : Nat} : t ≤ (growA m t).length := by
  unfold growA
  split
  · simp; unfold wordsA at *; omega
  · unfold wordsA at *; omega
theorem endA_two {a n k : Nat} (h : endA a n ≤ k) (hn : n ≠ 0) : a + n ≤ k := by unfold endA at h; rw [if_neg hn] at h; exact h
theorem plain_gsum (st : ASt) (F : AFrame) (rest : List AFrame) (o : Nat) : gsum (st.plain F rest o).frames = F.gas + gsum rest := by
  unfold ASt.plain
  split
  · simp only [gsum_cons]
  split
  · simp only [gsum_cons]; rfl
  split
  · simp only [gsum_cons]
  split
  · simp only [gsum_cons]; rfl
  · simp only [gsum_cons]; rfl
section
variable {T A0 S0 B : Nat} {own : Nat → Nat} {w : World} {g : Nat} {c : Nat → Value} {V : EV} {st : ASt} {sn stale : List Nat} {s : Nat} {f : AFrame} {rest : List AFrame}
variable {o : Nat}
theorem XC.ext {w' : World} (x : XC T A0 S0 B own w g c V st s sn stale f rest o) (e : Ext w w') : XC T A0 S0 B own w' g c V st s sn stale f rest o :=
  ⟨x.h.ext e, x.hst, x.hph, x.hpre, x.ho, x.hr, x.hA, x.hE, x.hT⟩
theorem XO.ext {w' w'' : World} {st' : ASt} (e : Ext w w') (x : XO A0 S0 B own w' g st' w'') : XO A0 S0 B own w g st' w'' := by
  obtain ⟨own', c', V', sn', stale', h1, h2, h3⟩ := x
  exact ⟨own', c', V', sn', stale', h1, (MStep.ext e).trans h2, h3⟩
theorem XC.op (x : XC T A0 S0 B own w g c V st s sn stale f rest o) : (st.paidF f o).opcode = o := x.ho
theorem XC.tk (x : XC T A0 S0 B own w g c V st s sn stale f rest o) : takesA o ≤ (st.paidF f o).stack.length := (refusal_zero x.hr).2.1
theorem XC.gv (x : XC T A0 S0 B own w g c V st s sn stale f rest o) : (st.paidF f o).stack.length - takesA o + givesA o ≤ 64 := (refusal_zero x.hr).2.2.1
theorem XC.pc (x : XC T A0 S0 B own w g c V st s sn stale f rest o) : (st.paidF f o).pc ≤ 50000 := Nat.le_trans (x.hA.top f rest x.hst) (by decide)
theorem XC.reach (x : XC T A0 S0 B own w g c V st s sn stale f rest o) : f.reach o ≤ (st.paidF f o).mem.length := grow_ge
theorem XC.room (x : XC T A0 S0 B own w g c V st s sn stale f rest o) : Room V 8 := x.hE.room
theorem XC.paid (x : XC T A0 S0 B own w g c V st s sn stale f rest o) : (st.paidF f o).gas + st.bareCost f o ≤ f.gas := (paid_le (refusal_zero x.hr).2.2.2.1).2
theorem XC.self (x : XC T A0 S0 B own w g c V st s sn stale f rest o) : V.ix f.self ≠ none := acct_at (by rw [x.h.abs]; exact x.hA.warm f (by rw [x.hst]; simp))
theorem XC.noOv (x : XC T A0 S0 B own w g c V st s sn stale f rest o) : WInv T (B - gsum st.frames) st.orig st.now := x.hA.now
theorem XC.below (x : XC T A0 S0 B own w g c V st s sn stale f rest o) : ∀ p r, rest = p :: r → p.gas + (st.paidF f o).gas ≤ 1048576 ∧ p.stack.length < 64 ∧ p.pc ≤ 50000 := fun p r e => by
  have h1 := x.hA.wait f rest x.hst p (by rw [e]; simp)
  have h2 := x.hA.gas
  have h3 := x.hA.hB
  have h4 := x.paid
  rw [x.hst, e, gsum_cons, gsum_cons] at h2
  exact ⟨by omega, h1.2, by omega⟩
/-- The step that goes on. -/
theorem XC.step (x : XC T A0 S0 B own w g c V st s sn stale f rest o) (h0 : o ≠ 0) (h1 : o ≠ 243) (h2 : o ≠ 253) (h3 : o ≠ 255) (h4 : famA o ≠ 16) : st.stepF f rest = st.plain (st.paidF f o) rest o := by
  have e := x.ho
  subst e
  have h5 : ¬ (f.opcode = 240 ∨ f.opcode = 245) := fun q => h4 (by rcases q with q | q <;> rw [q] <;> rfl)
  unfold ASt.stepF
  rw [if_neg (fun q => q x.hpre)]
  simp only [x.hr, ne_eq, not_true, if_false, if_neg h0, if_neg h1, if_neg h2, if_neg h3, if_neg h5, if_neg h4]
  rfl
/-- What is left to say of an instruction that goes on. -/
theorem XC.fin (x : XC T A0 S0 B own w g c V st s sn stale f rest o) (h0 : o ≠ 0) (h1 : o ≠ 243) (h2 : o ≠ 253) (h3 : o ≠ 255) (h4 : famA o ≠ 16) {own' : Nat → Nat} {c' : Nat → Value} {V' : EV} {w' : World} {sn' stale' : List Nat} {st' : ASt} (h' : MRep own' w' g c' V' st' sn' stale') (k : MStep own w own' w') (e : st.plain (st.paidF f o) rest o = st')
    {j a s2 t l m : Nat} (q : V.Grew V' j a s2 t l m) (hj : 25 * j ≤ st.bareCost f o) (ha : 1250 * a ≤ st.bareCost f o) (hs : 2100 * s2 ≤ st.bareCost f o) (ht : 100 * t ≤ st.bareCost f o) (hl : 375 * l ≤ st.bareCost f o) (hm : 100 * m ≤ st.bareCost f o) : XO A0 S0 B own w g (st.stepF f rest) w' := by
  rw [x.step h0 h1 h2 h3 h4]
  refine ⟨own', c', V', sn', stale', by rw [e]; exact h', k, x.hE.go q (D := st.bareCost f o) ?_ hj ha hs ht hl hm⟩
  rw [plain_gsum, x.hst, gsum_cons]
  have := x.paid
  omega
theorem XC.fin0 (x : XC T A0 S0 B own w g c V st s sn stale f rest o) (h0 : o ≠ 0) (h1 : o ≠ 243) (h2 : o ≠ 253) (h3 : o ≠ 255) (h4 : famA o ≠ 16) {own' : Nat → Nat} {c' : Nat → Value} {w' : World} {sn' stale' : List Nat} {st' : ASt} (h' : MRep own' w' g c' V st' sn' stale') (k : MStep own w own' w') (e : st.plain (st.paidF f o) rest o = st') : XO A0 S0 B own w g (st.stepF f rest) w' :=
  x.fin h0 h1 h2 h3 h4 h' k e (Grew.id V) (Nat.zero_le _) (Nat.zero_le _) (Nat.zero_le _) (Nat.zero_le _) (Nat.zero_le _) (Nat.zero_le _)
end
end Go.Proofs.YgvahwGreat
