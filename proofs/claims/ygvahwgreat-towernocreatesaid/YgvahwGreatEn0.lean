import Derived.Test.YgvahwGreatEs6
import Derived.Test.YgvahwGreatZq
import Derived.Test.YgvahwGreatAp1
namespace Go.Proofs.YgvahwGreat
open Go.RowKit
set_option linter.unusedVariables false
theorem calls_some {P : Program} {f : FuncId} {args : Array Value} {w : World} {R : Ending → World → Prop} (h : Calls P f args w R) : ∃ e w', R e w' := by
  obtain ⟨e, w', fr, hR, _⟩ := h []
  exact ⟨e, w', hR⟩
section
variable {T A0 S0 B g : Nat} {own : Nat → Nat} {w : World} {st : ASt}
theorem EJ.fok (h : EJ T A0 S0 B g st own w) : ∀ x ∈ st.frames, FOK x := by
  obtain ⟨c, V, sn, stale, hR, hA, hE, hP⟩ := h
  exact hA.ok
/-- The run ends: the engine itself shows it. -/
theorem EJ.runs (hT : T < P256) : ∀ (m : Nat) {st : ASt} {own : Nat → Nat} {w : World}, 8 * gsum st.frames + st.frames.length ≤ m → EJ T A0 S0 B g st own w → ∃ n, Runs st n
  | m, st, own, w, hm, h => by
    by_cases hne : st.frames = []
    · exact ⟨0, Runs.nil hne⟩
    · obtain ⟨e, w', own', _, h', _, hok⟩ := calls_some (ejStep hT h hne)
      have hA : AInv T B st := by
        obtain ⟨c, V, sn, stale, hR, hA, hE, hP⟩ := h
        exact hA
      have hlt := (hA.step hne hok).2
      match m with
      | 0 => omega
      | m + 1 =>
        obtain ⟨n, hn⟩ := EJ.runs hT m (by omega) h'
        exact ⟨n + 1, hn.head hne h.fok⟩
/-- The blocks that the engine may write. -/
def EP (own : Nat → Nat) (b : Nat) : Prop := own b ≠ 0 ∧ own b ≠ 9
theorem MStep.kept {own' : Nat → Nat} {w' : World} (k : MStep own w own' w') : Kept (EP own) (EP own') w w' :=
  ⟨fun b hb => by unfold EP; rw [k.keep b hb], k.mod⟩
/-- P tells all that the engine has made since n0, and all that it may write. -/
structure PW (n0 : Nat) (o0 own : Nat → Nat) (P : Nat → Prop) (w : World) : Prop where
  sub : ∀ b, EP own b → P b
  zero : ∀ b, n0 ≤ b → b < w.heap.size → own b = 0 → P b
  lt : ∀ b, P b → b < w.heap.size
  le : n0 ≤ w.heap.size
  old : ∀ b, b < n0 → own b = o0 b
/-- The same with what is new. -/
def PN (P : Nat → Prop) (w w' : World) (b : Nat) : Prop := P b ∨ (w.heap.size ≤ b ∧ b < w'.heap.size)
theorem PW.step {n0 : Nat} {o0 : Nat → Nat} {P : Nat → Prop} {own' : Nat → Nat} {w' : World} (h : PW n0 o0 own P w) (k : MStep own w own' w') (hf : ∀ b, w'.heap.size ≤ b → own' b = 0) : PW n0 o0 own' (PN P w w') w' ∧ Kept P (PN P w w') w w' := by
  refine ⟨⟨fun b hb => ?_, fun b h1 h2 h3 => ?_, fun b hb => ?_, Nat.le_trans h.le k.mod.size, fun b hb => (k.keep b (Nat.lt_of_lt_of_le hb h.le)).trans (h.old b hb)⟩, ⟨fun b hb => ?_, k.mod.sub h.sub⟩⟩
  · rcases Nat.lt_or_ge b w.heap.size with q | q
    · refine Or.inl (h.sub b ?_)
      unfold EP at *
      rw [← k.keep b q]; exact hb
    · refine Or.inr ⟨q, ?_⟩
      rcases Nat.lt_or_ge b w'.heap.size with q2 | q2
      · exact q2
      · exact absurd (hf b q2) hb.1
  · rcases Nat.lt_or_ge b w.heap.size with q | q
    · exact Or.inl (h.zero b h1 q (by rw [← k.keep b q]; exact h3))
    · exact Or.inr ⟨q, h2⟩
  · rcases hb with q | q
    · exact Nat.lt_of_lt_of_le (h.lt b q) k.mod.size
    · exact q.2
  · constructor
    · rintro (q | q)
      · exact q
      · omega
    · exact Or.inl
/-- What others have made meanwhile is marked. -/
theorem PW.tag {n0 : Nat} {o0 : Nat → Nat} {P : Nat → Prop} {own9 : Nat → Nat} {w' : World} (h : PW n0 o0 own P w) (e : Ext w w') (h9 : ∀ b, w.heap.size ≤ b ∧ b < w'.heap.size → own9 b = 9) (ho : ∀ b, ¬ (w.heap.size ≤ b ∧ b < w'.heap.size) → own9 b = own b) : PW n0 o0 own9 P w' := by
  refine ⟨fun b hb => ?_, fun b h1 h2 h3 => ?_, fun b hb => Nat.lt_of_lt_of_le (h.lt b hb) e.size, Nat.le_trans h.le e.size, fun b hb => (ho b (by have := h.le; omega)).trans (h.old b hb)⟩
  · by_cases q : w.heap.size ≤ b ∧ b < w'.heap.size
    · exact absurd (h9 b q) hb.2
    · refine h.sub b ?_
      unfold EP at *
      rw [← ho b q]; exact hb
  · by_cases q : w.heap.size ≤ b ∧ b < w'.heap.size
    · rw [h9 b q] at h3; cases h3
    · exact h.zero b h1 (by omega) (by rw [← ho b q]; exact h3)
/-- The engine while a transaction runs, so many steps before its end stE. -/
def EN (T A0 S0 B g n0 : Nat) (o0 : Nat → Nat) (stE : ASt) (n : Nat) (P : Nat → Prop) (w : World) : Prop :=
  ∃ st own, EJ T A0 S0 B g st own w ∧ Runs st n ∧ ASt.steps n st = stE ∧ PW n0 o0 own P w
theorem EJ.fresh (h : EJ T A0 S0 B g st own w) : ∀ b, w.heap.size ≤ b → own b = 0 := by
  obtain ⟨c, V, sn, stale, hR, hA, hE, hP⟩ := h
  exact hR.v.fresh
theorem enStep {stE : ASt} {n n0 : Nat} {o0 : Nat → Nat} {P : Nat → Prop} (hT : T < P256) (h : EN T A0 S0 B g n0 o0 stE (n + 1) P w) : Calls Hvah.prog 46 #[.pointer (some ⟨g, 0, none⟩)] w fun e w' => ∃ P', e = .returned (.bool true) ∧ EN T A0 S0 B g n0 o0 stE n P' w' ∧ Kept P P' w w' := by
  obtain ⟨st, own, hJ, hr, he, hp⟩ := h
  have hne : st.frames ≠ [] := hr.more 0 (by omega)
  refine (ejStep hT hJ hne).mono ?_
  rintro e w' ⟨own', rfl, h', k', _⟩
  obtain ⟨p1, p2⟩ := hp.step k' h'.fresh
  exact ⟨_, rfl, ⟨st.step, own', h', hr.tail, he, p1⟩, p2⟩
theorem enIdle {stE : ASt} {n0 : Nat} {o0 : Nat → Nat} {P : Nat → Prop} (h : EN T A0 S0 B g n0 o0 stE 0 P w) : Calls Hvah.prog 46 #[.pointer (some ⟨g, 0, none⟩)] w fun e w' => ∃ P', e = .returned (.bool false) ∧ EN T A0 S0 B g n0 o0 stE 0 P' w' ∧ Kept P P' w w' := by
  have h0 := h
  obtain ⟨st, own, hJ, hr, he, hp⟩ := h
  refine (ejIdle hJ hr.last).mono ?_
  rintro e w' ⟨rfl, rfl⟩
  exact ⟨P, rfl, h0, Kept.ext (Ext.refl _)⟩
theorem EN.last {stE : ASt} {n0 : Nat} {o0 : Nat → Nat} {P : Nat → Prop} (h : EN T A0 S0 B g n0 o0 stE 0 P w) : ∃ own c V stale, MRep own w g c V stE [] stale ∧ AInv T B stE ∧ EInv A0 S0 B V stE ∧ PhOK stE ∧ stE.frames = [] ∧ PW n0 o0 own P w := by
  obtain ⟨st, own, ⟨c, V, sn, stale, hR, hA, hE, hP⟩, hr, he, hp⟩ := h
  have e : st = stE := he
  subst e
  have hf : st.frames = [] := hr.last
  have hs : sn = [] := by
    have := FrL.len hR.m.frs
    rw [hf] at this
    exact List.length_eq_zero_iff.1 this
  subst hs
  exact ⟨own, c, V, stale, hR, hA, hE, hP, hf, hp⟩
end
end Go.Proofs.YgvahwGreat
