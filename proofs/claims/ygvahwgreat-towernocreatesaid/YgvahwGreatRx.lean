import Derived.Test.YgvahwGreatNg
namespace Go.Proofs.YgvahwGreat
/-- Bytes in a slice of any capacity. -/
def NLx (O : Nat → Prop) (w : World) (v : Value) (l : List Nat) : Prop := ∃ o c, v = .slice o l.length c ∧ l.length ≤ c ∧ c ≤ 9223372036854775807 ∧ BS O w o l
theorem NL.x {O : Nat → Prop} {w : World} {v : Value} {l : List Nat} (h : NL O w v l) : NLx O w v l := by
  obtain ⟨o, c, h1, h2, h3, h4⟩ := h
  exact ⟨o, c, h1, h2, by omega, h4⟩
theorem NLx.ext {O : Nat → Prop} {w w' : World} {v : Value} {l : List Nat} (h : NLx O w v l) (e : Ext w w') : NLx O w' v l := by
  obtain ⟨o, c, h1, h2, h3, h4⟩ := h
  exact ⟨o, c, h1, h2, h3, h4.ext e⟩
/-- The contract of the model's hash, for any capacity. -/
def KSumX : Prop := ∀ (O' : Nat → Prop) (w : World) (v : Value) (l : List Nat), NLx O' w v l → l.length ≤ 1000000 → Calls Hvah.prog 224 #[v] w fun e w' => e = .returned (.agg (bw (kec l))) ∧ Ext w w'
end Go.Proofs.YgvahwGreat
