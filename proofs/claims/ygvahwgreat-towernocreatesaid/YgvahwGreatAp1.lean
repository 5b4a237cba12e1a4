import Derived.Test.YgvahwGreatYS
namespace Go.Proofs.YgvahwGreat
open Go.RowKit
/-- What a call may have changed: the blocks of P; new ones get a word in P'. -/
structure Kept (P P' : Nat → Prop) (W W' : World) : Prop where
  keep : ∀ b, b < W.heap.size → (P' b ↔ P b)
  mod : Mod P W W'
theorem Kept.trans {P P' P'' : Nat → Prop} {W W' W'' : World} (h : Kept P P' W W') (k : Kept P' P'' W' W'') : Kept P P'' W W'' :=
  ⟨fun b hb => (k.keep b (Nat.lt_of_lt_of_le hb h.mod.size)).trans (h.keep b hb), h.mod.trans' k.mod (fun b hb => by
    rcases Nat.lt_or_ge b W.heap.size with h1 | h1
    · left; exact (h.keep b h1).1 hb
    · exact Or.inr h1)⟩
theorem Kept.ext {P : Nat → Prop} {W W' : World} (e : Ext W W') : Kept P P W W' := ⟨fun _ _ => Iff.rfl, e.mod _⟩
end Go.Proofs.YgvahwGreat
