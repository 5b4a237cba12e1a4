import Derived.Test.YgvahwGreatYZf
import Derived.Test.YgvahwGreatIv
namespace Go.Proofs.YgvahwGreat
/-- The limits of the specification's world out of the plain machine's invariant and the sizes. -/
theorem YLim.inv {T S : Nat} {og : Nat → Nat → Nat} {W : YW} (hs : W.siz ≤ 90000) (k : WInv T S og W.abs) (hT : T < P256) (hS : 199 * S < 18446744073709551616) : YLim W :=
  YLim.of hs (fun a => Nat.le_trans (k.code a) (by decide)) (fun a => k.nonce a) (fun a => Nat.lt_of_le_of_lt (show W.abs.bal a ≤ T by have := k.sum [a] (by simp); simpa using this) hT) (Nat.lt_of_le_of_lt k.ref hS)
/-- What the lists hold against the gas that is left: 50 a place. -/
structure SInv (K : Nat) (W : YW) (g : Nat) (L : List YFrm) : Prop where
  now : 50 * W.siz + g ≤ K
  saved : ∀ x ∈ L, 50 * x.sv.siz + g ≤ K
theorem SInv.siz {K : Nat} {W : YW} {g : Nat} {L : List YFrm} (h : SInv K W g L) (hK : K ≤ 4400000) : W.siz ≤ 88000 := by have := h.now; omega
/-- A step that lets the lists grow by k places at 50 k gas or more. -/
theorem SInv.go {K : Nat} {W W' : YW} {g g' k : Nat} {L L' : List YFrm} (h : SInv K W g L) (hw : W'.siz ≤ W.siz + k) (hg : g' + 50 * k ≤ g) (hL : ∀ y ∈ L', y.sv = W ∨ y.sv = W' ∨ ∃ z ∈ L, y.sv = z.sv) : SInv K W' g' L' := by
  have h1 := h.now
  refine ⟨by omega, fun y hy => ?_⟩
  rcases hL y hy with e | e | ⟨z, hz, e⟩
  · rw [e]; omega
  · rw [e]; omega
  · have := h.saved z hz
    rw [e]; omega
/-- A frame that puts its world back. -/
theorem SInv.back {K : Nat} {W : YW} {g g' : Nat} {L L' : List YFrm} (h : SInv K W g L) {x : YFrm} (hx : x ∈ L) (hg : g' ≤ g) (hL : ∀ y ∈ L', ∃ z ∈ L, y.sv = z.sv) : SInv K x.sv g' L' := by
  have h1 := h.saved x hx
  refine ⟨by omega, fun y hy => ?_⟩
  obtain ⟨z, hz, e⟩ := hL y hy
  have := h.saved z hz
  rw [e]; omega
end Go.Proofs.YgvahwGreat
