import Derived.Test.YgvahwGreatZp
import Derived.Test.YgvahwGreatTop
namespace Go.Proofs.YgvahwGreat
open Go.RowKit
set_option linter.unusedVariables false
/-- How the run goes: so many steps, each with sound frames, and then no frame is left. -/
structure Runs (st : ASt) (n : Nat) : Prop where
  more : ∀ k, k < n → (ASt.steps k st).frames ≠ []
  ok : ∀ k, k ≤ n → ∀ x ∈ (ASt.steps k st).frames, FOK x
  last : (ASt.steps n st).frames = []
theorem Runs.tail {st : ASt} {n : Nat} (h : Runs st (n + 1)) : Runs st.step n :=
  ⟨fun k hk => h.more (k + 1) (by omega), fun k hk => h.ok (k + 1) (by omega), h.last⟩
theorem Runs.head {st : ASt} {n : Nat} (h : Runs st.step n) (hne : st.frames ≠ []) (hok : ∀ x ∈ st.frames, FOK x) : Runs st (n + 1) where
  more := fun k hk => by
    cases k with
    | zero => exact hne
    | succ k => exact h.more k (by omega)
  ok := fun k hk => by
    cases k with
    | zero => exact hok
    | succ k => exact h.ok k (by omega)
  last := h.last
theorem Runs.nil {st : ASt} (h : st.frames = []) : Runs st 0 where
  more := fun k hk => absurd hk (Nat.not_lt_zero _)
  ok := fun k hk x hx => by
    obtain rfl : k = 0 := by omega
    have hx2 : x ∈ st.frames := hx
    rw [h] at hx2; exact absurd hx2 List.not_mem_nil
  last := h
end Go.Proofs.YgvahwGreat
