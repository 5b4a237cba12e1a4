import Derived.Test.YgvahwGreatProbe
namespace Go.Proofs.YgvahwGreat
/-- The first free place from s on. -/
theorem TOK.first {M n : Nat} {hm : Nat → Nat} {t : Nat → Int} (h : TOK M n hm t) (hn : n < M) (s : Nat) : ∃ d, d < M ∧ t ((s + d) % M) = -1 ∧ ∀ e, e < d → 0 ≤ t ((s + e) % M) := by
  obtain ⟨d0, p1, p2⟩ := h.free hn s
  have : ∀ m, (∃ d, d < m ∧ d < M ∧ t ((s + d) % M) = -1) → ∃ d, d < M ∧ t ((s + d) % M) = -1 ∧ ∀ e, e < d → 0 ≤ t ((s + e) % M) := fun m => by
    induction m with
    | zero => rintro ⟨d, hd, _⟩; omega
    | succ m ih =>
      rintro ⟨d, q1, q2, q3⟩
      by_cases hx : ∃ d, d < m ∧ d < M ∧ t ((s + d) % M) = -1
      · exact ih hx
      · refine ⟨d, q2, q3, fun e he => ?_⟩
        rcases h.rng ((s + e) % M) (Nat.mod_lt _ (by omega)) with h3 | h3
        · exact absurd ⟨e, by omega, by omega, h3⟩ hx
        · exact h3.1
  exact this (d0 + 1) ⟨d0, by omega, p1, p2⟩
end Go.Proofs.YgvahwGreat
