namespace Go.Proofs.YgvahwGreat
/-- What stands once for each of M places needs M numbers. -/
theorem pigeon : ∀ (n M : Nat) (f : Nat → Nat), (∀ p, p < M → f p < n) → (∀ p q, p < M → q < M → f p = f q → p = q) → M ≤ n
  | 0, M, f, h, _ => by
    rcases Nat.eq_zero_or_pos M with h0 | h0
    · omega
    · have := h 0 h0; omega
  | n + 1, M, f, h, hi => by
    by_cases hx : ∃ p, p < M ∧ f p = n
    · obtain ⟨p, hp, hfp⟩ := hx
      have := pigeon n (M - 1) (fun q => if q = p then f (M - 1) else f q) (fun q hq => by
        split
        · rename_i e
          have h1 := h (M - 1) (by omega)
          have h2 : f (M - 1) ≠ n := fun e2 => by have := hi (M - 1) p (by omega) hp (by omega); omega
          omega
        · rename_i e
          have h1 := h q (by omega)
          have h2 : f q ≠ n := fun e2 => e (hi q p (by omega) hp (by omega))
          omega) (fun q r hq hr he => by
        split at he <;> split at he
        · omega
        · have := hi (M - 1) r (by omega) (by omega) he; omega
        · have := hi q (M - 1) (by omega) (by omega) he; omega
        · exact hi q r (by omega) (by omega) he)
      omega
    · have := pigeon n M f (fun p hp => by
        have h1 := h p hp
        have h2 : f p ≠ n := fun e => hx ⟨p, hp, e⟩
        omega) hi
      omega
/-- A probing table of M places for n entries, whose homes are hm. -/
structure TOK (M n : Nat) (hm : Nat → Nat) (t : Nat → Int) : Prop where
  rng : ∀ p, p < M → t p = -1 ∨ (0 ≤ t p ∧ t p < n)
  once : ∀ p q, p < M → q < M → 0 ≤ t p → t p = t q → p = q
  path : ∀ i, i < n → ∃ d, d < M ∧ t ((hm i + d) % M) = i ∧ ∀ e, e < d → 0 ≤ t ((hm i + e) % M)
theorem TOK.free {M n : Nat} {hm : Nat → Nat} {t : Nat → Int} (h : TOK M n hm t) (hn : n < M) (s : Nat) : ∃ d, d < M ∧ t ((s + d) % M) = -1 := by
  have hM : 0 < M := by omega
  have h1 : ∃ p, p < M ∧ t p = -1 := by
    apply Classical.byContradiction
    intro hc
    have hall : ∀ p, p < M → 0 ≤ t p ∧ t p < n := fun p hp => by
      rcases h.rng p hp with h1 | h1
      · exact absurd ⟨p, hp, h1⟩ hc
      · exact h1
    have := pigeon n M (fun p => (t p).toNat) (fun p hp => by have := hall p hp; omega) (fun p q hp hq he => by
      have h1 := hall p hp
      have h2 := hall q hq
      exact h.once p q hp hq h1.1 (by omega))
    omega
  obtain ⟨p, hp, ht⟩ := h1
  refine ⟨(p + M - s % M) % M, Nat.mod_lt _ hM, ?_⟩
  have : (s + (p + M - s % M) % M) % M = p := by
    have h2 := Nat.mod_lt s hM
    rw [Nat.add_mod_mod]
    have e : s + (p + M - s % M) = p + M * (s / M + 1) := by
      have := Nat.mod_add_div s M
      rw [Nat.mul_add, Nat.mul_one]; omega
    rw [e, Nat.add_mul_mod_self_left, Nat.mod_eq_of_lt hp]
  rw [this]; exact ht
/-- Nothing that bears the key stands ahead of the free place. -/
theorem TOK.none {M n : Nat} {hm : Nat → Nat} {t : Nat → Int} (h : TOK M n hm t) {i d : Nat} (hi : i < n) (hf : t ((hm i + d) % M) = -1) : ∃ e, e < d ∧ t ((hm i + e) % M) = i := by
  obtain ⟨d0, h1, h2, h3⟩ := h.path i hi
  refine ⟨d0, ?_, h2⟩
  rcases Nat.lt_or_ge d0 d with h4 | h4
  · exact h4
  · rcases Nat.eq_or_lt_of_le h4 with h5 | h5
    · subst h5; omega
    · have := h3 d h5; omega
/-- One entry more, at the free place. -/
theorem TOK.put {M n : Nat} {hm : Nat → Nat} {t : Nat → Int} (h : TOK M n hm t) {d : Nat} (hd : d < M) (hf : t ((hm n + d) % M) = -1) (hb : ∀ e, e < d → 0 ≤ t ((hm n + e) % M)) :
    TOK M (n + 1) hm (fun p => if p = (hm n + d) % M then (n : Int) else t p) := by
  have hM : 0 < M := by omega
  refine ⟨fun p hp => ?_, fun p q hp hq h0 he => ?_, fun i hi => ?_⟩
  · split
    · right; omega
    · rcases h.rng p hp with h1 | h1
      · exact Or.inl h1
      · right; omega
  · split at he <;> split at he
    · omega
    · rename_i e1 e2
      rcases h.rng q hq with h1 | h1
      · omega
      · omega
    · rename_i e1 e2
      rcases h.rng p hp with h1 | h1
      · omega
      · omega
    · rename_i e1 e2
      rw [if_neg e1] at h0
      exact h.once p q hp hq h0 he
  · by_cases e : i = n
    · subst e
      refine ⟨d, hd, by simp, fun k hk => ?_⟩
      split
      · omega
      · exact hb k hk
    · obtain ⟨d0, h1, h2, h3⟩ := h.path i (by omega)
      refine ⟨d0, h1, ?_, fun k hk => ?_⟩
      · split
        · rename_i e2; rw [e2] at h2; omega
        · exact h2
      · split
        · omega
        · exact h3 k hk
theorem TOK.nil (M : Nat) (hm : Nat → Nat) (t : Nat → Int) (h : ∀ p, p < M → t p = -1) : TOK M 0 hm t :=
  ⟨fun p hp => Or.inl (h p hp), fun p q hp _ h0 _ => by rw [h p hp] at h0; omega, fun i hi => by omega⟩
theorem TOK.congr {M n : Nat} {hm hm' : Nat → Nat} {t : Nat → Int} (h : TOK M n hm t) (he : ∀ i, i < n → hm' i = hm i) : TOK M n hm' t :=
  ⟨h.rng, h.once, fun i hi => by rw [he i hi]; exact h.path i hi⟩
end Go.Proofs.YgvahwGreat
