/- The plain mathematics of digits to the base 256: no Go here. -/
namespace Go.Proofs.YgvahwGreat
set_option linter.unusedVariables false

/-- The digits' number, the least first. -/
def val : List Nat → Nat
  | [] => 0
  | d :: l => d + 256 * val l

/-- Without the zeros at its top. -/
def trimL : List Nat → List Nat
  | [] => []
  | d :: l => if trimL l = [] ∧ d = 0 then [] else d :: trimL l

/-- The digits of a number, with fuel. -/
def digsF : Nat → Nat → List Nat
  | 0, _ => []
  | f + 1, x => if x = 0 then [] else (x % 256) :: digsF f (x / 256)
/-- The digits of a number. -/
def digs (x : Nat) : List Nat := digsF x x

abbrev Digits (l : List Nat) : Prop := ∀ d ∈ l, d < 256

theorem digits_nil : Digits [] := fun _ h => by cases h

theorem val_append (a b : List Nat) : val (a ++ b) = val a + 256 ^ a.length * val b := by
  induction a with
  | nil => simp [val]
  | cons d a ih => simp only [List.cons_append, val, ih, List.length_cons, Nat.pow_succ]; rw [Nat.mul_add, Nat.add_assoc, ← Nat.mul_assoc, Nat.mul_comm (256 ^ a.length) 256]

theorem val_lt (l : List Nat) (h : Digits l) : val l < 256 ^ l.length := by
  induction l with
  | nil => simp [val]
  | cons d l ih =>
    have hd := h d (by simp)
    have := ih (fun e he => h e (by simp [he]))
    simp only [val, List.length_cons, Nat.pow_succ]
    omega

theorem val_replicate_zero (n : Nat) : val (List.replicate n 0) = 0 := by
  induction n with
  | zero => rfl
  | succ n ih => simp [List.replicate_succ, val, ih]

theorem trimL_length_le (l : List Nat) : (trimL l).length ≤ l.length := by
  induction l with
  | nil => simp [trimL]
  | cons d l ih => simp only [trimL]; split <;> simp <;> omega

theorem trimL_eq_take (l : List Nat) : trimL l = l.take (trimL l).length := by
  induction l with
  | nil => simp [trimL]
  | cons d l ih =>
    simp only [trimL]
    split
    · simp
    · simp only [List.length_cons, List.take_succ_cons]; rw [← ih]

theorem trimL_zero (l : List Nat) (i : Nat) (h : i < l.length) (hi : (trimL l).length ≤ i) : l[i] = 0 := by
  induction l generalizing i with
  | nil => simp at h
  | cons d l ih =>
    simp only [trimL] at hi
    cases i with
    | zero =>
      split at hi
      · rename_i hz; simpa using hz.2
      · simp at hi
    | succ i =>
      simp only [List.getElem_cons_succ]
      refine ih i (by simpa using h) ?_
      split at hi
      · rename_i hz; rw [hz.1]; simp
      · simpa using hi

theorem trimL_last (l : List Nat) (h : 0 < (trimL l).length) : ∃ _hk : (trimL l).length - 1 < l.length, l[(trimL l).length - 1] ≠ 0 := by
  induction l with
  | nil => simp [trimL] at h
  | cons d l ih =>
    by_cases hz : trimL l = [] ∧ d = 0
    · simp [trimL, hz] at h
    · simp only [trimL, hz, if_false, List.length_cons, Nat.add_sub_cancel]
      by_cases h0 : (trimL l).length = 0
      · have e : trimL l = [] := List.length_eq_zero_iff.1 h0
        refine ⟨by omega, ?_⟩
        simp only [h0, List.getElem_cons_zero]
        intro hd; exact hz ⟨e, hd⟩
      · obtain ⟨hk, hn⟩ := ih (by omega)
        obtain ⟨q, hq⟩ : ∃ q, (trimL l).length = q + 1 := ⟨(trimL l).length - 1, by omega⟩
        simp only [hq, Nat.add_sub_cancel] at hk hn ⊢
        exact ⟨by omega, by simpa using hn⟩

/-- Where the zeros begin is where the trimmed list ends. -/
theorem trimL_length_of (l : List Nat) (k : Nat) (hk : k ≤ l.length) (hz : ∀ i (h : i < l.length), k ≤ i → l[i] = 0)
    (ht : 0 < k → ∃ h : k - 1 < l.length, l[k - 1] ≠ 0) : (trimL l).length = k := by
  have h1 := trimL_length_le l
  apply Nat.le_antisymm
  · apply Nat.le_of_not_lt; intro hlt
    obtain ⟨ha, hb⟩ := trimL_last l (by omega)
    exact hb (hz _ ha (by omega))
  · apply Nat.le_of_not_lt; intro hlt
    obtain ⟨ha, hb⟩ := ht (by omega)
    exact hb (trimL_zero l _ ha (by omega))

theorem val_trimL (l : List Nat) : val (trimL l) = val l := by
  induction l with
  | nil => rfl
  | cons d l ih =>
    simp only [trimL]
    split
    · rename_i hz
      simp only [val, ← ih, hz.1, hz.2]
    · simp only [val, ih]

theorem digits_trimL (l : List Nat) (h : Digits l) : Digits (trimL l) := by
  intro d hd
  rw [trimL_eq_take] at hd
  exact h d (List.mem_of_mem_take hd)

theorem trimL_trimL (l : List Nat) : trimL (trimL l) = trimL l := by
  induction l with
  | nil => rfl
  | cons d l ih =>
    by_cases hz : trimL l = [] ∧ d = 0
    · simp [trimL, hz]
    · simp only [trimL, hz, if_false, ih]

theorem trimL_eq_nil (l : List Nat) : trimL l = [] ↔ val l = 0 := by
  induction l with
  | nil => simp [trimL, val]
  | cons d l ih =>
    simp only [trimL, val]
    split
    · rename_i hz; simp [(ih.1 hz.1), hz.2]
    · rename_i hz
      simp only [reduceCtorEq, false_iff]
      intro h
      exact hz ⟨ih.2 (by omega), by omega⟩

theorem digsF_fuel (f g x : Nat) (hf : x ≤ f) (hg : x ≤ g) : digsF f x = digsF g x := by
  induction f generalizing g x with
  | zero =>
    have : x = 0 := by omega
    subst this
    cases g <;> simp [digsF]
  | succ f ih =>
    cases g with
    | zero =>
      have : x = 0 := by omega
      subst this; simp [digsF]
    | succ g =>
      simp only [digsF]
      split
      · rfl
      · rename_i hx
        rw [ih g (x / 256) (by omega) (by omega)]

theorem digs_zero : digs 0 = [] := rfl
theorem digs_pos (x : Nat) (h : x ≠ 0) : digs x = (x % 256) :: digs (x / 256) := by
  obtain ⟨y, rfl⟩ : ∃ y, x = y + 1 := ⟨x - 1, by omega⟩
  show digsF (y + 1) (y + 1) = _
  simp only [digsF, if_neg h]
  rw [digsF_fuel y ((y + 1) / 256) _ (by omega) (by omega)]; rfl

theorem trimL_eq_digs (l : List Nat) (h : Digits l) : trimL l = digs (val l) := by
  induction l with
  | nil => rfl
  | cons d l ih =>
    have hd := h d (by simp)
    have ih' := ih (fun e he => h e (by simp [he]))
    simp only [trimL]
    split
    · rename_i hz
      have := (trimL_eq_nil l).1 hz.1
      simp [val, this, hz.2, digs_zero]
    · rename_i hz
      have hv : val (d :: l) ≠ 0 := by
        simp only [val]; intro h0
        exact hz ⟨(trimL_eq_nil l).2 (by omega), by omega⟩
      rw [digs_pos _ hv, ih']
      simp only [val]
      rw [show (d + 256 * val l) % 256 = d by omega, show (d + 256 * val l) / 256 = val l by omega]

theorem val_digs (x : Nat) : val (digs x) = x := by
  suffices ∀ f x, x ≤ f → val (digsF f x) = x from this x x (Nat.le_refl _)
  intro f
  induction f with
  | zero => intro x hx; have : x = 0 := by omega
            subst this; rfl
  | succ f ih =>
    intro x hx
    simp only [digsF]
    split
    · rename_i h; simp [val, h]
    · simp only [val]; rw [ih (x / 256) (by omega)]; omega

theorem digits_digs (x : Nat) : Digits (digs x) := by
  suffices ∀ f x, Digits (digsF f x) from this x x
  intro f
  induction f with
  | zero => intro x d hd; simp [digsF] at hd
  | succ f ih =>
    intro x d hd
    simp only [digsF] at hd
    split at hd
    · simp at hd
    · rcases List.mem_cons.1 hd with rfl | hd
      · omega
      · exact ih _ d hd

theorem trimL_digs (x : Nat) : trimL (digs x) = digs x := by
  rw [trimL_eq_digs _ (digits_digs x), val_digs]

theorem val_take_succ (l : List Nat) (k : Nat) (h : k < l.length) : val (l.take (k + 1)) = val (l.take k) + 256 ^ k * l[k] := by
  rw [List.take_succ_eq_append_getElem h, val_append]
  simp [val, List.length_take, Nat.min_eq_left (Nat.le_of_lt h)]

theorem digs_length_le (x k : Nat) : (digs x).length ≤ k ↔ x < 256 ^ k := by
  induction k generalizing x with
  | zero =>
    by_cases h : x = 0
    · subst h; simp [digs_zero]
    · rw [digs_pos x h]; simp; omega
  | succ k ih =>
    by_cases h : x = 0
    · subst h; simp [digs_zero]; exact Nat.pow_pos (by decide)
    · rw [digs_pos x h, List.length_cons, Nat.add_le_add_iff_right, ih, Nat.pow_succ]
      omega

end Go.Proofs.YgvahwGreat
