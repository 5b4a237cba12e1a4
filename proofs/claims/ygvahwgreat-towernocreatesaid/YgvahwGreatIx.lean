import Derived.Test.YgvahwGreatIns
namespace Go.Proofs.YgvahwGreat
section
variable {α κ : Type}
/-- No key stands twice. -/
def Once (key : α → κ) (l : List α) : Prop := l.Pairwise fun x y => key x ≠ key y
theorem once_set {key : α → κ} {l : List α} (ho : Once key l) {i : Nat} (hi : i < l.length) (x : α) (hx : key x = key l[i]) : Once key (l.set i x) := by
  refine List.pairwise_iff_getElem.2 fun a b ha hb hab => ?_
  simp only [List.length_set] at ha hb
  have := List.pairwise_iff_getElem.1 ho a b ha hb hab
  rw [List.getElem_set, List.getElem_set]
  split <;> split
  · omega
  · rename_i h1 h2; subst h1; rw [hx]; exact this
  · rename_i h1 h2; subst h2; rw [hx]; exact this
  · exact this
end
section
variable {α κ : Type} [DecidableEq κ]
/-- The place of a key. -/
def ixG (key : α → κ) (k : κ) (l : List α) : Option Nat := l.findIdx? fun x => decide (key x = k)
theorem ixG_nil (key : α → κ) (k : κ) : ixG key k ([] : List α) = none := rfl
theorem ixG_cons (key : α → κ) (k : κ) (x : α) (l : List α) : ixG key k (x :: l) = if key x = k then some 0 else (ixG key k l).map (· + 1) := by
  unfold ixG; rw [List.findIdx?_cons]; by_cases h : key x = k <;> simp [h]
theorem look_ix (key : α → κ) (k : κ) (l : List α) : look key k l = (ixG key k l).bind (l[·]?) := by
  induction l with
  | nil => rfl
  | cons x l ih =>
    rw [look_cons, ixG_cons]
    split
    · simp
    · rw [ih]; cases ixG key k l <;> simp
theorem ix_some {key : α → κ} {k : κ} {l : List α} {i : Nat} (h : ixG key k l = some i) : ∃ hi : i < l.length, key l[i] = k := by
  unfold ixG at h
  have := List.findIdx?_eq_some_iff_getElem.1 h
  obtain ⟨h1, h2, h3⟩ := this
  exact ⟨h1, by simpa using h2⟩
theorem ix_none {key : α → κ} {k : κ} {l : List α} (h : ixG key k l = none) : ∀ x ∈ l, key x ≠ k := by
  intro x hx e
  have := List.findIdx?_eq_none_iff.1 h x hx
  simp [e] at this
theorem ix_none_of {key : α → κ} {k : κ} {l : List α} (h : ∀ x ∈ l, key x ≠ k) : ixG key k l = none := by
  unfold ixG
  rw [List.findIdx?_eq_none_iff]
  intro x hx; simp [h x hx]
theorem ix_once {key : α → κ} {l : List α} (ho : Once key l) {i : Nat} (hi : i < l.length) : ixG key (key l[i]) l = some i := by
  cases hc : ixG key (key l[i]) l with
  | none => exact absurd rfl (ix_none hc _ (List.getElem_mem hi))
  | some j =>
    obtain ⟨hj, he⟩ := ix_some hc
    have := List.pairwise_iff_getElem.1 ho
    rcases Nat.lt_trichotomy i j with h | h | h
    · exact absurd he.symm (this i j hi hj h)
    · rw [h]
    · exact absurd he (this j i hj hi h)
theorem look_getElem {key : α → κ} {l : List α} (ho : Once key l) {i : Nat} (hi : i < l.length) : look key (key l[i]) l = some l[i] := by
  rw [look_ix, ix_once ho hi]; simp [hi]
theorem ix_lt_of {key : α → κ} {k : κ} {l : List α} {i : Nat} (h : ixG key k l = some i) : i < l.length := (ix_some h).1
theorem ix_set {key : α → κ} {l : List α} {i : Nat} (hi : i < l.length) (x : α) (hx : key x = key l[i]) (k : κ) : ixG key k (l.set i x) = ixG key k l := by
  unfold ixG
  induction l generalizing i with
  | nil => rfl
  | cons y l ih =>
    cases i with
    | zero => simp at hx; simp [List.findIdx?_cons, hx]
    | succ i =>
      simp only [List.set_cons_succ, List.findIdx?_cons]
      rw [ih (by simpa using hi) (by simpa using hx)]
theorem look_set {key : α → κ} {l : List α} (ho : Once key l) {i : Nat} (hi : i < l.length) (x : α) (hx : key x = key l[i]) (k : κ) : look key k (l.set i x) = if k = key x then some x else look key k l := by
  rw [look_ix, ix_set hi x hx, look_ix]
  split
  · rename_i h; subst h; rw [hx, ix_once ho hi]; simp [hi]
  · rename_i h
    cases hc : ixG key k l with
    | none => rfl
    | some j =>
      obtain ⟨hj, he⟩ := ix_some hc
      have hne : i ≠ j := fun e => by subst e; rw [hx, he] at h; exact h rfl
      simp [List.getElem?_set, hne]
theorem ix_append {key : α → κ} (k : κ) (l m : List α) : ixG key k (l ++ m) = (ixG key k l).or ((ixG key k m).map (· + l.length)) := by
  unfold ixG; rw [List.findIdx?_append]
theorem once_snoc {key : α → κ} {l : List α} (ho : Once key l) (x : α) (hx : ixG key (key x) l = none) : Once key (l ++ [x]) := by
  refine List.pairwise_append.2 ⟨ho, by simp, fun a ha b hb => ?_⟩
  simp at hb; subst hb
  exact ix_none hx a ha
end
end Go.Proofs.YgvahwGreat
