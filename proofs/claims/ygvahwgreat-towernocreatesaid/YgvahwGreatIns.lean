namespace Go.Proofs.YgvahwGreat
section
variable {α κ : Type} [DecidableEq κ]
/-- n laid among those that rise by key; where laid is set it is left out. -/
def insG (key : α → Nat) (n : α) : Bool → List α → List α
  | laid, [] => if laid then [] else [n]
  | laid, x :: l => (if !laid && decide (key n ≤ key x) then [n] else []) ++ ((if key x = key n then [] else [x]) ++ insG key n (laid || decide (key n ≤ key x)) l)
/-- The keys rise. -/
def Rise (key : α → Nat) (l : List α) : Prop := l.Pairwise fun x y => key x < key y
/-- What bears the key. -/
def look (key : α → κ) (k : κ) (l : List α) : Option α := l.find? fun x => decide (key x = k)

theorem look_nil (key : α → κ) (k : κ) : look key k ([] : List α) = none := rfl
theorem look_cons (key : α → κ) (k : κ) (x : α) (l : List α) : look key k (x :: l) = if key x = k then some x else look key k l := by
  unfold look
  rw [List.find?_cons]
  by_cases h : key x = k <;> simp [h]
theorem look_append (key : α → κ) (k : κ) (l m : List α) : look key k (l ++ m) = (look key k l).or (look key k m) := by
  unfold look; rw [List.find?_append]
theorem look_some {key : α → κ} {k : κ} {l : List α} {x : α} (h : look key k l = some x) : x ∈ l ∧ key x = k := by
  have h1 := List.mem_of_find?_eq_some h
  have h2 := List.find?_some h
  exact ⟨h1, by simpa using h2⟩
theorem look_none {key : α → κ} {k : κ} {l : List α} (h : look key k l = none) : ∀ x ∈ l, key x ≠ k := by
  intro x hx e
  have := List.find?_eq_none.1 h x hx
  simp [e] at this
theorem look_mem {key : α → Nat} {l : List α} (hr : Rise key l) {x : α} (hx : x ∈ l) : look key (key x) l = some x := by
  induction l with
  | nil => cases hx
  | cons y l ih =>
    rw [look_cons]
    have hp := List.pairwise_cons.1 hr
    rcases List.mem_cons.1 hx with rfl | h
    · simp
    · have := hp.1 x h
      rw [if_neg (by omega)]
      exact ih hp.2 h

theorem insG_true (key : α → Nat) (n : α) (l : List α) : insG key n true l = l.filter fun x => decide (key x ≠ key n) := by
  induction l with
  | nil => rfl
  | cons x l ih =>
    rw [insG, List.filter_cons]
    by_cases h : key x = key n <;> simp [h, ih]
theorem look_filter (key : α → κ) (j k : κ) (l : List α) : look key k (l.filter fun x => decide (key x ≠ j)) = if k = j then none else look key k l := by
  induction l with
  | nil => simp [look]
  | cons x l ih =>
    rw [List.filter_cons]
    by_cases h : key x = j
    · simp only [h, ne_eq, not_true_eq_false, decide_false, Bool.false_eq_true, if_false, ih, look_cons]
      split
      · rfl
      · rename_i hk; rw [if_neg (fun e => hk e.symm)]
    · simp only [h, ne_eq, not_false_eq_true, decide_true, if_true, look_cons, ih]
      by_cases hk : key x = k
      · subst hk; simp [h]
      · simp [hk]
theorem insG_true_look (key : α → Nat) (n : α) (l : List α) (k : Nat) : look key k (insG key n true l) = if k = key n then none else look key k l := by
  rw [insG_true, look_filter]
theorem insG_false_look (key : α → Nat) (n : α) (l : List α) (k : Nat) : look key k (insG key n false l) = if k = key n then some n else look key k l := by
  induction l with
  | nil => simp only [insG, Bool.false_eq_true, if_false, look_cons, look_nil]; split <;> split <;> first | rfl | omega
  | cons x l ih =>
    rw [insG]
    by_cases h : key n ≤ key x
    · simp only [h, Bool.not_false, Bool.true_and, decide_true, if_true, Bool.false_or, look_append, look_cons, look_nil, insG_true_look]
      by_cases hk : k = key n
      · subst hk; simp
      · rw [if_neg (fun e => hk e.symm), if_neg hk]
        simp only [Option.none_or]
        by_cases hx : key x = key n
        · simp only [hx, if_true, look_nil, Option.none_or]
          rw [if_neg hk, if_neg (fun e => hk e.symm)]
        · simp only [hx, if_false, look_cons, look_nil, if_neg hk]
          split <;> rfl
    · have hx : key x ≠ key n := by omega
      simp only [h, Bool.not_false, Bool.true_and, decide_false, Bool.false_eq_true, if_false, Bool.false_or, look_append, look_nil, Option.none_or, hx, look_cons, ih]
      by_cases hk : k = key n
      · subst hk; rw [if_neg hx]; simp
      · simp only [if_neg hk]; split <;> rfl
theorem insG_mem (key : α → Nat) (n : α) (b : Bool) (l : List α) (y : α) (h : y ∈ insG key n b l) : y = n ∨ y ∈ l := by
  induction l generalizing b with
  | nil => cases b <;> simp [insG] at h; exact Or.inl h
  | cons x l ih =>
    rw [insG] at h
    rcases List.mem_append.1 h with h | h
    · split at h
      · simp at h; exact Or.inl h
      · cases h
    rcases List.mem_append.1 h with h | h
    · split at h
      · cases h
      · simp at h; exact Or.inr (by simp [h])
    rcases ih _ h with h | h
    · exact Or.inl h
    · exact Or.inr (by simp [h])
theorem insG_mem_key (key : α → Nat) (n : α) (l : List α) (y : α) (h : y ∈ insG key n true l) : key y ≠ key n := by
  rw [insG_true] at h; simpa using (List.mem_filter.1 h).2
theorem insG_rise (key : α → Nat) (n : α) (b : Bool) (l : List α) (hr : Rise key l) : Rise key (insG key n b l) := by
  cases b with
  | true => rw [insG_true]; exact hr.filter _
  | false =>
    induction l with
    | nil => simp [insG, Rise]
    | cons x l ih =>
      have hp := List.pairwise_cons.1 hr
      rw [insG]
      by_cases h : key n ≤ key x
      · simp only [h, Bool.not_false, Bool.true_and, decide_true, if_true, Bool.false_or]
        have hf : Rise key (insG key n true l) := by rw [insG_true]; exact List.Pairwise.filter _ hp.2
        by_cases hx : key x = key n
        · simp only [hx, if_true, List.nil_append, List.singleton_append]
          refine List.pairwise_cons.2 ⟨fun y hy => ?_, hf⟩
          rcases insG_mem _ _ _ _ _ hy with rfl | hy'
          · exact absurd rfl (insG_mem_key _ _ _ _ hy)
          · have := hp.1 y hy'; omega
        · simp only [hx, if_false, List.cons_append, List.nil_append]
          refine List.pairwise_cons.2 ⟨fun y hy => ?_, List.pairwise_cons.2 ⟨fun y hy => ?_, hf⟩⟩
          · rcases List.mem_cons.1 hy with rfl | hy
            · omega
            · rcases insG_mem _ _ _ _ _ hy with rfl | hy'
              · exact absurd rfl (insG_mem_key _ _ _ _ hy)
              · have := hp.1 y hy'; omega
          · rcases insG_mem _ _ _ _ _ hy with rfl | hy'
            · exact absurd rfl (insG_mem_key _ _ _ _ hy)
            · exact hp.1 y hy'
      · simp only [h, Bool.not_false, Bool.true_and, decide_false, Bool.false_eq_true, if_false, Bool.false_or, List.nil_append]
        have hx : key x ≠ key n := by omega
        simp only [hx, if_false, List.singleton_append]
        refine List.pairwise_cons.2 ⟨fun y hy => ?_, ih hp.2⟩
        rcases insG_mem _ _ _ _ _ hy with rfl | hy
        · omega
        · exact hp.1 y hy
/-- Two lists that rise and bear the same are the same. -/
theorem rise_ext (key : α → Nat) : ∀ (l m : List α), Rise key l → Rise key m → (∀ k, look key k l = look key k m) → l = m
  | [], [], _, _, _ => rfl
  | [], y :: m, _, _, h => by have := h (key y); simp [look_cons, look_nil] at this
  | x :: l, [], _, _, h => by have := h (key x); simp [look_cons, look_nil] at this
  | x :: l, y :: m, hl, hm, h => by
    have hp := List.pairwise_cons.1 hl
    have hq := List.pairwise_cons.1 hm
    have e : x = y := by
      have h1 := h (key x)
      have h2 := h (key y)
      rw [look_cons, if_pos rfl, look_cons] at h1
      rw [look_cons key (key y) y, if_pos rfl, look_cons] at h2
      by_cases e1 : key y = key x
      · rw [if_pos e1] at h1; exact Option.some.inj h1
      · rw [if_neg e1] at h1
        rw [if_neg (fun e => e1 e.symm)] at h2
        have a1 := hq.1 _ (look_some h1.symm).1
        have a2 := hp.1 _ (look_some h2).1
        omega
    subst e
    congr 1
    refine rise_ext key l m hp.2 hq.2 fun k => ?_
    have h1 := h k
    rw [look_cons, look_cons] at h1
    by_cases hk : key x = k
    · have n1 : look key k l = none := by
        cases hc : look key k l with
        | none => rfl
        | some z => have := hp.1 z (look_some hc).1; have := (look_some hc).2; omega
      have n2 : look key k m = none := by
        cases hc : look key k m with
        | none => rfl
        | some z => have := hq.1 z (look_some hc).1; have := (look_some hc).2; omega
      rw [n1, n2]
    · rwa [if_neg hk, if_neg hk] at h1
end
end Go.Proofs.YgvahwGreat
