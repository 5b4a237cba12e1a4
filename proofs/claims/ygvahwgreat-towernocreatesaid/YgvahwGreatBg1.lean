import Derived.Test.YgvahwGreatSz
import Derived.Test.YgvahwGreatYpF
namespace Go.Proofs.YgvahwGreat
/-- The slots at the start of a transaction. -/
def startL (l : List YA) : List (Nat × Nat × Nat) := l.flatMap fun x => x.slots.map fun s => (x.addr, s.1, s.2)
theorem startL_nil : startL [] = [] := rfl
theorem startL_cons (x : YA) (l : List YA) : startL (x :: l) = (x.slots.map fun s => (x.addr, s.1, s.2)) ++ startL l := rfl
theorem startL_append (l m : List YA) : startL (l ++ m) = startL l ++ startL m := by simp [startL]
theorem startL_len (l : List YA) : (startL l).length ≤ wts l := by
  induction l with
  | nil => simp [startL, wts]
  | cons x l ih => rw [startL_cons, wts_cons, List.length_append, List.length_map]; unfold YA.wt; omega
theorem look_slots (y a k : Nat) (l : List (Nat × Nat)) : look (fun t : Nat × Nat × Nat => (t.1, t.2.1)) (a, k) (l.map fun s => (y, s.1, s.2)) = if y = a then (look Prod.fst k l).map (fun s => (y, s.1, s.2)) else none := by
  induction l with
  | nil => simp [look]
  | cons s l ih =>
    rw [List.map_cons, look_cons, look_cons, ih]
    by_cases h : y = a
    · by_cases h2 : s.1 = k
      · simp [h, h2]
      · simp [h, h2]
    · simp [h]
theorem look_app {α κ : Type} [DecidableEq κ] (key : α → κ) (k : κ) (l m : List α) : look key k (l ++ m) = (look key k l).or (look key k m) := by
  unfold look; exact List.find?_append
theorem look_start_none (a k : Nat) (l : List YA) (h : ∀ y ∈ l, y.addr ≠ a) : look (fun t : Nat × Nat × Nat => (t.1, t.2.1)) (a, k) (startL l) = none := by
  induction l with
  | nil => rfl
  | cons x l ih =>
    rw [startL_cons, look_app, look_slots, if_neg (h x (by simp)), ih (fun y hy => h y (by simp [hy]))]
    rfl
theorem lookT_list (a k : Nat) (l : List YA) (h : Rise YA.addr l) : lookT (startL l) a k = (((look YA.addr a l).getD (YA.new a)).load k) := by
  induction l with
  | nil => simp [lookT, startL, look, YA.new, YA.load]
  | cons x l ih =>
    have h2 := List.pairwise_cons.1 h
    have ih2 := ih h2.2
    unfold lookT at ih2 ⊢
    rw [startL_cons, look_app, look_slots, look_cons]
    by_cases q : x.addr = a
    · have hn : look (fun t : Nat × Nat × Nat => (t.1, t.2.1)) (a, k) (startL l) = none := look_start_none a k l (fun y hy e => by
        have := h2.1 y hy
        omega)
      rw [if_pos q, if_pos q, hn]
      unfold YA.load
      cases e : look Prod.fst k x.slots with
      | none => simp [e]
      | some s => simp [e]
    · rw [if_neg q, if_neg q]
      exact ih2
theorem lookT_start {W : YW} (h : W.WF) : lookT (startL W.accts) = W.abs.slot := by
  funext a k
  rw [lookT_list a k W.accts h.accts]
  rfl
theorem start_siz (W : YW) : (startL W.accts).length ≤ W.siz := by
  have h1 := startL_len W.accts
  unfold YW.siz
  omega
end Go.Proofs.YgvahwGreat
