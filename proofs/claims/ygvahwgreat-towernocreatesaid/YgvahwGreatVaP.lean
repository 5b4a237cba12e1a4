import Derived.Test.YgvahwGreatVaM
namespace Go.Proofs.YgvahwGreat
/-- Not behind. -/
def SKle (a b : SK) : Prop := b.bef a = false
theorem SKle.iff {a b : SK} : SKle a b ↔ (a.r < b.r ∨ (a.r = b.r ∧ a.x ≤ b.x)) := by
  unfold SKle SK.bef
  rw [decide_eq_false_iff_not]
  omega
theorem SKle.trans {a b c : SK} (h : SKle a b) (k : SKle b c) : SKle a c := by
  rw [SKle.iff] at *
  omega
theorem bef_le {a b : SK} (h : b.bef a = true) : SKle b a := by
  rw [SKle.iff]
  unfold SK.bef at h
  rw [decide_eq_true_eq] at h
  omega
theorem mrg_perm : ∀ (La Lb : List SK), List.Perm (mrg La Lb) (La ++ Lb)
  | [], bs => by rw [mrg]; exact List.Perm.refl _
  | a :: as', [] => by rw [mrg, List.append_nil]
  | a :: as', b :: bs => by
    rw [mrg]
    split
    · exact ((mrg_perm (a :: as') bs).cons b).trans (List.perm_middle (l₁ := a :: as')).symm
    · exact (mrg_perm as' (b :: bs)).cons a
theorem mrg_sorted : ∀ (La Lb : List SK), La.Pairwise SKle → Lb.Pairwise SKle → (mrg La Lb).Pairwise SKle
  | [], bs, _, hb => by rw [mrg]; exact hb
  | a :: as', [], ha, _ => by rw [mrg]; exact ha
  | a :: as', b :: bs, ha, hb => by
    rw [mrg]
    obtain ⟨ha1, ha2⟩ := List.pairwise_cons.1 ha
    obtain ⟨hb1, hb2⟩ := List.pairwise_cons.1 hb
    split
    · rename_i h
      refine List.pairwise_cons.2 ⟨fun x hx => ?_, mrg_sorted (a :: as') bs ha hb2⟩
      rcases List.mem_append.1 ((mrg_perm (a :: as') bs).mem_iff.1 hx) with h1 | h1
      · rcases List.mem_cons.1 h1 with e | e
        · rw [e]; exact bef_le h
        · exact (bef_le h).trans (ha1 x e)
      · exact hb1 x h1
    · rename_i h
      have hab : SKle a b := by unfold SKle; simpa using h
      refine List.pairwise_cons.2 ⟨fun x hx => ?_, mrg_sorted as' (b :: bs) ha2 hb⟩
      rcases List.mem_append.1 ((mrg_perm as' (b :: bs)).mem_iff.1 hx) with h1 | h1
      · exact ha1 x h1
      · rcases List.mem_cons.1 h1 with e | e
        · rw [e]; exact hab
        · exact hab.trans (hb1 x e)
/-- One pass: runs of this width are merged by twos. -/
def passL (wd : Nat) : Nat → List SK → List SK
  | 0, _ => []
  | f + 1, l => if l = [] then [] else mrg (l.take wd) ((l.drop wd).take wd) ++ passL wd f (l.drop (2 * wd))
/-- Runs of a width are in order. -/
def RunsOK (wd : Nat) (l : List SK) : Prop := ∀ i, ((l.drop (i * wd)).take wd).Pairwise SKle
theorem runs_one (l : List SK) : RunsOK 1 l := fun i => by
  have : ((l.drop (i * 1)).take 1).length ≤ 1 := by simp; omega
  match h : (l.drop (i * 1)).take 1 with
  | [] => exact List.Pairwise.nil
  | [x] => exact List.pairwise_singleton _ _
  | x :: y :: r => rw [h] at this; simp at this
theorem runs_all {wd : Nat} {l : List SK} (h : RunsOK wd l) (hl : l.length ≤ wd) : l.Pairwise SKle := by
  have := h 0
  rwa [Nat.zero_mul, List.drop_zero, List.take_of_length_le hl] at this
theorem mrg_len (La Lb : List SK) : (mrg La Lb).length = La.length + Lb.length := by rw [(mrg_perm La Lb).length_eq, List.length_append]
theorem take_two (l : List SK) (wd : Nat) : l.take wd ++ (l.drop wd).take wd = l.take (2 * wd) := by rw [Nat.two_mul, List.take_add]
theorem pass_perm {wd : Nat} (hw : 0 < wd) : ∀ (f : Nat) (l : List SK), l.length ≤ f → List.Perm (passL wd f l) l
  | 0, l, h => by
    have : l = [] := List.length_eq_zero_iff.1 (by omega)
    rw [this, passL]
  | f + 1, l, h => by
    rw [passL]
    split
    · rename_i e; rw [e]
    · rename_i e
      have hl : 0 < l.length := List.length_pos_iff.2 e
      have h1 := mrg_perm (l.take wd) ((l.drop wd).take wd)
      rw [take_two] at h1
      have h2 := pass_perm hw f (l.drop (2 * wd)) (by rw [List.length_drop]; omega)
      exact (h1.append h2).trans (by rw [List.take_append_drop])
theorem pass_len {wd : Nat} (hw : 0 < wd) (f : Nat) (l : List SK) (h : l.length ≤ f) : (passL wd f l).length = l.length := (pass_perm hw f l h).length_eq
theorem pass_nil (wd f : Nat) : passL wd f [] = [] := by cases f <;> simp [passL]
theorem runs_drop {wd : Nat} {l : List SK} (h : RunsOK wd l) (k : Nat) : RunsOK wd (l.drop (k * wd)) := fun i => by
  rw [List.drop_drop, ← Nat.add_mul]
  exact h (k + i)
theorem pass_runs {wd : Nat} (hw : 0 < wd) : ∀ (f : Nat) (l : List SK), l.length ≤ f → RunsOK wd l → RunsOK (2 * wd) (passL wd f l)
  | 0, l, _, _ => fun i => by rw [passL]; simp
  | f + 1, l, h, hr => fun i => by
    rw [passL]
    split
    · simp
    · rename_i e
      have hl : 0 < l.length := List.length_pos_iff.2 e
      have hs : (mrg (l.take wd) ((l.drop wd).take wd)).Pairwise SKle := mrg_sorted _ _ (by have := hr 0; rwa [Nat.zero_mul, List.drop_zero] at this) (by have := hr 1; rwa [Nat.one_mul] at this)
      have hml : (mrg (l.take wd) ((l.drop wd).take wd)).length = min (2 * wd) l.length := by
        rw [mrg_len, ← List.length_append, take_two, List.length_take]
      have ih := pass_runs hw f (l.drop (2 * wd)) (by rw [List.length_drop]; omega) (runs_drop hr 2)
      rcases Nat.lt_or_ge (2 * wd) l.length with hlt | hge
      · have hm2 : (mrg (l.take wd) ((l.drop wd).take wd)).length = 2 * wd := by rw [hml]; omega
        cases i with
        | zero =>
          rw [Nat.zero_mul, List.drop_zero, List.take_append_of_le_length (by omega), List.take_of_length_le (by omega)]
          exact hs
        | succ i =>
          have hd : (mrg (l.take wd) ((l.drop wd).take wd)).drop (2 * wd) = [] := List.drop_eq_nil_of_le (by omega)
          rw [show (i + 1) * (2 * wd) = 2 * wd + i * (2 * wd) by rw [Nat.add_mul, Nat.one_mul, Nat.add_comm], ← List.drop_drop, List.drop_append_of_le_length (by omega), hd, List.nil_append]
          exact ih i
      · rw [List.drop_eq_nil_of_le hge, pass_nil, List.append_nil]
        exact List.Pairwise.sublist ((List.take_sublist _ _).trans (List.drop_sublist _ _)) hs
end Go.Proofs.YgvahwGreat
