import Derived.Test.YgvahwGreatYX
import Derived.Test.YgvahwGreatIg
namespace Go.Proofs.YgvahwGreat
open Go.RowKit
/-- An account of the input as the specification keeps it. -/
def IAcct.ya (x : IAcct) : YA := ⟨x.addr, x.nonce, x.bal, x.code, x.slots⟩
/-- The specification's world of an input. -/
def newW (l : List IAcct) : YW := ⟨l.map IAcct.ya, [], [], 0, [], [], [], []⟩
theorem rise_adj {α : Type} (f : α → Nat) : ∀ l : List α, (∀ (i : Nat) (h : i + 1 < l.length), f l[i] < f l[i + 1]) → l.Pairwise (fun x y => f x < f y)
  | [], _ => List.Pairwise.nil
  | [x], _ => by simp
  | x :: y :: l, h => by
    have ih := rise_adj f (y :: l) (fun i hi => h (i + 1) (by simp at hi ⊢; omega))
    have h0 : f x < f y := h 0 (by simp)
    refine List.pairwise_cons.2 ⟨fun z hz => ?_, ih⟩
    rcases List.mem_cons.1 hz with rfl | q
    · exact h0
    · exact Nat.lt_trans h0 ((List.pairwise_cons.1 ih).1 z q)
theorem newW_wf {l : List IAcct} (h : worldOKI l = true) (hx : ∀ x ∈ l, x.addr < 2 ^ 160 ∧ ∀ s ∈ x.slots, s.1 < P256) : (newW l).WF := by
  obtain ⟨_, hr, hok, _⟩ := (worldOKI_iff l).1 h
  refine ⟨?_, ?_, ?_, ?_, ?_, ?_, ?_⟩
  · show (l.map IAcct.ya).Pairwise _
    rw [List.pairwise_map]
    exact rise_adj (fun x => x.addr) l hr
  · intro x hxm
    obtain ⟨y, hy, rfl⟩ := List.mem_map.1 hxm
    obtain ⟨i, hi, e⟩ := List.getElem_of_mem hy
    have ho := hok i hi
    rw [e] at ho
    unfold IAcct.ok at ho
    simp only [Bool.and_eq_true] at ho
    obtain ⟨q1, q2⟩ := (slotsOKI_iff y.slots).1 ho.2
    refine ⟨rise_adj Prod.fst y.slots q2, fun s hs => ⟨by rw [show Pk = P256 from by unfold Pk; rw [P256_eq]]; exact (hx y hy).2 s hs, ?_⟩⟩
    obtain ⟨j, hj, e2⟩ := List.getElem_of_mem hs
    rw [← e2]; exact q1 j hj
  · intro x hxm
    obtain ⟨y, hy, rfl⟩ := List.mem_map.1 hxm
    exact (hx y hy).1
  · intro m hm; exact absurd hm List.not_mem_nil
  · exact List.Pairwise.nil
  · intro m hm; exact absurd hm List.not_mem_nil
  · exact List.Pairwise.nil
theorem newW_acct (l : List IAcct) (a : Nat) : (newW l).acct a = YA.new a ∨ ∃ y ∈ l, (newW l).acct a = y.ya := by
  unfold YW.acct
  cases h : look YA.addr a (newW l).accts with
  | none => exact Or.inl rfl
  | some x =>
    right
    obtain ⟨y, hy, e⟩ := List.mem_map.1 (look_some h).1
    exact ⟨y, hy, e.symm⟩
theorem newW_lim {l : List IAcct} (h : worldOKI l = true) (hx : ∀ x ∈ l, x.nonce < 18446744073709551616 ∧ x.bal < P256) : YLim (newW l) := by
  obtain ⟨h8, _, hok, _⟩ := (worldOKI_iff l).1 h
  have hy : ∀ y ∈ l, y.code.length ≤ 256 ∧ y.slots.length ≤ 16 := fun y hy => by
    obtain ⟨i, hi, e⟩ := List.getElem_of_mem hy
    have ho := hok i hi
    rw [e] at ho
    unfold IAcct.ok at ho
    simp only [Bool.and_eq_true, decide_eq_true_iff] at ho
    exact ho.1.2
  refine ⟨?_, Nat.zero_le _, Nat.zero_le _, Nat.zero_le _, Nat.zero_le _, Nat.zero_le _, Nat.zero_le _, fun a => ?_, fun a => ?_, fun a => ?_, fun a => ?_, (by decide : (0 : Nat) < 18446744073709551616)⟩
  · show (l.map IAcct.ya).length ≤ 90000
    rw [List.length_map]; omega
  all_goals rcases newW_acct l a with e | ⟨y, hm, e⟩ <;> rw [e]
  · exact Nat.zero_le _
  · exact Nat.le_trans (hy y hm).2 (by decide)
  · exact Nat.zero_le _
  · exact Nat.le_trans (hy y hm).1 (by decide)
  · exact (by decide : (0 : Nat) < 18446744073709551616)
  · exact (hx y hm).1
  · exact (by unfold P256; decide : (0 : Nat) < P256)
  · exact (hx y hm).2
end Go.Proofs.YgvahwGreat
