import Derived.Test.YgvahwGreatEw2
import Derived.Test.YgvahwGreatEn0
import Derived.Test.YgvahwGreatBg0
namespace Go.Proofs.YgvahwGreat
open Go.RowKit
set_option linter.unusedVariables false
theorem sum_zeros : ∀ l : List Nat, (l.map (fun _ => 0)).sum = 0
  | [] => rfl
  | _ :: l => by
    rw [List.map_cons, List.sum_cons, sum_zeros l]
theorem SumLe.zero : SumLe (fun _ => 0) 0 := fun l _ => by rw [sum_zeros]; exact Nat.le_refl _
theorem newW_sum (l : List IAcct) (hl : l.Pairwise (fun x y => x.addr < y.addr)) : ∀ n, n ≤ l.length → SumLe (newW (l.take n)).abs.bal (sumI (l.take n))
  | 0, _ => by rw [List.take_zero]; exact SumLe.zero
  | n + 1, hn => by
    have ih := newW_sum l hl n (by omega)
    have hlt : n < l.length := by omega
    have hx : ∀ y ∈ l.take n, y.addr ≠ (l[n]).addr := fun y hy => by
      obtain ⟨j, hj, e⟩ := List.getElem_of_mem hy
      have hj2 : j < n := by rw [List.length_take] at hj; omega
      have := (List.pairwise_iff_getElem.1 hl) j n (by omega) (by omega) hj2
      rw [List.getElem_take] at e
      rw [← e]; omega
    have hn0 : (newW (l.take n)).acct (l[n]).addr = YA.new (l[n]).addr := by
      rcases newW_acct (l.take n) (l[n]).addr with q | ⟨y, hy, q⟩
      · exact q
      · have := (newW (l.take n)).acct_addr (l[n]).addr
        rw [q] at this
        exact absurd this (hx y hy)
    have eb : (newW (l.take (n + 1))).abs.bal = up (newW (l.take n)).abs.bal (l[n]).addr ((newW (l.take n)).abs.bal (l[n]).addr + (l[n]).bal) := by
      funext a
      rw [List.take_succ_eq_append_getElem hlt]
      show ((newW (l.take n ++ [l[n]])).acct a).bal = _
      rw [newW_end _ _ hx]
      unfold up
      by_cases q : a = (l[n]).addr
      · rw [if_pos q, if_pos q]
        show (l[n]).bal = ((newW (l.take n)).acct (l[n]).addr).bal + (l[n]).bal
        rw [hn0]
        show _ = 0 + _
        omega
      · rw [if_neg q, if_neg q]; rfl
    rw [eb, sumI_take l n hlt]
    exact ih.up _
theorem newW_idle {l : List IAcct} (h : worldOKI l = true) (hx : ∀ x ∈ l, x.nonce < 18446744073709551616 ∧ x.bal < P256) : WIdle (sumI l) (newW l).abs := by
  obtain ⟨h8, hr, hok, _⟩ := (worldOKI_iff l).1 h
  have hlm := newW_lim h hx
  have hs := newW_sum l (rise_adj (fun x => x.addr) l hr) l.length (Nat.le_refl _)
  rw [List.take_length] at hs
  refine ⟨fun a => ?_, fun a => hlm.nonce a, hs, rfl, rfl⟩
  show ((newW l).acct a).code.length ≤ 256
  rcases newW_acct l a with q | ⟨y, hy, q⟩
  · rw [q]; exact Nat.zero_le _
  · rw [q]
    obtain ⟨i, hi, e⟩ := List.getElem_of_mem hy
    have ho := hok i hi
    rw [e] at ho
    unfold IAcct.ok at ho
    simp only [Bool.and_eq_true, decide_eq_true_iff] at ho
    exact ho.1.2.1
end Go.Proofs.YgvahwGreat
