import Derived.Test.YgvahwGreatPk
namespace Go.Proofs.YgvahwGreat
open Go.RowKit
set_option linter.unusedSimpArgs false
theorem val_getD : ∀ (l : List Nat) (i : Nat), Digits l → l.getD i 0 = val l / 256 ^ i % 256
  | [], i, _ => by simp [val]
  | d :: l, 0, h => by
    have := h d (by simp)
    show d = (d + 256 * val l) / 256 ^ 0 % 256
    rw [Nat.pow_zero, Nat.div_one]; omega
  | d :: l, i + 1, h => by
    have h1 := h d (by simp)
    have ih := val_getD l i (fun x hx => h x (List.mem_cons_of_mem _ hx))
    rw [List.getD_cons_succ, ih]
    show _ = (d + 256 * val l) / 256 ^ (i + 1) % 256
    rw [Nat.pow_succ, Nat.mul_comm (256 ^ i) 256, ← Nat.div_div_eq_div_mul, show (d + 256 * val l) / 256 = val l by omega]
theorem digs_at (n i : Nat) (h : i < dl n) : (digs n).reverse.getD i 0 = n / 256 ^ (dl n - 1 - i) % 256 := by
  have e : (digs n).reverse.getD i 0 = (digs n).getD (dl n - 1 - i) 0 := by
    rw [List.getD_eq_getElem?_getD, List.getD_eq_getElem?_getD, List.getElem?_reverse h]
    rfl
  rw [e, val_getD _ _ ((digits_digs n)), val_digs n]
/-- What is hashed for CREATE. -/
def caL (cr n : Nat) : List Nat := (192 + (21 + (rlpNonce n).length)) :: 148 :: (beL 20 cr ++ rlpNonce n)
theorem caL_len {cr n : Nat} (hc : cr < 2 ^ 160) : (caL cr n).length = 22 + (rlpNonce n).length := by
  unfold caL
  simp [len20 hc]; omega
theorem caL_at {cr n : Nat} (hc : cr < 2 ^ 160) (i : Nat) : (caL cr n).getD (22 + i) 0 = (rlpNonce n).getD i 0 := by
  unfold caL
  rw [show 22 + i = (20 + i) + 1 + 1 by omega, List.getD_cons_succ, List.getD_cons_succ, getD_appR _ _ _ 20 (len20 hc) (by omega)]
  congr 1; omega
theorem ca_base {c1 : Nat → Value} {cr n : Nat} (h1 : AAt c1 0 cr) (hc : cr < 2 ^ 160) (z : Nat → Value) (j : Nat) (h : 1 ≤ j) (hj : j < 22) : layv (updv z 1 (.int .u8 148)) 2 (rowOf c1 0 (20 * 1)) j = .int .u8 (((caL cr n).getD j 0 : Nat) : Int) := by
  unfold caL
  rcases (show j = 1 ∨ 2 ≤ j by omega) with rfl | h2
  · rw [layv_off _ _ _ _ (by omega), updv_same]; rfl
  · rw [layv_at _ _ _ _ h2 (by rw [rowOf_size]; omega), cf_rowOf _ _ _ (by omega), aat_at h1 hc (j - 2) (by omega)]
    obtain ⟨k, rfl⟩ : ∃ k, j = k + 1 + 1 := ⟨j - 2, by omega⟩
    rw [List.getD_cons_succ, List.getD_cons_succ, getD_appL _ _ _ (by rw [len20 hc]; omega)]
    rfl
theorem rlp_dig {n : Nat} (h8 : n < 18446744073709551616) : Digits (rlpNonce n) := fun d hd => by
  unfold rlpNonce at hd
  have h9 : dl n ≤ 8 := (dl_le_iff n 8).2 h8
  split at hd
  · simp at hd; omega
  · split at hd
    · simp at hd; omega
    · rcases List.mem_cons.1 hd with e | e
      · omega
      · exact (digits_digs n) d (by simpa using e)
theorem rlp_len {n : Nat} (h8 : n < 18446744073709551616) : (rlpNonce n).length ≤ 9 ∧ 1 ≤ (rlpNonce n).length := by
  unfold rlpNonce
  have h9 : dl n ≤ 8 := (dl_le_iff n 8).2 h8
  split
  · simp
  · split
    · simp
    · rw [List.length_cons, List.length_reverse]
      have : (digs n).length = dl n := rfl
      omega
theorem caL_dig {cr n : Nat} (h8 : n < 18446744073709551616) : ∀ d ∈ caL cr n, d < 256 := fun d hd => by
  have := rlp_len h8
  unfold caL at hd
  rcases List.mem_cons.1 hd with e | e
  · omega
  · rcases List.mem_cons.1 e with e | e
    · omega
    · rcases List.mem_append.1 e with e | e
      · exact digits_beL _ _ d e
      · exact rlp_dig h8 d e
end Go.Proofs.YgvahwGreat
