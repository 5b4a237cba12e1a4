import Derived.Test.YgvahwGreatPp0
import Derived.Test.YgvahwGreatDz0
namespace Go.Proofs.YgvahwGreat
open Go.RowKit
set_option linter.unusedSimpArgs false

theorem beL_at {a : Nat} (ha : a < 2 ^ 160) (j : Nat) (hj : j < 20) : (beL 20 a).getD j 0 = a / 256 ^ (19 - j) % 256 := by
  have hl := len20 ha
  have e : (beL 20 a).getD j 0 = (beL 20 a).reverse.getD (19 - j) 0 := by
    rw [List.getD_eq_getElem?_getD, List.getD_eq_getElem?_getD, List.getElem?_reverse (by omega), hl, show 20 - 1 - (19 - j) = j by omega]
  rw [e, val_getD _ _ (fun d hd => digits_beL _ _ d (by simpa using hd))]
  have hv : val (beL 20 a).reverse = a := bev_beL 20 a
  rw [hv]
theorem be20 {a : Nat} (ha : a < 2 ^ 160) (off : Nat) (ho : off ≤ 12) : be64 (beL 20 a) off = a / 256 ^ (12 - off) % 18446744073709551616 := by
  have h : ∀ k, k < 8 → (beL 20 a).getD (off + k) 0 = a / 256 ^ (12 - off) / 256 ^ (7 - k) % 256 := fun k hk => by
    rw [beL_at ha _ (by omega), Nat.div_div_eq_div_mul, ← Nat.pow_add, show 12 - off + (7 - k) = 19 - (off + k) by omega]
  unfold be64
  have h0 := h 0 (by decide)
  rw [Nat.add_zero] at h0
  rw [h0, h 1 (by decide), h 2 (by decide), h 3 (by decide), h 4 (by decide), h 5 (by decide), h 6 (by decide), h 7 (by decide)]
  generalize a / 256 ^ (12 - off) = b
  unfold be8
  simp only [Nat.reduceSub, Nat.reducePow, Nat.pow_zero, Nat.div_one]
  omega
theorem b66_3 (x y z : Nat) : ∀ w, (Instr.build 79 ([(0, .int .u64 (x : Int)), (1, .int .u64 (y : Int)), (2, .int .u64 (z : Int))] : List (Nat × Value)).toArray).run Hvah.prog w = .ok (.agg #[.int .u64 (x : Int), .int .u64 (y : Int), .int .u64 (z : Int), .int .u64 0]) w := fun w => by kernel_rfl
end Go.Proofs.YgvahwGreat
