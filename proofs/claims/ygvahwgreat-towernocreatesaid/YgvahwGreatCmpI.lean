import Derived.Test.YgvahwGreatNat
namespace Go.Proofs.YgvahwGreat
theorem cmpI_z (x y : Nat) : cmpI x y = 0 ↔ x = y := by
  have := cmpI_eq0 x y
  rw [Bool.eq_iff_iff, beq_iff_eq, decide_eq_true_iff] at this
  exact this
theorem cmpI_n (x y : Nat) : cmpI x y < 0 ↔ x < y := by
  have := cmpI_lt0 x y
  rw [Bool.eq_iff_iff, decide_eq_true_iff, decide_eq_true_iff] at this
  exact this
theorem cmpI_p (x y : Nat) : 0 < cmpI x y ↔ y < x := by
  have := cmpI_gt0 x y
  rw [Bool.eq_iff_iff, decide_eq_true_iff, decide_eq_true_iff] at this
  exact this
theorem cmpI_nn (x y : Nat) : cmpI x y ≤ 0 ↔ x ≤ y := by
  have := cmpI_le0 x y
  rw [Bool.eq_iff_iff, decide_eq_true_iff, decide_eq_true_iff] at this
  exact this
theorem cmpI_pp (x y : Nat) : 0 ≤ cmpI x y ↔ y ≤ x := by
  have := cmpI_ge0 x y
  rw [Bool.eq_iff_iff, decide_eq_true_iff, decide_eq_true_iff] at this
  exact this
end Go.Proofs.YgvahwGreat
