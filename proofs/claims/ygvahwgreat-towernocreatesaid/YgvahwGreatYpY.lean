import Derived.Test.YgvahwGreatYpX
namespace Go.Proofs.YgvahwGreat
open Go.RowKit
theorem aneg_lt (x : Nat) : aneg x < P256 := Nat.mod_lt _ P256_pos
theorem asg_lt {x : Nat} (hx : x < P256) (b : Bool) : asg x b < P256 := by
  unfold asg
  split
  · exact aneg_lt x
  · exact hx
theorem alu3g (P x y : Nat) (hy : y < P) : (x + (P - y) % P) % P = (x + P - y) % P := by
  rw [Nat.add_mod_mod, ← Nat.add_sub_assoc (by omega)]
theorem alu3 (x y z : Nat) (_hx : x < P256) (hy : y < P256) : (x + aneg y) % P256 = alu 3 x y z := by
  unfold alu
  rw [if_neg (by decide), if_neg (by decide), if_pos rfl]
  exact alu3g P256 x y hy
theorem alu5 (x y z : Nat) (hx : x < P256) (hy : y < P256) : asg (asg x (x.testBit 255) / asg y (y.testBit 255)) (x.testBit 255 != y.testBit 255) = alu 5 x y z := by
  rw [asg_tb x hx, asg_tb y hy, tb255 x hx, tb255 y hy]; rfl
theorem alu7 (x y z : Nat) (hx : x < P256) (hy : y < P256) : asg (if asg y (y.testBit 255) = 0 then 0 else asg x (x.testBit 255) % asg y (y.testBit 255)) (x.testBit 255) = alu 7 x y z := by
  rw [asg_tb x hx, asg_tb y hy, tb255 x hx]; rfl
theorem alu25 (x y z : Nat) : bitW 25 x y = alu 25 x y z := by
  unfold bitW alu
  repeat (first | rw [if_pos (by decide)] | rw [if_neg (by decide)])
theorem alu28 (x y z : Nat) : shW 28 x y = alu 28 x y z := by
  unfold shW alu
  repeat (first | rw [if_pos (by decide)] | rw [if_neg (by decide)])
theorem alu29 (x y z : Nat) : shW 29 x y = alu 29 x y z := by
  unfold shW alu
  repeat (first | rw [if_pos (by decide)] | rw [if_neg (by decide)])
theorem ySB' {O : Nat → Prop} {w : World} {v u : Value} {x y : Nat} (h : NV O w v x) (g : NV O w u y) (hx : x < P256) (hy : y < P256) : Calls Hvah.prog 354 #[v, u] w fun e w' => e = .returned (.bool (sltW x y)) ∧ Ext w w' := by
  have := ySignedBelow h g
  rw [tb255 x hx, tb255 y hy] at this
  exact this
end Go.Proofs.YgvahwGreat
