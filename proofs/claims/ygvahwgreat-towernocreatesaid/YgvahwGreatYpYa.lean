import Derived.Test.YgvahwGreatYpY
namespace Go.Proofs.YgvahwGreat
open Go.RowKit
section
variable {O : Nat → Prop} {w : World} {va vb vc : Value} {x y z : Nat}
set_option maxRecDepth 100000 in
set_option maxHeartbeats 1600000 in
theorem yAlu1 (hO : Small O w) (_ha : NV O w va x) (_hb : NV O w vb y) (_hc : NV O w vc z) (hx : x < P256) (hy : y < P256) (hz : z < P256) : Calls Hvah.prog 238 #[.int .u8 1, va, vb, vc] w fun e w' => ∃ r, e = .returned r ∧ NV O w' r (alu 1 x y z) ∧ Ext w w' := by
  have d1 : dl x ≤ 2000 := Nat.le_trans (dl_P256' hx) (by decide)
  have d2 : dl y ≤ 2000 := Nat.le_trans (dl_P256' hy) (by decide)
  have d3 : dl z ≤ 2000 := Nat.le_trans (dl_P256' hz) (by decide)
  have d4 : dl (x + y) ≤ 2000 := Nat.le_trans (dl_add x y 32 (dl_P256' hx) (dl_P256' hy)) (by decide)
  have d5 : dl (x * y) ≤ 2000 := Nat.le_trans (dl_mul x y 32 32 (dl_P256' hx) (dl_P256' hy)) (by decide)
  have d6 : dl (aneg y) ≤ 2000 := Nat.le_trans (dl_P256' (aneg_lt y)) (by decide)
  have d7 : dl (asg x (x.testBit 255)) ≤ 2000 := Nat.le_trans (dl_P256' (asg_lt hx _)) (by decide)
  have d8 : dl (asg y (y.testBit 255)) ≤ 2000 := Nat.le_trans (dl_P256' (asg_lt hy _)) (by decide)
  go_enter Hvah.func238, Hvah.ntmps238
  go_wp2_with (first
    | (go_at_call 44; refine (nAdd O _ _ _ _ _ (hO.ext (by (repeat (first | with_reducible exact Ext.refl _ | with_reducible assumption | refine Ext.trans ?_ (by with_reducible assumption) | refine Ext.alloc ?_ _ _ | refine Ext.drew ?_ | refine Ext.drewN ?_ _)))) (NV.ext (by with_reducible assumption) (by (repeat (first | with_reducible exact Ext.refl _ | with_reducible assumption | refine Ext.trans ?_ (by with_reducible assumption) | refine Ext.alloc ?_ _ _ | refine Ext.drew ?_ | refine Ext.drewN ?_ _)))) (NV.ext (by with_reducible assumption) (by (repeat (first | with_reducible exact Ext.refl _ | with_reducible assumption | refine Ext.trans ?_ (by with_reducible assumption) | refine Ext.alloc ?_ _ _ | refine Ext.drew ?_ | refine Ext.drewN ?_ _)))) (by with_reducible assumption) (by with_reducible assumption)).mono ?_; rintro e w1 ⟨r, rfl, hr, he⟩)
    | (go_at_call 346; refine (yWrapped (hO.ext (by (repeat (first | with_reducible exact Ext.refl _ | with_reducible assumption | refine Ext.trans ?_ (by with_reducible assumption) | refine Ext.alloc ?_ _ _ | refine Ext.drew ?_ | refine Ext.drewN ?_ _)))) (NV.ext (by with_reducible assumption) (by (repeat (first | with_reducible exact Ext.refl _ | with_reducible assumption | refine Ext.trans ?_ (by with_reducible assumption) | refine Ext.alloc ?_ _ _ | refine Ext.drew ?_ | refine Ext.drewN ?_ _))))).mono ?_; rintro e w1 ⟨r, rfl, hr, he⟩))
  go_ret
  exact ⟨_, rfl, NV.cast (NV.ext hr (by (repeat (first | with_reducible exact Ext.refl _ | with_reducible assumption | refine Ext.trans ?_ (by with_reducible assumption) | refine Ext.alloc ?_ _ _ | refine Ext.drew ?_ | refine Ext.drewN ?_ _)))) (rfl), by (repeat (first | with_reducible exact Ext.refl _ | with_reducible assumption | refine Ext.trans ?_ (by with_reducible assumption) | refine Ext.alloc ?_ _ _ | refine Ext.drew ?_ | refine Ext.drewN ?_ _))⟩
set_option maxRecDepth 100000 in
set_option maxHeartbeats 1600000 in
theorem yAlu2 (hO : Small O w) (_ha : NV O w va x) (_hb : NV O w vb y) (_hc : NV O w vc z) (hx : x < P256) (hy : y < P256) (hz : z < P256) : Calls Hvah.prog 238 #[.int .u8 2, va, vb, vc] w fun e w' => ∃ r, e = .returned r ∧ NV O w' r (alu 2 x y z) ∧ Ext w w' := by
  have d1 : dl x ≤ 2000 := Nat.le_trans (dl_P256' hx) (by decide)
  have d2 : dl y ≤ 2000 := Nat.le_trans (dl_P256' hy) (by decide)
  have d3 : dl z ≤ 2000 := Nat.le_trans (dl_P256' hz) (by decide)
  have d4 : dl (x + y) ≤ 2000 := Nat.le_trans (dl_add x y 32 (dl_P256' hx) (dl_P256' hy)) (by decide)
  have d5 : dl (x * y) ≤ 2000 := Nat.le_trans (dl_mul x y 32 32 (dl_P256' hx) (dl_P256' hy)) (by decide)
  have d6 : dl (aneg y) ≤ 2000 := Nat.le_trans (dl_P256' (aneg_lt y)) (by decide)
  have d7 : dl (asg x (x.testBit 255)) ≤ 2000 := Nat.le_trans (dl_P256' (asg_lt hx _)) (by decide)
  have d8 : dl (asg y (y.testBit 255)) ≤ 2000 := Nat.le_trans (dl_P256' (asg_lt hy _)) (by decide)
  go_enter Hvah.func238, Hvah.ntmps238
  go_wp2_with (first
    | (go_at_call 60; refine (nMul O _ _ _ _ _ (hO.ext (by (repeat (first | with_reducible exact Ext.refl _ | with_reducible assumption | refine Ext.trans ?_ (by with_reducible assumption) | refine Ext.alloc ?_ _ _ | refine Ext.drew ?_ | refine Ext.drewN ?_ _)))) (NV.ext (by with_reducible assumption) (by (repeat (first | with_reducible exact Ext.refl _ | with_reducible assumption | refine Ext.trans ?_ (by with_reducible assumption) | refine Ext.alloc ?_ _ _ | refine Ext.drew ?_ | refine Ext.drewN ?_ _)))) (NV.ext (by with_reducible assumption) (by (repeat (first | with_reducible exact Ext.refl _ | with_reducible assumption | refine Ext.trans ?_ (by with_reducible assumption) | refine Ext.alloc ?_ _ _ | refine Ext.drew ?_ | refine Ext.drewN ?_ _)))) (by with_reducible assumption) (by with_reducible assumption)).mono ?_; rintro e w1 ⟨r, rfl, hr, he⟩)
    | (go_at_call 346; refine (yWrapped (hO.ext (by (repeat (first | with_reducible exact Ext.refl _ | with_reducible assumption | refine Ext.trans ?_ (by with_reducible assumption) | refine Ext.alloc ?_ _ _ | refine Ext.drew ?_ | refine Ext.drewN ?_ _)))) (NV.ext (by with_reducible assumption) (by (repeat (first | with_reducible exact Ext.refl _ | with_reducible assumption | refine Ext.trans ?_ (by with_reducible assumption) | refine Ext.alloc ?_ _ _ | refine Ext.drew ?_ | refine Ext.drewN ?_ _))))).mono ?_; rintro e w1 ⟨r, rfl, hr, he⟩))
  go_ret
  exact ⟨_, rfl, NV.cast (NV.ext hr (by (repeat (first | with_reducible exact Ext.refl _ | with_reducible assumption | refine Ext.trans ?_ (by with_reducible assumption) | refine Ext.alloc ?_ _ _ | refine Ext.drew ?_ | refine Ext.drewN ?_ _)))) (rfl), by (repeat (first | with_reducible exact Ext.refl _ | with_reducible assumption | refine Ext.trans ?_ (by with_reducible assumption) | refine Ext.alloc ?_ _ _ | refine Ext.drew ?_ | refine Ext.drewN ?_ _))⟩
set_option maxRecDepth 100000 in
set_option maxHeartbeats 1600000 in
theorem yAlu3 (hO : Small O w) (_ha : NV O w va x) (_hb : NV O w vb y) (_hc : NV O w vc z) (hx : x < P256) (hy : y < P256) (hz : z < P256) : Calls Hvah.prog 238 #[.int .u8 3, va, vb, vc] w fun e w' => ∃ r, e = .returned r ∧ NV O w' r (alu 3 x y z) ∧ Ext w w' := by
  have d1 : dl x ≤ 2000 := Nat.le_trans (dl_P256' hx) (by decide)
  have d2 : dl y ≤ 2000 := Nat.le_trans (dl_P256' hy) (by decide)
  have d3 : dl z ≤ 2000 := Nat.le_trans (dl_P256' hz) (by decide)
  have d4 : dl (x + y) ≤ 2000 := Nat.le_trans (dl_add x y 32 (dl_P256' hx) (dl_P256' hy)) (by decide)
  have d5 : dl (x * y) ≤ 2000 := Nat.le_trans (dl_mul x y 32 32 (dl_P256' hx) (dl_P256' hy)) (by decide)
  have d6 : dl (aneg y) ≤ 2000 := Nat.le_trans (dl_P256' (aneg_lt y)) (by decide)
  have d7 : dl (asg x (x.testBit 255)) ≤ 2000 := Nat.le_trans (dl_P256' (asg_lt hx _)) (by decide)
  have d8 : dl (asg y (y.testBit 255)) ≤ 2000 := Nat.le_trans (dl_P256' (asg_lt hy _)) (by decide)
  go_enter Hvah.func238, Hvah.ntmps238
  go_wp2_with (first
    | (go_at_call 347; refine (yNegated (hO.ext (by (repeat (first | with_reducible exact Ext.refl _ | with_reducible assumption | refine Ext.trans ?_ (by with_reducible assumption) | refine Ext.alloc ?_ _ _ | refine Ext.drew ?_ | refine Ext.drewN ?_ _)))) (NV.ext (by with_reducible assumption) (by (repeat (first | with_reducible exact Ext.refl _ | with_reducible assumption | refine Ext.trans ?_ (by with_reducible assumption) | refine Ext.alloc ?_ _ _ | refine Ext.drew ?_ | refine Ext.drewN ?_ _))))).mono ?_; rintro e w1 ⟨r, rfl, hr, he⟩)
    | (go_at_call 44; refine (nAdd O _ _ _ _ _ (hO.ext (by (repeat (first | with_reducible exact Ext.refl _ | with_reducible assumption | refine Ext.trans ?_ (by with_reducible assumption) | refine Ext.alloc ?_ _ _ | refine Ext.drew ?_ | refine Ext.drewN ?_ _)))) (NV.ext (by with_reducible assumption) (by (repeat (first | with_reducible exact Ext.refl _ | with_reducible assumption | refine Ext.trans ?_ (by with_reducible assumption) | refine Ext.alloc ?_ _ _ | refine Ext.drew ?_ | refine Ext.drewN ?_ _)))) (NV.ext (by with_reducible assumption) (by (repeat (first | with_reducible exact Ext.refl _ | with_reducible assumption | refine Ext.trans ?_ (by with_reducible assumption) | refine Ext.alloc ?_ _ _ | refine Ext.drew ?_ | refine Ext.drewN ?_ _)))) (by with_reducible assumption) (by with_reducible assumption)).mono ?_; rintro e w1 ⟨r, rfl, hr, he⟩)
    | (go_at_call 346; refine (yWrapped (hO.ext (by (repeat (first | with_reducible exact Ext.refl _ | with_reducible assumption | refine Ext.trans ?_ (by with_reducible assumption) | refine Ext.alloc ?_ _ _ | refine Ext.drew ?_ | refine Ext.drewN ?_ _)))) (NV.ext (by with_reducible assumption) (by (repeat (first | with_reducible exact Ext.refl _ | with_reducible assumption | refine Ext.trans ?_ (by with_reducible assumption) | refine Ext.alloc ?_ _ _ | refine Ext.drew ?_ | refine Ext.drewN ?_ _))))).mono ?_; rintro e w1 ⟨r, rfl, hr, he⟩))
  go_ret
  exact ⟨_, rfl, NV.cast (NV.ext hr (by (repeat (first | with_reducible exact Ext.refl _ | with_reducible assumption | refine Ext.trans ?_ (by with_reducible assumption) | refine Ext.alloc ?_ _ _ | refine Ext.drew ?_ | refine Ext.drewN ?_ _)))) (alu3 x y z hx hy), by (repeat (first | with_reducible exact Ext.refl _ | with_reducible assumption | refine Ext.trans ?_ (by with_reducible assumption) | refine Ext.alloc ?_ _ _ | refine Ext.drew ?_ | refine Ext.drewN ?_ _))⟩
set_option maxRecDepth 100000 in
set_option maxHeartbeats 1600000 in
theorem yAlu4 (hO : Small O w) (_ha : NV O w va x) (_hb : NV O w vb y) (_hc : NV O w vc z) (hx : x < P256) (hy : y < P256) (hz : z < P256) : Calls Hvah.prog 238 #[.int .u8 4, va, vb, vc] w fun e w' => ∃ r, e = .returned r ∧ NV O w' r (alu 4 x y z) ∧ Ext w w' := by
  have d1 : dl x ≤ 2000 := Nat.le_trans (dl_P256' hx) (by decide)
  have d2 : dl y ≤ 2000 := Nat.le_trans (dl_P256' hy) (by decide)
  have d3 : dl z ≤ 2000 := Nat.le_trans (dl_P256' hz) (by decide)
  have d4 : dl (x + y) ≤ 2000 := Nat.le_trans (dl_add x y 32 (dl_P256' hx) (dl_P256' hy)) (by decide)
  have d5 : dl (x * y) ≤ 2000 := Nat.le_trans (dl_mul x y 32 32 (dl_P256' hx) (dl_P256' hy)) (by decide)
  have d6 : dl (aneg y) ≤ 2000 := Nat.le_trans (dl_P256' (aneg_lt y)) (by decide)
  have d7 : dl (asg x (x.testBit 255)) ≤ 2000 := Nat.le_trans (dl_P256' (asg_lt hx _)) (by decide)
  have d8 : dl (asg y (y.testBit 255)) ≤ 2000 := Nat.le_trans (dl_P256' (asg_lt hy _)) (by decide)
  go_enter Hvah.func238, Hvah.ntmps238
  go_wp2_with (first
    | (go_at_call 164; refine (nDivMod O _ _ _ _ _ (hO.ext (by (repeat (first | with_reducible exact Ext.refl _ | with_reducible assumption | refine Ext.trans ?_ (by with_reducible assumption) | refine Ext.alloc ?_ _ _ | refine Ext.drew ?_ | refine Ext.drewN ?_ _)))) (NV.ext (by with_reducible assumption) (by (repeat (first | with_reducible exact Ext.refl _ | with_reducible assumption | refine Ext.trans ?_ (by with_reducible assumption) | refine Ext.alloc ?_ _ _ | refine Ext.drew ?_ | refine Ext.drewN ?_ _)))) (NV.ext (by with_reducible assumption) (by (repeat (first | with_reducible exact Ext.refl _ | with_reducible assumption | refine Ext.trans ?_ (by with_reducible assumption) | refine Ext.alloc ?_ _ _ | refine Ext.drew ?_ | refine Ext.drewN ?_ _)))) (by with_reducible assumption) (by with_reducible assumption)).mono ?_; rintro e w1 ⟨q, r, rfl, hq, hr, he⟩))
  go_ret
  exact ⟨_, rfl, NV.cast (NV.ext hq (by (repeat (first | with_reducible exact Ext.refl _ | with_reducible assumption | refine Ext.trans ?_ (by with_reducible assumption) | refine Ext.alloc ?_ _ _ | refine Ext.drew ?_ | refine Ext.drewN ?_ _)))) (rfl), by (repeat (first | with_reducible exact Ext.refl _ | with_reducible assumption | refine Ext.trans ?_ (by with_reducible assumption) | refine Ext.alloc ?_ _ _ | refine Ext.drew ?_ | refine Ext.drewN ?_ _))⟩
set_option maxRecDepth 100000 in
set_option maxHeartbeats 1600000 in
theorem yAlu5 (hO : Small O w) (_ha : NV O w va x) (_hb : NV O w vb y) (_hc : NV O w vc z) (hx : x < P256) (hy : y < P256) (hz : z < P256) : Calls Hvah.prog 238 #[.int .u8 5, va, vb, vc] w fun e w' => ∃ r, e = .returned r ∧ NV O w' r (alu 5 x y z) ∧ Ext w w' := by
  have d1 : dl x ≤ 2000 := Nat.le_trans (dl_P256' hx) (by decide)
  have d2 : dl y ≤ 2000 := Nat.le_trans (dl_P256' hy) (by decide)
  have d3 : dl z ≤ 2000 := Nat.le_trans (dl_P256' hz) (by decide)
  have d4 : dl (x + y) ≤ 2000 := Nat.le_trans (dl_add x y 32 (dl_P256' hx) (dl_P256' hy)) (by decide)
  have d5 : dl (x * y) ≤ 2000 := Nat.le_trans (dl_mul x y 32 32 (dl_P256' hx) (dl_P256' hy)) (by decide)
  have d6 : dl (aneg y) ≤ 2000 := Nat.le_trans (dl_P256' (aneg_lt y)) (by decide)
  have d7 : dl (asg x (x.testBit 255)) ≤ 2000 := Nat.le_trans (dl_P256' (asg_lt hx _)) (by decide)
  have d8 : dl (asg y (y.testBit 255)) ≤ 2000 := Nat.le_trans (dl_P256' (asg_lt hy _)) (by decide)
  go_enter Hvah.func238, Hvah.ntmps238
  go_wp2_with (first
    | (go_at_call 348; refine (yMagnitude (hO.ext (by (repeat (first | with_reducible exact Ext.refl _ | with_reducible assumption | refine Ext.trans ?_ (by with_reducible assumption) | refine Ext.alloc ?_ _ _ | refine Ext.drew ?_ | refine Ext.drewN ?_ _)))) (NV.ext (by with_reducible assumption) (by (repeat (first | with_reducible exact Ext.refl _ | with_reducible assumption | refine Ext.trans ?_ (by with_reducible assumption) | refine Ext.alloc ?_ _ _ | refine Ext.drew ?_ | refine Ext.drewN ?_ _))))).mono ?_; rintro e w1 ⟨r, rfl, hr, he⟩)
    | (go_at_call 164; refine (nDivMod O _ _ _ _ _ (hO.ext (by (repeat (first | with_reducible exact Ext.refl _ | with_reducible assumption | refine Ext.trans ?_ (by with_reducible assumption) | refine Ext.alloc ?_ _ _ | refine Ext.drew ?_ | refine Ext.drewN ?_ _)))) (NV.ext (by with_reducible assumption) (by (repeat (first | with_reducible exact Ext.refl _ | with_reducible assumption | refine Ext.trans ?_ (by with_reducible assumption) | refine Ext.alloc ?_ _ _ | refine Ext.drew ?_ | refine Ext.drewN ?_ _)))) (NV.ext (by with_reducible assumption) (by (repeat (first | with_reducible exact Ext.refl _ | with_reducible assumption | refine Ext.trans ?_ (by with_reducible assumption) | refine Ext.alloc ?_ _ _ | refine Ext.drew ?_ | refine Ext.drewN ?_ _)))) (by with_reducible assumption) (by with_reducible assumption)).mono ?_; rintro e w1 ⟨q, r, rfl, hq, hr, he⟩)
    | (go_at_call 350; refine (yIsNeg (NV.ext (by with_reducible assumption) (by (repeat (first | with_reducible exact Ext.refl _ | with_reducible assumption | refine Ext.trans ?_ (by with_reducible assumption) | refine Ext.alloc ?_ _ _ | refine Ext.drew ?_ | refine Ext.drewN ?_ _))))).mono ?_; rintro e w1 ⟨rfl, rfl⟩)
    | (go_at_call 349; refine (yWithSign (hO.ext (by (repeat (first | with_reducible exact Ext.refl _ | with_reducible assumption | refine Ext.trans ?_ (by with_reducible assumption) | refine Ext.alloc ?_ _ _ | refine Ext.drew ?_ | refine Ext.drewN ?_ _)))) (NV.ext (by with_reducible assumption) (by (repeat (first | with_reducible exact Ext.refl _ | with_reducible assumption | refine Ext.trans ?_ (by with_reducible assumption) | refine Ext.alloc ?_ _ _ | refine Ext.drew ?_ | refine Ext.drewN ?_ _)))) _).mono ?_; rintro e w1 ⟨r, rfl, hr, he⟩))
  go_ret
  exact ⟨_, rfl, NV.cast (NV.ext hr (by (repeat (first | with_reducible exact Ext.refl _ | with_reducible assumption | refine Ext.trans ?_ (by with_reducible assumption) | refine Ext.alloc ?_ _ _ | refine Ext.drew ?_ | refine Ext.drewN ?_ _)))) (alu5 x y z hx hy), by (repeat (first | with_reducible exact Ext.refl _ | with_reducible assumption | refine Ext.trans ?_ (by with_reducible assumption) | refine Ext.alloc ?_ _ _ | refine Ext.drew ?_ | refine Ext.drewN ?_ _))⟩
set_option maxRecDepth 100000 in
set_option maxHeartbeats 1600000 in
theorem yAlu6 (hO : Small O w) (_ha : NV O w va x) (_hb : NV O w vb y) (_hc : NV O w vc z) (hx : x < P256) (hy : y < P256) (hz : z < P256) : Calls Hvah.prog 238 #[.int .u8 6, va, vb, vc] w fun e w' => ∃ r, e = .returned r ∧ NV O w' r (alu 6 x y z) ∧ Ext w w' := by
  have d1 : dl x ≤ 2000 := Nat.le_trans (dl_P256' hx) (by decide)
  have d2 : dl y ≤ 2000 := Nat.le_trans (dl_P256' hy) (by decide)
  have d3 : dl z ≤ 2000 := Nat.le_trans (dl_P256' hz) (by decide)
  have d4 : dl (x + y) ≤ 2000 := Nat.le_trans (dl_add x y 32 (dl_P256' hx) (dl_P256' hy)) (by decide)
  have d5 : dl (x * y) ≤ 2000 := Nat.le_trans (dl_mul x y 32 32 (dl_P256' hx) (dl_P256' hy)) (by decide)
  have d6 : dl (aneg y) ≤ 2000 := Nat.le_trans (dl_P256' (aneg_lt y)) (by decide)
  have d7 : dl (asg x (x.testBit 255)) ≤ 2000 := Nat.le_trans (dl_P256' (asg_lt hx _)) (by decide)
  have d8 : dl (asg y (y.testBit 255)) ≤ 2000 := Nat.le_trans (dl_P256' (asg_lt hy _)) (by decide)
  go_enter Hvah.func238, Hvah.ntmps238
  go_wp2_with (first
    | (go_at_call 164; refine (nDivMod O _ _ _ _ _ (hO.ext (by (repeat (first | with_reducible exact Ext.refl _ | with_reducible assumption | refine Ext.trans ?_ (by with_reducible assumption) | refine Ext.alloc ?_ _ _ | refine Ext.drew ?_ | refine Ext.drewN ?_ _)))) (NV.ext (by with_reducible assumption) (by (repeat (first | with_reducible exact Ext.refl _ | with_reducible assumption | refine Ext.trans ?_ (by with_reducible assumption) | refine Ext.alloc ?_ _ _ | refine Ext.drew ?_ | refine Ext.drewN ?_ _)))) (NV.ext (by with_reducible assumption) (by (repeat (first | with_reducible exact Ext.refl _ | with_reducible assumption | refine Ext.trans ?_ (by with_reducible assumption) | refine Ext.alloc ?_ _ _ | refine Ext.drew ?_ | refine Ext.drewN ?_ _)))) (by with_reducible assumption) (by with_reducible assumption)).mono ?_; rintro e w1 ⟨q, r, rfl, hq, hr, he⟩))
  go_ret
  exact ⟨_, rfl, NV.cast (NV.ext hr (by (repeat (first | with_reducible exact Ext.refl _ | with_reducible assumption | refine Ext.trans ?_ (by with_reducible assumption) | refine Ext.alloc ?_ _ _ | refine Ext.drew ?_ | refine Ext.drewN ?_ _)))) (rfl), by (repeat (first | with_reducible exact Ext.refl _ | with_reducible assumption | refine Ext.trans ?_ (by with_reducible assumption) | refine Ext.alloc ?_ _ _ | refine Ext.drew ?_ | refine Ext.drewN ?_ _))⟩
set_option maxRecDepth 100000 in
set_option maxHeartbeats 1600000 in
theorem yAlu7 (hO : Small O w) (_ha : NV O w va x) (_hb : NV O w vb y) (_hc : NV O w vc z) (hx : x < P256) (hy : y < P256) (hz : z < P256) : Calls Hvah.prog 238 #[.int .u8 7, va, vb, vc] w fun e w' => ∃ r, e = .returned r ∧ NV O w' r (alu 7 x y z) ∧ Ext w w' := by
  have d1 : dl x ≤ 2000 := Nat.le_trans (dl_P256' hx) (by decide)
  have d2 : dl y ≤ 2000 := Nat.le_trans (dl_P256' hy) (by decide)
  have d3 : dl z ≤ 2000 := Nat.le_trans (dl_P256' hz) (by decide)
  have d4 : dl (x + y) ≤ 2000 := Nat.le_trans (dl_add x y 32 (dl_P256' hx) (dl_P256' hy)) (by decide)
  have d5 : dl (x * y) ≤ 2000 := Nat.le_trans (dl_mul x y 32 32 (dl_P256' hx) (dl_P256' hy)) (by decide)
  have d6 : dl (aneg y) ≤ 2000 := Nat.le_trans (dl_P256' (aneg_lt y)) (by decide)
  have d7 : dl (asg x (x.testBit 255)) ≤ 2000 := Nat.le_trans (dl_P256' (asg_lt hx _)) (by decide)
  have d8 : dl (asg y (y.testBit 255)) ≤ 2000 := Nat.le_trans (dl_P256' (asg_lt hy _)) (by decide)
  go_enter Hvah.func238, Hvah.ntmps238
  go_wp2_with (first
    | (go_at_call 348; refine (yMagnitude (hO.ext (by (repeat (first | with_reducible exact Ext.refl _ | with_reducible assumption | refine Ext.trans ?_ (by with_reducible assumption) | refine Ext.alloc ?_ _ _ | refine Ext.drew ?_ | refine Ext.drewN ?_ _)))) (NV.ext (by with_reducible assumption) (by (repeat (first | with_reducible exact Ext.refl _ | with_reducible assumption | refine Ext.trans ?_ (by with_reducible assumption) | refine Ext.alloc ?_ _ _ | refine Ext.drew ?_ | refine Ext.drewN ?_ _))))).mono ?_; rintro e w1 ⟨r, rfl, hr, he⟩)
    | (go_at_call 164; refine (nDivMod O _ _ _ _ _ (hO.ext (by (repeat (first | with_reducible exact Ext.refl _ | with_reducible assumption | refine Ext.trans ?_ (by with_reducible assumption) | refine Ext.alloc ?_ _ _ | refine Ext.drew ?_ | refine Ext.drewN ?_ _)))) (NV.ext (by with_reducible assumption) (by (repeat (first | with_reducible exact Ext.refl _ | with_reducible assumption | refine Ext.trans ?_ (by with_reducible assumption) | refine Ext.alloc ?_ _ _ | refine Ext.drew ?_ | refine Ext.drewN ?_ _)))) (NV.ext (by with_reducible assumption) (by (repeat (first | with_reducible exact Ext.refl _ | with_reducible assumption | refine Ext.trans ?_ (by with_reducible assumption) | refine Ext.alloc ?_ _ _ | refine Ext.drew ?_ | refine Ext.drewN ?_ _)))) (by with_reducible assumption) (by with_reducible assumption)).mono ?_; rintro e w1 ⟨q, r, rfl, hq, hr, he⟩)
    | (go_at_call 350; refine (yIsNeg (NV.ext (by with_reducible assumption) (by (repeat (first | with_reducible exact Ext.refl _ | with_reducible assumption | refine Ext.trans ?_ (by with_reducible assumption) | refine Ext.alloc ?_ _ _ | refine Ext.drew ?_ | refine Ext.drewN ?_ _))))).mono ?_; rintro e w1 ⟨rfl, rfl⟩)
    | (go_at_call 349; refine (yWithSign (hO.ext (by (repeat (first | with_reducible exact Ext.refl _ | with_reducible assumption | refine Ext.trans ?_ (by with_reducible assumption) | refine Ext.alloc ?_ _ _ | refine Ext.drew ?_ | refine Ext.drewN ?_ _)))) (NV.ext (by with_reducible assumption) (by (repeat (first | with_reducible exact Ext.refl _ | with_reducible assumption | refine Ext.trans ?_ (by with_reducible assumption) | refine Ext.alloc ?_ _ _ | refine Ext.drew ?_ | refine Ext.drewN ?_ _)))) _).mono ?_; rintro e w1 ⟨r, rfl, hr, he⟩))
  go_ret
  exact ⟨_, rfl, NV.cast (NV.ext hr (by (repeat (first | with_reducible exact Ext.refl _ | with_reducible assumption | refine Ext.trans ?_ (by with_reducible assumption) | refine Ext.alloc ?_ _ _ | refine Ext.drew ?_ | refine Ext.drewN ?_ _)))) (alu7 x y z hx hy), by (repeat (first | with_reducible exact Ext.refl _ | with_reducible assumption | refine Ext.trans ?_ (by with_reducible assumption) | refine Ext.alloc ?_ _ _ | refine Ext.drew ?_ | refine Ext.drewN ?_ _))⟩
end
end Go.Proofs.YgvahwGreat
