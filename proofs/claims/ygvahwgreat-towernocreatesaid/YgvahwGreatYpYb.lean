import Derived.Test.YgvahwGreatYpY
namespace Go.Proofs.YgvahwGreat
open Go.RowKit
section
variable {O : Nat → Prop} {w : World} {va vb vc : Value} {x y z : Nat}
set_option maxRecDepth 100000 in
set_option maxHeartbeats 1600000 in
theorem yAlu8 (hO : Small O w) (_ha : NV O w va x) (_hb : NV O w vb y) (_hc : NV O w vc z) (hx : x < P256) (hy : y < P256) (hz : z < P256) : Calls Hvah.prog 238 #[.int .u8 8, va, vb, vc] w fun e w' => ∃ r, e = .returned r ∧ NV O w' r (alu 8 x y z) ∧ Ext w w' := by
  have d1 : dl x ≤ 2000 := Nat.le_trans (dl_P256' hx) (by decide)
  have d2 : dl y ≤ 2000 := Nat.le_trans (dl_P256' hy) (by decide)
  have d3 : dl z ≤ 2000 := Nat.le_trans (dl_P256' hz) (by decide)
  have d4 : dl (x + y) ≤ 2000 := Nat.le_trans (dl_add x y 32 (dl_P256' hx) (dl_P256' hy)) (by decide)
  have d5 : dl (x * y) ≤ 2000 := Nat.le_trans (dl_mul x y 32 32 (dl_P256' hx) (dl_P256' hy)) (by decide)
  have d6 : dl (aneg y) ≤ 2000 := Nat.le_trans (dl_P256' (aneg_lt y)) (by decide)
  have d7 : dl (asg x (x.testBit 255)) ≤ 2000 := Nat.le_trans (dl_P256' (asg_lt hx _)) (by decide)
  have d8 : dl (asg y (y.testBit 255)) ≤ 2000 := Nat.le_trans (dl_P256' (asg_lt hy _)) (by decide)
  go_enter Hvah.func238, Hvah.ntmps238
  go_wp2_with (first
    | (go_at_call 44; refine (nAdd O _ _ _ _ _ (hO.ext (by (repeat (first | with_reducible exact Ext.refl _ | with_reducible assumption | refine Ext.trans ?_ (by with_reducible assumption) | refine Ext.alloc ?_ _ _ | refine Ext.drew ?_ | refine Ext.drewN ?_ _)))) (NV.ext (by with_reducible assumption) (by (repeat (first | with_reducible exact Ext.refl _ | with_reducible assumption | refine Ext.trans ?_ (by with_reducible assumption) | refine Ext.alloc ?_ _ _ | refine Ext.drew ?_ | refine Ext.drewN ?_ _)))) (NV.ext (by with_reducible assumption) (by (repeat (first | with_reducible exact Ext.refl _ | with_reducible assumption | refine Ext.trans ?_ (by with_reducible assumption) | refine Ext.alloc ?_ _ _ | refine Ext.drew ?_ | refine Ext.drewN ?_ _)))) (by with_reducible assumption) (by with_reducible assumption)).mono ?_; rintro e w1 ⟨r, rfl, hr, he⟩)
    | (go_at_call 164; refine (nDivMod O _ _ _ _ _ (hO.ext (by (repeat (first | with_reducible exact Ext.refl _ | with_reducible assumption | refine Ext.trans ?_ (by with_reducible assumption) | refine Ext.alloc ?_ _ _ | refine Ext.drew ?_ | refine Ext.drewN ?_ _)))) (NV.ext (by with_reducible assumption) (by (repeat (first | with_reducible exact Ext.refl _ | with_reducible assumption | refine Ext.trans ?_ (by with_reducible assumption) | refine Ext.alloc ?_ _ _ | refine Ext.drew ?_ | refine Ext.drewN ?_ _)))) (NV.ext (by with_reducible assumption) (by (repeat (first | with_reducible exact Ext.refl _ | with_reducible assumption | refine Ext.trans ?_ (by with_reducible assumption) | refine Ext.alloc ?_ _ _ | refine Ext.drew ?_ | refine Ext.drewN ?_ _)))) (by with_reducible assumption) (by with_reducible assumption)).mono ?_; rintro e w1 ⟨q, r, rfl, hq, hr, he⟩))
  go_ret
  exact ⟨_, rfl, NV.cast (NV.ext hr (by (repeat (first | with_reducible exact Ext.refl _ | with_reducible assumption | refine Ext.trans ?_ (by with_reducible assumption) | refine Ext.alloc ?_ _ _ | refine Ext.drew ?_ | refine Ext.drewN ?_ _)))) (rfl), by (repeat (first | with_reducible exact Ext.refl _ | with_reducible assumption | refine Ext.trans ?_ (by with_reducible assumption) | refine Ext.alloc ?_ _ _ | refine Ext.drew ?_ | refine Ext.drewN ?_ _))⟩
set_option maxRecDepth 100000 in
set_option maxHeartbeats 1600000 in
theorem yAlu9 (hO : Small O w) (_ha : NV O w va x) (_hb : NV O w vb y) (_hc : NV O w vc z) (hx : x < P256) (hy : y < P256) (hz : z < P256) : Calls Hvah.prog 238 #[.int .u8 9, va, vb, vc] w fun e w' => ∃ r, e = .returned r ∧ NV O w' r (alu 9 x y z) ∧ Ext w w' := by
  have d1 : dl x ≤ 2000 := Nat.le_trans (dl_P256' hx) (by decide)
  have d2 : dl y ≤ 2000 := Nat.le_trans (dl_P256' hy) (by decide)
  have d3 : dl z ≤ 2000 := Nat.le_trans (dl_P256' hz) (by decide)
  have d4 : dl (x + y) ≤ 2000 := Nat.le_trans (dl_add x y 32 (dl_P256' hx) (dl_P256' hy)) (by decide)
  have d5 : dl (x * y) ≤ 2000 := Nat.le_trans (dl_mul x y 32 32 (dl_P256' hx) (dl_P256' hy)) (by decide)
  have d6 : dl (aneg y) ≤ 2000 := Nat.le_trans (dl_P256' (aneg_lt y)) (by decide)
  have d7 : dl (asg x (x.testBit 255)) ≤ 2000 := Nat.le_trans (dl_P256' (asg_lt hx _)) (by decide)
  have d8 : dl (asg y (y.testBit 255)) ≤ 2000 := Nat.le_trans (dl_P256' (asg_lt hy _)) (by decide)
  go_enter Hvah.func238, Hvah.ntmps238
  go_wp2_with (first
    | (go_at_call 60; refine (nMul O _ _ _ _ _ (hO.ext (by (repeat (first | with_reducible exact Ext.refl _ | with_reducible assumption | refine Ext.trans ?_ (by with_reducible assumption) | refine Ext.alloc ?_ _ _ | refine Ext.drew ?_ | refine Ext.drewN ?_ _)))) (NV.ext (by with_reducible assumption) (by (repeat (first | with_reducible exact Ext.refl _ | with_reducible assumption | refine Ext.trans ?_ (by with_reducible assumption) | refine Ext.alloc ?_ _ _ | refine Ext.drew ?_ | refine Ext.drewN ?_ _)))) (NV.ext (by with_reducible assumption) (by (repeat (first | with_reducible exact Ext.refl _ | with_reducible assumption | refine Ext.trans ?_ (by with_reducible assumption) | refine Ext.alloc ?_ _ _ | refine Ext.drew ?_ | refine Ext.drewN ?_ _)))) (by with_reducible assumption) (by with_reducible assumption)).mono ?_; rintro e w1 ⟨r, rfl, hr, he⟩)
    | (go_at_call 164; refine (nDivMod O _ _ _ _ _ (hO.ext (by (repeat (first | with_reducible exact Ext.refl _ | with_reducible assumption | refine Ext.trans ?_ (by with_reducible assumption) | refine Ext.alloc ?_ _ _ | refine Ext.drew ?_ | refine Ext.drewN ?_ _)))) (NV.ext (by with_reducible assumption) (by (repeat (first | with_reducible exact Ext.refl _ | with_reducible assumption | refine Ext.trans ?_ (by with_reducible assumption) | refine Ext.alloc ?_ _ _ | refine Ext.drew ?_ | refine Ext.drewN ?_ _)))) (NV.ext (by with_reducible assumption) (by (repeat (first | with_reducible exact Ext.refl _ | with_reducible assumption | refine Ext.trans ?_ (by with_reducible assumption) | refine Ext.alloc ?_ _ _ | refine Ext.drew ?_ | refine Ext.drewN ?_ _)))) (by with_reducible assumption) (by with_reducible assumption)).mono ?_; rintro e w1 ⟨q, r, rfl, hq, hr, he⟩))
  go_ret
  exact ⟨_, rfl, NV.cast (NV.ext hr (by (repeat (first | with_reducible exact Ext.refl _ | with_reducible assumption | refine Ext.trans ?_ (by with_reducible assumption) | refine Ext.alloc ?_ _ _ | refine Ext.drew ?_ | refine Ext.drewN ?_ _)))) (rfl), by (repeat (first | with_reducible exact Ext.refl _ | with_reducible assumption | refine Ext.trans ?_ (by with_reducible assumption) | refine Ext.alloc ?_ _ _ | refine Ext.drew ?_ | refine Ext.drewN ?_ _))⟩
set_option maxRecDepth 100000 in
set_option maxHeartbeats 1600000 in
theorem yAlu10 (hO : Small O w) (_ha : NV O w va x) (_hb : NV O w vb y) (_hc : NV O w vc z) (hx : x < P256) (hy : y < P256) (hz : z < P256) : Calls Hvah.prog 238 #[.int .u8 10, va, vb, vc] w fun e w' => ∃ r, e = .returned r ∧ NV O w' r (alu 10 x y z) ∧ Ext w w' := by
  have d1 : dl x ≤ 2000 := Nat.le_trans (dl_P256' hx) (by decide)
  have d2 : dl y ≤ 2000 := Nat.le_trans (dl_P256' hy) (by decide)
  have d3 : dl z ≤ 2000 := Nat.le_trans (dl_P256' hz) (by decide)
  have d4 : dl (x + y) ≤ 2000 := Nat.le_trans (dl_add x y 32 (dl_P256' hx) (dl_P256' hy)) (by decide)
  have d5 : dl (x * y) ≤ 2000 := Nat.le_trans (dl_mul x y 32 32 (dl_P256' hx) (dl_P256' hy)) (by decide)
  have d6 : dl (aneg y) ≤ 2000 := Nat.le_trans (dl_P256' (aneg_lt y)) (by decide)
  have d7 : dl (asg x (x.testBit 255)) ≤ 2000 := Nat.le_trans (dl_P256' (asg_lt hx _)) (by decide)
  have d8 : dl (asg y (y.testBit 255)) ≤ 2000 := Nat.le_trans (dl_P256' (asg_lt hy _)) (by decide)
  go_enter Hvah.func238, Hvah.ntmps238
  go_wp2_with (first
    | (go_at_call 351; refine (yPower (hO.ext (by (repeat (first | with_reducible exact Ext.refl _ | with_reducible assumption | refine Ext.trans ?_ (by with_reducible assumption) | refine Ext.alloc ?_ _ _ | refine Ext.drew ?_ | refine Ext.drewN ?_ _)))) (NV.ext (by with_reducible assumption) (by (repeat (first | with_reducible exact Ext.refl _ | with_reducible assumption | refine Ext.trans ?_ (by with_reducible assumption) | refine Ext.alloc ?_ _ _ | refine Ext.drew ?_ | refine Ext.drewN ?_ _)))) (NV.ext (by with_reducible assumption) (by (repeat (first | with_reducible exact Ext.refl _ | with_reducible assumption | refine Ext.trans ?_ (by with_reducible assumption) | refine Ext.alloc ?_ _ _ | refine Ext.drew ?_ | refine Ext.drewN ?_ _)))) hx hy).mono ?_; rintro e w1 ⟨r, rfl, hr, he⟩))
  go_ret
  exact ⟨_, rfl, NV.cast (NV.ext hr (by (repeat (first | with_reducible exact Ext.refl _ | with_reducible assumption | refine Ext.trans ?_ (by with_reducible assumption) | refine Ext.alloc ?_ _ _ | refine Ext.drew ?_ | refine Ext.drewN ?_ _)))) (rfl), by (repeat (first | with_reducible exact Ext.refl _ | with_reducible assumption | refine Ext.trans ?_ (by with_reducible assumption) | refine Ext.alloc ?_ _ _ | refine Ext.drew ?_ | refine Ext.drewN ?_ _))⟩
set_option maxRecDepth 100000 in
set_option maxHeartbeats 1600000 in
theorem yAlu11 (hO : Small O w) (_ha : NV O w va x) (_hb : NV O w vb y) (_hc : NV O w vc z) (hx : x < P256) (hy : y < P256) (hz : z < P256) : Calls Hvah.prog 238 #[.int .u8 11, va, vb, vc] w fun e w' => ∃ r, e = .returned r ∧ NV O w' r (alu 11 x y z) ∧ Ext w w' := by
  have d1 : dl x ≤ 2000 := Nat.le_trans (dl_P256' hx) (by decide)
  have d2 : dl y ≤ 2000 := Nat.le_trans (dl_P256' hy) (by decide)
  have d3 : dl z ≤ 2000 := Nat.le_trans (dl_P256' hz) (by decide)
  have d4 : dl (x + y) ≤ 2000 := Nat.le_trans (dl_add x y 32 (dl_P256' hx) (dl_P256' hy)) (by decide)
  have d5 : dl (x * y) ≤ 2000 := Nat.le_trans (dl_mul x y 32 32 (dl_P256' hx) (dl_P256' hy)) (by decide)
  have d6 : dl (aneg y) ≤ 2000 := Nat.le_trans (dl_P256' (aneg_lt y)) (by decide)
  have d7 : dl (asg x (x.testBit 255)) ≤ 2000 := Nat.le_trans (dl_P256' (asg_lt hx _)) (by decide)
  have d8 : dl (asg y (y.testBit 255)) ≤ 2000 := Nat.le_trans (dl_P256' (asg_lt hy _)) (by decide)
  go_enter Hvah.func238, Hvah.ntmps238
  go_wp2_with (first
    | (go_at_call 352; refine (ySignExt (hO.ext (by (repeat (first | with_reducible exact Ext.refl _ | with_reducible assumption | refine Ext.trans ?_ (by with_reducible assumption) | refine Ext.alloc ?_ _ _ | refine Ext.drew ?_ | refine Ext.drewN ?_ _)))) (NV.ext (by with_reducible assumption) (by (repeat (first | with_reducible exact Ext.refl _ | with_reducible assumption | refine Ext.trans ?_ (by with_reducible assumption) | refine Ext.alloc ?_ _ _ | refine Ext.drew ?_ | refine Ext.drewN ?_ _)))) (NV.ext (by with_reducible assumption) (by (repeat (first | with_reducible exact Ext.refl _ | with_reducible assumption | refine Ext.trans ?_ (by with_reducible assumption) | refine Ext.alloc ?_ _ _ | refine Ext.drew ?_ | refine Ext.drewN ?_ _)))) hx hy).mono ?_; rintro e w1 ⟨r, rfl, hr, he⟩))
  go_ret
  exact ⟨_, rfl, NV.cast (NV.ext hr (by (repeat (first | with_reducible exact Ext.refl _ | with_reducible assumption | refine Ext.trans ?_ (by with_reducible assumption) | refine Ext.alloc ?_ _ _ | refine Ext.drew ?_ | refine Ext.drewN ?_ _)))) (rfl), by (repeat (first | with_reducible exact Ext.refl _ | with_reducible assumption | refine Ext.trans ?_ (by with_reducible assumption) | refine Ext.alloc ?_ _ _ | refine Ext.drew ?_ | refine Ext.drewN ?_ _))⟩
set_option maxRecDepth 100000 in
set_option maxHeartbeats 1600000 in
theorem yAlu16 (hO : Small O w) (_ha : NV O w va x) (_hb : NV O w vb y) (_hc : NV O w vc z) (hx : x < P256) (hy : y < P256) (hz : z < P256) : Calls Hvah.prog 238 #[.int .u8 16, va, vb, vc] w fun e w' => ∃ r, e = .returned r ∧ NV O w' r (alu 16 x y z) ∧ Ext w w' := by
  have d1 : dl x ≤ 2000 := Nat.le_trans (dl_P256' hx) (by decide)
  have d2 : dl y ≤ 2000 := Nat.le_trans (dl_P256' hy) (by decide)
  have d3 : dl z ≤ 2000 := Nat.le_trans (dl_P256' hz) (by decide)
  have d4 : dl (x + y) ≤ 2000 := Nat.le_trans (dl_add x y 32 (dl_P256' hx) (dl_P256' hy)) (by decide)
  have d5 : dl (x * y) ≤ 2000 := Nat.le_trans (dl_mul x y 32 32 (dl_P256' hx) (dl_P256' hy)) (by decide)
  have d6 : dl (aneg y) ≤ 2000 := Nat.le_trans (dl_P256' (aneg_lt y)) (by decide)
  have d7 : dl (asg x (x.testBit 255)) ≤ 2000 := Nat.le_trans (dl_P256' (asg_lt hx _)) (by decide)
  have d8 : dl (asg y (y.testBit 255)) ≤ 2000 := Nat.le_trans (dl_P256' (asg_lt hy _)) (by decide)
  go_enter Hvah.func238, Hvah.ntmps238
  go_wp2_with (first
    | (go_at_call 130; refine (nCmp O _ _ _ _ _ (by first | exact (NV.ext (by with_reducible assumption) (by (repeat (first | with_reducible exact Ext.refl _ | with_reducible assumption | refine Ext.trans ?_ (by with_reducible assumption) | refine Ext.alloc ?_ _ _ | refine Ext.drew ?_ | refine Ext.drewN ?_ _)))) | exact NV.nil) (by first | exact (NV.ext (by with_reducible assumption) (by (repeat (first | with_reducible exact Ext.refl _ | with_reducible assumption | refine Ext.trans ?_ (by with_reducible assumption) | refine Ext.alloc ?_ _ _ | refine Ext.drew ?_ | refine Ext.drewN ?_ _)))) | exact NV.nil)).mono ?_; rintro e w1 ⟨rfl, hdr⟩; have he := drew_ext hdr; clear hdr)
    | (go_at_call 353; refine (yTruth _ (hO.ext (by (repeat (first | with_reducible exact Ext.refl _ | with_reducible assumption | refine Ext.trans ?_ (by with_reducible assumption) | refine Ext.alloc ?_ _ _ | refine Ext.drew ?_ | refine Ext.drewN ?_ _))))).mono ?_; rintro e w1 ⟨r, rfl, hr, he⟩))
  go_ret
  exact ⟨_, rfl, NV.cast (NV.ext hr (by (repeat (first | with_reducible exact Ext.refl _ | with_reducible assumption | refine Ext.trans ?_ (by with_reducible assumption) | refine Ext.alloc ?_ _ _ | refine Ext.drew ?_ | refine Ext.drewN ?_ _)))) (by show b2n _ = b2n _; rw [cmpI_lt0]), by (repeat (first | with_reducible exact Ext.refl _ | with_reducible assumption | refine Ext.trans ?_ (by with_reducible assumption) | refine Ext.alloc ?_ _ _ | refine Ext.drew ?_ | refine Ext.drewN ?_ _))⟩
set_option maxRecDepth 100000 in
set_option maxHeartbeats 1600000 in
theorem yAlu17 (hO : Small O w) (_ha : NV O w va x) (_hb : NV O w vb y) (_hc : NV O w vc z) (hx : x < P256) (hy : y < P256) (hz : z < P256) : Calls Hvah.prog 238 #[.int .u8 17, va, vb, vc] w fun e w' => ∃ r, e = .returned r ∧ NV O w' r (alu 17 x y z) ∧ Ext w w' := by
  have d1 : dl x ≤ 2000 := Nat.le_trans (dl_P256' hx) (by decide)
  have d2 : dl y ≤ 2000 := Nat.le_trans (dl_P256' hy) (by decide)
  have d3 : dl z ≤ 2000 := Nat.le_trans (dl_P256' hz) (by decide)
  have d4 : dl (x + y) ≤ 2000 := Nat.le_trans (dl_add x y 32 (dl_P256' hx) (dl_P256' hy)) (by decide)
  have d5 : dl (x * y) ≤ 2000 := Nat.le_trans (dl_mul x y 32 32 (dl_P256' hx) (dl_P256' hy)) (by decide)
  have d6 : dl (aneg y) ≤ 2000 := Nat.le_trans (dl_P256' (aneg_lt y)) (by decide)
  have d7 : dl (asg x (x.testBit 255)) ≤ 2000 := Nat.le_trans (dl_P256' (asg_lt hx _)) (by decide)
  have d8 : dl (asg y (y.testBit 255)) ≤ 2000 := Nat.le_trans (dl_P256' (asg_lt hy _)) (by decide)
  go_enter Hvah.func238, Hvah.ntmps238
  go_wp2_with (first
    | (go_at_call 130; refine (nCmp O _ _ _ _ _ (by first | exact (NV.ext (by with_reducible assumption) (by (repeat (first | with_reducible exact Ext.refl _ | with_reducible assumption | refine Ext.trans ?_ (by with_reducible assumption) | refine Ext.alloc ?_ _ _ | refine Ext.drew ?_ | refine Ext.drewN ?_ _)))) | exact NV.nil) (by first | exact (NV.ext (by with_reducible assumption) (by (repeat (first | with_reducible exact Ext.refl _ | with_reducible assumption | refine Ext.trans ?_ (by with_reducible assumption) | refine Ext.alloc ?_ _ _ | refine Ext.drew ?_ | refine Ext.drewN ?_ _)))) | exact NV.nil)).mono ?_; rintro e w1 ⟨rfl, hdr⟩; have he := drew_ext hdr; clear hdr)
    | (go_at_call 353; refine (yTruth _ (hO.ext (by (repeat (first | with_reducible exact Ext.refl _ | with_reducible assumption | refine Ext.trans ?_ (by with_reducible assumption) | refine Ext.alloc ?_ _ _ | refine Ext.drew ?_ | refine Ext.drewN ?_ _))))).mono ?_; rintro e w1 ⟨r, rfl, hr, he⟩))
  go_ret
  exact ⟨_, rfl, NV.cast (NV.ext hr (by (repeat (first | with_reducible exact Ext.refl _ | with_reducible assumption | refine Ext.trans ?_ (by with_reducible assumption) | refine Ext.alloc ?_ _ _ | refine Ext.drew ?_ | refine Ext.drewN ?_ _)))) (by show b2n _ = b2n _; rw [cmpI_gt0]), by (repeat (first | with_reducible exact Ext.refl _ | with_reducible assumption | refine Ext.trans ?_ (by with_reducible assumption) | refine Ext.alloc ?_ _ _ | refine Ext.drew ?_ | refine Ext.drewN ?_ _))⟩
end
end Go.Proofs.YgvahwGreat
