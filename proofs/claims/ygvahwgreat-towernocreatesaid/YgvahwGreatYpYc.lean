import Derived.Test.YgvahwGreatYpY
namespace Go.Proofs.YgvahwGreat
open Go.RowKit
section
variable {O : Nat → Prop} {w : World} {va vb vc : Value} {x y z : Nat}
set_option maxRecDepth 100000 in
set_option maxHeartbeats 1600000 in
theorem yAlu18 (hO : Small O w) (_ha : NV O w va x) (_hb : NV O w vb y) (_hc : NV O w vc z) (hx : x < P256) (hy : y < P256) (hz : z < P256) : Calls Hvah.prog 238 #[.int .u8 18, va, vb, vc] w fun e w' => ∃ r, e = .returned r ∧ NV O w' r (alu 18 x y z) ∧ Ext w w' := by
  have d1 : dl x ≤ 2000 := Nat.le_trans (dl_P256' hx) (by decide)
  have d2 : dl y ≤ 2000 := Nat.le_trans (dl_P256' hy) (by decide)
  have d3 : dl z ≤ 2000 := Nat.le_trans (dl_P256' hz) (by decide)
  have d4 : dl (x + y) ≤ 2000 := Nat.le_trans (dl_add x y 32 (dl_P256' hx) (dl_P256' hy)) (by decide)
  have d5 : dl (x * y) ≤ 2000 := Nat.le_trans (dl_mul x y 32 32 (dl_P256' hx) (dl_P256' hy)) (by decide)
  have d6 : dl (aneg y) ≤ 2000 := Nat.le_trans (dl_P256' (aneg_lt y)) (by decide)
  have d7 : dl (asg x (x.testBit 255)) ≤ 2000 := Nat.le_trans (dl_P256' (asg_lt hx _)) (by decide)
  have d8 : dl (asg y (y.testBit 255)) ≤ 2000 := Nat.le_trans (dl_P256' (asg_lt hy _)) (by decide)
  go_enter Hvah.func238, Hvah.ntmps238
  go_wp2_with (first
    | (go_at_call 354; refine (ySB' (NV.ext (by with_reducible assumption) (by (repeat (first | with_reducible exact Ext.refl _ | with_reducible assumption | refine Ext.trans ?_ (by with_reducible assumption) | refine Ext.alloc ?_ _ _ | refine Ext.drew ?_ | refine Ext.drewN ?_ _)))) (NV.ext (by with_reducible assumption) (by (repeat (first | with_reducible exact Ext.refl _ | with_reducible assumption | refine Ext.trans ?_ (by with_reducible assumption) | refine Ext.alloc ?_ _ _ | refine Ext.drew ?_ | refine Ext.drewN ?_ _)))) (by assumption) (by assumption)).mono ?_; rintro e w1 ⟨rfl, he⟩)
    | (go_at_call 353; refine (yTruth _ (hO.ext (by (repeat (first | with_reducible exact Ext.refl _ | with_reducible assumption | refine Ext.trans ?_ (by with_reducible assumption) | refine Ext.alloc ?_ _ _ | refine Ext.drew ?_ | refine Ext.drewN ?_ _))))).mono ?_; rintro e w1 ⟨r, rfl, hr, he⟩))
  go_ret
  exact ⟨_, rfl, NV.cast (NV.ext hr (by (repeat (first | with_reducible exact Ext.refl _ | with_reducible assumption | refine Ext.trans ?_ (by with_reducible assumption) | refine Ext.alloc ?_ _ _ | refine Ext.drew ?_ | refine Ext.drewN ?_ _)))) (rfl), by (repeat (first | with_reducible exact Ext.refl _ | with_reducible assumption | refine Ext.trans ?_ (by with_reducible assumption) | refine Ext.alloc ?_ _ _ | refine Ext.drew ?_ | refine Ext.drewN ?_ _))⟩
set_option maxRecDepth 100000 in
set_option maxHeartbeats 1600000 in
theorem yAlu19 (hO : Small O w) (_ha : NV O w va x) (_hb : NV O w vb y) (_hc : NV O w vc z) (hx : x < P256) (hy : y < P256) (hz : z < P256) : Calls Hvah.prog 238 #[.int .u8 19, va, vb, vc] w fun e w' => ∃ r, e = .returned r ∧ NV O w' r (alu 19 x y z) ∧ Ext w w' := by
  have d1 : dl x ≤ 2000 := Nat.le_trans (dl_P256' hx) (by decide)
  have d2 : dl y ≤ 2000 := Nat.le_trans (dl_P256' hy) (by decide)
  have d3 : dl z ≤ 2000 := Nat.le_trans (dl_P256' hz) (by decide)
  have d4 : dl (x + y) ≤ 2000 := Nat.le_trans (dl_add x y 32 (dl_P256' hx) (dl_P256' hy)) (by decide)
  have d5 : dl (x * y) ≤ 2000 := Nat.le_trans (dl_mul x y 32 32 (dl_P256' hx) (dl_P256' hy)) (by decide)
  have d6 : dl (aneg y) ≤ 2000 := Nat.le_trans (dl_P256' (aneg_lt y)) (by decide)
  have d7 : dl (asg x (x.testBit 255)) ≤ 2000 := Nat.le_trans (dl_P256' (asg_lt hx _)) (by decide)
  have d8 : dl (asg y (y.testBit 255)) ≤ 2000 := Nat.le_trans (dl_P256' (asg_lt hy _)) (by decide)
  go_enter Hvah.func238, Hvah.ntmps238
  go_wp2_with (first
    | (go_at_call 354; refine (ySB' (NV.ext (by with_reducible assumption) (by (repeat (first | with_reducible exact Ext.refl _ | with_reducible assumption | refine Ext.trans ?_ (by with_reducible assumption) | refine Ext.alloc ?_ _ _ | refine Ext.drew ?_ | refine Ext.drewN ?_ _)))) (NV.ext (by with_reducible assumption) (by (repeat (first | with_reducible exact Ext.refl _ | with_reducible assumption | refine Ext.trans ?_ (by with_reducible assumption) | refine Ext.alloc ?_ _ _ | refine Ext.drew ?_ | refine Ext.drewN ?_ _)))) (by assumption) (by assumption)).mono ?_; rintro e w1 ⟨rfl, he⟩)
    | (go_at_call 353; refine (yTruth _ (hO.ext (by (repeat (first | with_reducible exact Ext.refl _ | with_reducible assumption | refine Ext.trans ?_ (by with_reducible assumption) | refine Ext.alloc ?_ _ _ | refine Ext.drew ?_ | refine Ext.drewN ?_ _))))).mono ?_; rintro e w1 ⟨r, rfl, hr, he⟩))
  go_ret
  exact ⟨_, rfl, NV.cast (NV.ext hr (by (repeat (first | with_reducible exact Ext.refl _ | with_reducible assumption | refine Ext.trans ?_ (by with_reducible assumption) | refine Ext.alloc ?_ _ _ | refine Ext.drew ?_ | refine Ext.drewN ?_ _)))) (rfl), by (repeat (first | with_reducible exact Ext.refl _ | with_reducible assumption | refine Ext.trans ?_ (by with_reducible assumption) | refine Ext.alloc ?_ _ _ | refine Ext.drew ?_ | refine Ext.drewN ?_ _))⟩
set_option maxRecDepth 100000 in
set_option maxHeartbeats 1600000 in
theorem yAlu20 (hO : Small O w) (_ha : NV O w va x) (_hb : NV O w vb y) (_hc : NV O w vc z) (hx : x < P256) (hy : y < P256) (hz : z < P256) : Calls Hvah.prog 238 #[.int .u8 20, va, vb, vc] w fun e w' => ∃ r, e = .returned r ∧ NV O w' r (alu 20 x y z) ∧ Ext w w' := by
  have d1 : dl x ≤ 2000 := Nat.le_trans (dl_P256' hx) (by decide)
  have d2 : dl y ≤ 2000 := Nat.le_trans (dl_P256' hy) (by decide)
  have d3 : dl z ≤ 2000 := Nat.le_trans (dl_P256' hz) (by decide)
  have d4 : dl (x + y) ≤ 2000 := Nat.le_trans (dl_add x y 32 (dl_P256' hx) (dl_P256' hy)) (by decide)
  have d5 : dl (x * y) ≤ 2000 := Nat.le_trans (dl_mul x y 32 32 (dl_P256' hx) (dl_P256' hy)) (by decide)
  have d6 : dl (aneg y) ≤ 2000 := Nat.le_trans (dl_P256' (aneg_lt y)) (by decide)
  have d7 : dl (asg x (x.testBit 255)) ≤ 2000 := Nat.le_trans (dl_P256' (asg_lt hx _)) (by decide)
  have d8 : dl (asg y (y.testBit 255)) ≤ 2000 := Nat.le_trans (dl_P256' (asg_lt hy _)) (by decide)
  go_enter Hvah.func238, Hvah.ntmps238
  go_wp2_with (first
    | (go_at_call 130; refine (nCmp O _ _ _ _ _ (by first | exact (NV.ext (by with_reducible assumption) (by (repeat (first | with_reducible exact Ext.refl _ | with_reducible assumption | refine Ext.trans ?_ (by with_reducible assumption) | refine Ext.alloc ?_ _ _ | refine Ext.drew ?_ | refine Ext.drewN ?_ _)))) | exact NV.nil) (by first | exact (NV.ext (by with_reducible assumption) (by (repeat (first | with_reducible exact Ext.refl _ | with_reducible assumption | refine Ext.trans ?_ (by with_reducible assumption) | refine Ext.alloc ?_ _ _ | refine Ext.drew ?_ | refine Ext.drewN ?_ _)))) | exact NV.nil)).mono ?_; rintro e w1 ⟨rfl, hdr⟩; have he := drew_ext hdr; clear hdr)
    | (go_at_call 353; refine (yTruth _ (hO.ext (by (repeat (first | with_reducible exact Ext.refl _ | with_reducible assumption | refine Ext.trans ?_ (by with_reducible assumption) | refine Ext.alloc ?_ _ _ | refine Ext.drew ?_ | refine Ext.drewN ?_ _))))).mono ?_; rintro e w1 ⟨r, rfl, hr, he⟩))
  go_ret
  exact ⟨_, rfl, NV.cast (NV.ext hr (by (repeat (first | with_reducible exact Ext.refl _ | with_reducible assumption | refine Ext.trans ?_ (by with_reducible assumption) | refine Ext.alloc ?_ _ _ | refine Ext.drew ?_ | refine Ext.drewN ?_ _)))) (by show b2n _ = b2n _; rw [cmpI_eq0]), by (repeat (first | with_reducible exact Ext.refl _ | with_reducible assumption | refine Ext.trans ?_ (by with_reducible assumption) | refine Ext.alloc ?_ _ _ | refine Ext.drew ?_ | refine Ext.drewN ?_ _))⟩
set_option maxRecDepth 100000 in
set_option maxHeartbeats 1600000 in
theorem yAlu21 (hO : Small O w) (_ha : NV O w va x) (_hb : NV O w vb y) (_hc : NV O w vc z) (hx : x < P256) (hy : y < P256) (hz : z < P256) : Calls Hvah.prog 238 #[.int .u8 21, va, vb, vc] w fun e w' => ∃ r, e = .returned r ∧ NV O w' r (alu 21 x y z) ∧ Ext w w' := by
  have d1 : dl x ≤ 2000 := Nat.le_trans (dl_P256' hx) (by decide)
  have d2 : dl y ≤ 2000 := Nat.le_trans (dl_P256' hy) (by decide)
  have d3 : dl z ≤ 2000 := Nat.le_trans (dl_P256' hz) (by decide)
  have d4 : dl (x + y) ≤ 2000 := Nat.le_trans (dl_add x y 32 (dl_P256' hx) (dl_P256' hy)) (by decide)
  have d5 : dl (x * y) ≤ 2000 := Nat.le_trans (dl_mul x y 32 32 (dl_P256' hx) (dl_P256' hy)) (by decide)
  have d6 : dl (aneg y) ≤ 2000 := Nat.le_trans (dl_P256' (aneg_lt y)) (by decide)
  have d7 : dl (asg x (x.testBit 255)) ≤ 2000 := Nat.le_trans (dl_P256' (asg_lt hx _)) (by decide)
  have d8 : dl (asg y (y.testBit 255)) ≤ 2000 := Nat.le_trans (dl_P256' (asg_lt hy _)) (by decide)
  go_enter Hvah.func238, Hvah.ntmps238
  go_wp2_with (first
    | (go_at_call 130; refine (nCmp O _ _ _ _ _ (by first | exact (NV.ext (by with_reducible assumption) (by (repeat (first | with_reducible exact Ext.refl _ | with_reducible assumption | refine Ext.trans ?_ (by with_reducible assumption) | refine Ext.alloc ?_ _ _ | refine Ext.drew ?_ | refine Ext.drewN ?_ _)))) | exact NV.nil) (by first | exact (NV.ext (by with_reducible assumption) (by (repeat (first | with_reducible exact Ext.refl _ | with_reducible assumption | refine Ext.trans ?_ (by with_reducible assumption) | refine Ext.alloc ?_ _ _ | refine Ext.drew ?_ | refine Ext.drewN ?_ _)))) | exact NV.nil)).mono ?_; rintro e w1 ⟨rfl, hdr⟩; have he := drew_ext hdr; clear hdr)
    | (go_at_call 353; refine (yTruth _ (hO.ext (by (repeat (first | with_reducible exact Ext.refl _ | with_reducible assumption | refine Ext.trans ?_ (by with_reducible assumption) | refine Ext.alloc ?_ _ _ | refine Ext.drew ?_ | refine Ext.drewN ?_ _))))).mono ?_; rintro e w1 ⟨r, rfl, hr, he⟩))
  go_ret
  exact ⟨_, rfl, NV.cast (NV.ext hr (by (repeat (first | with_reducible exact Ext.refl _ | with_reducible assumption | refine Ext.trans ?_ (by with_reducible assumption) | refine Ext.alloc ?_ _ _ | refine Ext.drew ?_ | refine Ext.drewN ?_ _)))) (by show b2n _ = b2n _; rw [cmpI_eq0]), by (repeat (first | with_reducible exact Ext.refl _ | with_reducible assumption | refine Ext.trans ?_ (by with_reducible assumption) | refine Ext.alloc ?_ _ _ | refine Ext.drew ?_ | refine Ext.drewN ?_ _))⟩
set_option maxRecDepth 100000 in
set_option maxHeartbeats 1600000 in
theorem yAlu22 (hO : Small O w) (_ha : NV O w va x) (_hb : NV O w vb y) (_hc : NV O w vc z) (hx : x < P256) (hy : y < P256) (hz : z < P256) : Calls Hvah.prog 238 #[.int .u8 22, va, vb, vc] w fun e w' => ∃ r, e = .returned r ∧ NV O w' r (alu 22 x y z) ∧ Ext w w' := by
  have d1 : dl x ≤ 2000 := Nat.le_trans (dl_P256' hx) (by decide)
  have d2 : dl y ≤ 2000 := Nat.le_trans (dl_P256' hy) (by decide)
  have d3 : dl z ≤ 2000 := Nat.le_trans (dl_P256' hz) (by decide)
  have d4 : dl (x + y) ≤ 2000 := Nat.le_trans (dl_add x y 32 (dl_P256' hx) (dl_P256' hy)) (by decide)
  have d5 : dl (x * y) ≤ 2000 := Nat.le_trans (dl_mul x y 32 32 (dl_P256' hx) (dl_P256' hy)) (by decide)
  have d6 : dl (aneg y) ≤ 2000 := Nat.le_trans (dl_P256' (aneg_lt y)) (by decide)
  have d7 : dl (asg x (x.testBit 255)) ≤ 2000 := Nat.le_trans (dl_P256' (asg_lt hx _)) (by decide)
  have d8 : dl (asg y (y.testBit 255)) ≤ 2000 := Nat.le_trans (dl_P256' (asg_lt hy _)) (by decide)
  go_enter Hvah.func238, Hvah.ntmps238
  go_wp2_with (first
    | (go_at_call 355; refine (yBitwise 22 (by decide) (hO.ext (by (repeat (first | with_reducible exact Ext.refl _ | with_reducible assumption | refine Ext.trans ?_ (by with_reducible assumption) | refine Ext.alloc ?_ _ _ | refine Ext.drew ?_ | refine Ext.drewN ?_ _)))) (NV.ext (by with_reducible assumption) (by (repeat (first | with_reducible exact Ext.refl _ | with_reducible assumption | refine Ext.trans ?_ (by with_reducible assumption) | refine Ext.alloc ?_ _ _ | refine Ext.drew ?_ | refine Ext.drewN ?_ _)))) (NV.ext (by with_reducible assumption) (by (repeat (first | with_reducible exact Ext.refl _ | with_reducible assumption | refine Ext.trans ?_ (by with_reducible assumption) | refine Ext.alloc ?_ _ _ | refine Ext.drew ?_ | refine Ext.drewN ?_ _)))) hx hy).mono ?_; rintro e w1 ⟨r, rfl, hr, he⟩))
  go_ret
  exact ⟨_, rfl, NV.cast (NV.ext hr (by (repeat (first | with_reducible exact Ext.refl _ | with_reducible assumption | refine Ext.trans ?_ (by with_reducible assumption) | refine Ext.alloc ?_ _ _ | refine Ext.drew ?_ | refine Ext.drewN ?_ _)))) (rfl), by (repeat (first | with_reducible exact Ext.refl _ | with_reducible assumption | refine Ext.trans ?_ (by with_reducible assumption) | refine Ext.alloc ?_ _ _ | refine Ext.drew ?_ | refine Ext.drewN ?_ _))⟩
set_option maxRecDepth 100000 in
set_option maxHeartbeats 1600000 in
theorem yAlu23 (hO : Small O w) (_ha : NV O w va x) (_hb : NV O w vb y) (_hc : NV O w vc z) (hx : x < P256) (hy : y < P256) (hz : z < P256) : Calls Hvah.prog 238 #[.int .u8 23, va, vb, vc] w fun e w' => ∃ r, e = .returned r ∧ NV O w' r (alu 23 x y z) ∧ Ext w w' := by
  have d1 : dl x ≤ 2000 := Nat.le_trans (dl_P256' hx) (by decide)
  have d2 : dl y ≤ 2000 := Nat.le_trans (dl_P256' hy) (by decide)
  have d3 : dl z ≤ 2000 := Nat.le_trans (dl_P256' hz) (by decide)
  have d4 : dl (x + y) ≤ 2000 := Nat.le_trans (dl_add x y 32 (dl_P256' hx) (dl_P256' hy)) (by decide)
  have d5 : dl (x * y) ≤ 2000 := Nat.le_trans (dl_mul x y 32 32 (dl_P256' hx) (dl_P256' hy)) (by decide)
  have d6 : dl (aneg y) ≤ 2000 := Nat.le_trans (dl_P256' (aneg_lt y)) (by decide)
  have d7 : dl (asg x (x.testBit 255)) ≤ 2000 := Nat.le_trans (dl_P256' (asg_lt hx _)) (by decide)
  have d8 : dl (asg y (y.testBit 255)) ≤ 2000 := Nat.le_trans (dl_P256' (asg_lt hy _)) (by decide)
  go_enter Hvah.func238, Hvah.ntmps238
  go_wp2_with (first
    | (go_at_call 355; refine (yBitwise 23 (by decide) (hO.ext (by (repeat (first | with_reducible exact Ext.refl _ | with_reducible assumption | refine Ext.trans ?_ (by with_reducible assumption) | refine Ext.alloc ?_ _ _ | refine Ext.drew ?_ | refine Ext.drewN ?_ _)))) (NV.ext (by with_reducible assumption) (by (repeat (first | with_reducible exact Ext.refl _ | with_reducible assumption | refine Ext.trans ?_ (by with_reducible assumption) | refine Ext.alloc ?_ _ _ | refine Ext.drew ?_ | refine Ext.drewN ?_ _)))) (NV.ext (by with_reducible assumption) (by (repeat (first | with_reducible exact Ext.refl _ | with_reducible assumption | refine Ext.trans ?_ (by with_reducible assumption) | refine Ext.alloc ?_ _ _ | refine Ext.drew ?_ | refine Ext.drewN ?_ _)))) hx hy).mono ?_; rintro e w1 ⟨r, rfl, hr, he⟩))
  go_ret
  exact ⟨_, rfl, NV.cast (NV.ext hr (by (repeat (first | with_reducible exact Ext.refl _ | with_reducible assumption | refine Ext.trans ?_ (by with_reducible assumption) | refine Ext.alloc ?_ _ _ | refine Ext.drew ?_ | refine Ext.drewN ?_ _)))) (rfl), by (repeat (first | with_reducible exact Ext.refl _ | with_reducible assumption | refine Ext.trans ?_ (by with_reducible assumption) | refine Ext.alloc ?_ _ _ | refine Ext.drew ?_ | refine Ext.drewN ?_ _))⟩
end
end Go.Proofs.YgvahwGreat
