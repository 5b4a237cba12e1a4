import Derived.Test.YgvahwGreatYpY
namespace Go.Proofs.YgvahwGreat
open Go.RowKit
section
variable {O : Nat → Prop} {w : World} {va vb vc : Value} {x y z : Nat}
set_option maxRecDepth 100000 in
set_option maxHeartbeats 1600000 in
theorem yAlu24 (hO : Small O w) (_ha : NV O w va x) (_hb : NV O w vb y) (_hc : NV O w vc z) (hx : x < P256) (hy : y < P256) (hz : z < P256) : Calls Hvah.prog 238 #[.int .u8 24, va, vb, vc] w fun e w' => ∃ r, e = .returned r ∧ NV O w' r (alu 24 x y z) ∧ Ext w w' := by
  have d1 : dl x ≤ 2000 := Nat.le_trans (dl_P256' hx) (by decide)
  have d2 : dl y ≤ 2000 := Nat.le_trans (dl_P256' hy) (by decide)
  have d3 : dl z ≤ 2000 := Nat.le_trans (dl_P256' hz) (by decide)
  have d4 : dl (x + y) ≤ 2000 := Nat.le_trans (dl_add x y 32 (dl_P256' hx) (dl_P256' hy)) (by decide)
  have d5 : dl (x * y) ≤ 2000 := Nat.le_trans (dl_mul x y 32 32 (dl_P256' hx) (dl_P256' hy)) (by decide)
  have d6 : dl (aneg y) ≤ 2000 := Nat.le_trans (dl_P256' (aneg_lt y)) (by decide)
  have d7 : dl (asg x (x.testBit 255)) ≤ 2000 := Nat.le_trans (dl_P256' (asg_lt hx _)) (by decide)
  have d8 : dl (asg y (y.testBit 255)) ≤ 2000 := Nat.le_trans (dl_P256' (asg_lt hy _)) (by decide)
  go_enter Hvah.func238, Hvah.ntmps238
  go_wp2_with (first
    | (go_at_call 355; refine (yBitwise 24 (by decide) (hO.ext (by (repeat (first | with_reducible exact Ext.refl _ | with_reducible assumption | refine Ext.trans ?_ (by with_reducible assumption) | refine Ext.alloc ?_ _ _ | refine Ext.drew ?_ | refine Ext.drewN ?_ _)))) (NV.ext (by with_reducible assumption) (by (repeat (first | with_reducible exact Ext.refl _ | with_reducible assumption | refine Ext.trans ?_ (by with_reducible assumption) | refine Ext.alloc ?_ _ _ | refine Ext.drew ?_ | refine Ext.drewN ?_ _)))) (NV.ext (by with_reducible assumption) (by (repeat (first | with_reducible exact Ext.refl _ | with_reducible assumption | refine Ext.trans ?_ (by with_reducible assumption) | refine Ext.alloc ?_ _ _ | refine Ext.drew ?_ | refine Ext.drewN ?_ _)))) hx hy).mono ?_; rintro e w1 ⟨r, rfl, hr, he⟩))
  go_ret
  exact ⟨_, rfl, NV.cast (NV.ext hr (by (repeat (first | with_reducible exact Ext.refl _ | with_reducible assumption | refine Ext.trans ?_ (by with_reducible assumption) | refine Ext.alloc ?_ _ _ | refine Ext.drew ?_ | refine Ext.drewN ?_ _)))) (rfl), by (repeat (first | with_reducible exact Ext.refl _ | with_reducible assumption | refine Ext.trans ?_ (by with_reducible assumption) | refine Ext.alloc ?_ _ _ | refine Ext.drew ?_ | refine Ext.drewN ?_ _))⟩
set_option maxRecDepth 100000 in
set_option maxHeartbeats 1600000 in
theorem yAlu25 (hO : Small O w) (_ha : NV O w va x) (_hb : NV O w vb y) (_hc : NV O w vc z) (hx : x < P256) (hy : y < P256) (hz : z < P256) : Calls Hvah.prog 238 #[.int .u8 25, va, vb, vc] w fun e w' => ∃ r, e = .returned r ∧ NV O w' r (alu 25 x y z) ∧ Ext w w' := by
  have d1 : dl x ≤ 2000 := Nat.le_trans (dl_P256' hx) (by decide)
  have d2 : dl y ≤ 2000 := Nat.le_trans (dl_P256' hy) (by decide)
  have d3 : dl z ≤ 2000 := Nat.le_trans (dl_P256' hz) (by decide)
  have d4 : dl (x + y) ≤ 2000 := Nat.le_trans (dl_add x y 32 (dl_P256' hx) (dl_P256' hy)) (by decide)
  have d5 : dl (x * y) ≤ 2000 := Nat.le_trans (dl_mul x y 32 32 (dl_P256' hx) (dl_P256' hy)) (by decide)
  have d6 : dl (aneg y) ≤ 2000 := Nat.le_trans (dl_P256' (aneg_lt y)) (by decide)
  have d7 : dl (asg x (x.testBit 255)) ≤ 2000 := Nat.le_trans (dl_P256' (asg_lt hx _)) (by decide)
  have d8 : dl (asg y (y.testBit 255)) ≤ 2000 := Nat.le_trans (dl_P256' (asg_lt hy _)) (by decide)
  go_enter Hvah.func238, Hvah.ntmps238
  go_wp2_with (first
    | (go_at_call 355; refine (yBitwise 25 (by decide) (hO.ext (by (repeat (first | with_reducible exact Ext.refl _ | with_reducible assumption | refine Ext.trans ?_ (by with_reducible assumption) | refine Ext.alloc ?_ _ _ | refine Ext.drew ?_ | refine Ext.drewN ?_ _)))) (NV.ext (by with_reducible assumption) (by (repeat (first | with_reducible exact Ext.refl _ | with_reducible assumption | refine Ext.trans ?_ (by with_reducible assumption) | refine Ext.alloc ?_ _ _ | refine Ext.drew ?_ | refine Ext.drewN ?_ _)))) (NV.ext (by with_reducible assumption) (by (repeat (first | with_reducible exact Ext.refl _ | with_reducible assumption | refine Ext.trans ?_ (by with_reducible assumption) | refine Ext.alloc ?_ _ _ | refine Ext.drew ?_ | refine Ext.drewN ?_ _)))) hx hy).mono ?_; rintro e w1 ⟨r, rfl, hr, he⟩))
  go_ret
  exact ⟨_, rfl, NV.cast (NV.ext hr (by (repeat (first | with_reducible exact Ext.refl _ | with_reducible assumption | refine Ext.trans ?_ (by with_reducible assumption) | refine Ext.alloc ?_ _ _ | refine Ext.drew ?_ | refine Ext.drewN ?_ _)))) (alu25 x y z), by (repeat (first | with_reducible exact Ext.refl _ | with_reducible assumption | refine Ext.trans ?_ (by with_reducible assumption) | refine Ext.alloc ?_ _ _ | refine Ext.drew ?_ | refine Ext.drewN ?_ _))⟩
set_option maxRecDepth 100000 in
set_option maxHeartbeats 1600000 in
theorem yAlu26 (hO : Small O w) (_ha : NV O w va x) (_hb : NV O w vb y) (_hc : NV O w vc z) (hx : x < P256) (hy : y < P256) (hz : z < P256) : Calls Hvah.prog 238 #[.int .u8 26, va, vb, vc] w fun e w' => ∃ r, e = .returned r ∧ NV O w' r (alu 26 x y z) ∧ Ext w w' := by
  have d1 : dl x ≤ 2000 := Nat.le_trans (dl_P256' hx) (by decide)
  have d2 : dl y ≤ 2000 := Nat.le_trans (dl_P256' hy) (by decide)
  have d3 : dl z ≤ 2000 := Nat.le_trans (dl_P256' hz) (by decide)
  have d4 : dl (x + y) ≤ 2000 := Nat.le_trans (dl_add x y 32 (dl_P256' hx) (dl_P256' hy)) (by decide)
  have d5 : dl (x * y) ≤ 2000 := Nat.le_trans (dl_mul x y 32 32 (dl_P256' hx) (dl_P256' hy)) (by decide)
  have d6 : dl (aneg y) ≤ 2000 := Nat.le_trans (dl_P256' (aneg_lt y)) (by decide)
  have d7 : dl (asg x (x.testBit 255)) ≤ 2000 := Nat.le_trans (dl_P256' (asg_lt hx _)) (by decide)
  have d8 : dl (asg y (y.testBit 255)) ≤ 2000 := Nat.le_trans (dl_P256' (asg_lt hy _)) (by decide)
  go_enter Hvah.func238, Hvah.ntmps238
  go_wp2_with (first
    | (go_at_call 356; refine (yPicked (hO.ext (by (repeat (first | with_reducible exact Ext.refl _ | with_reducible assumption | refine Ext.trans ?_ (by with_reducible assumption) | refine Ext.alloc ?_ _ _ | refine Ext.drew ?_ | refine Ext.drewN ?_ _)))) (NV.ext (by with_reducible assumption) (by (repeat (first | with_reducible exact Ext.refl _ | with_reducible assumption | refine Ext.trans ?_ (by with_reducible assumption) | refine Ext.alloc ?_ _ _ | refine Ext.drew ?_ | refine Ext.drewN ?_ _)))) (NV.ext (by with_reducible assumption) (by (repeat (first | with_reducible exact Ext.refl _ | with_reducible assumption | refine Ext.trans ?_ (by with_reducible assumption) | refine Ext.alloc ?_ _ _ | refine Ext.drew ?_ | refine Ext.drewN ?_ _)))) hy).mono ?_; rintro e w1 ⟨r, rfl, hr, he⟩))
  go_ret
  exact ⟨_, rfl, NV.cast (NV.ext hr (by (repeat (first | with_reducible exact Ext.refl _ | with_reducible assumption | refine Ext.trans ?_ (by with_reducible assumption) | refine Ext.alloc ?_ _ _ | refine Ext.drew ?_ | refine Ext.drewN ?_ _)))) (rfl), by (repeat (first | with_reducible exact Ext.refl _ | with_reducible assumption | refine Ext.trans ?_ (by with_reducible assumption) | refine Ext.alloc ?_ _ _ | refine Ext.drew ?_ | refine Ext.drewN ?_ _))⟩
set_option maxRecDepth 100000 in
set_option maxHeartbeats 1600000 in
theorem yAlu27 (hO : Small O w) (_ha : NV O w va x) (_hb : NV O w vb y) (_hc : NV O w vc z) (hx : x < P256) (hy : y < P256) (hz : z < P256) : Calls Hvah.prog 238 #[.int .u8 27, va, vb, vc] w fun e w' => ∃ r, e = .returned r ∧ NV O w' r (alu 27 x y z) ∧ Ext w w' := by
  have d1 : dl x ≤ 2000 := Nat.le_trans (dl_P256' hx) (by decide)
  have d2 : dl y ≤ 2000 := Nat.le_trans (dl_P256' hy) (by decide)
  have d3 : dl z ≤ 2000 := Nat.le_trans (dl_P256' hz) (by decide)
  have d4 : dl (x + y) ≤ 2000 := Nat.le_trans (dl_add x y 32 (dl_P256' hx) (dl_P256' hy)) (by decide)
  have d5 : dl (x * y) ≤ 2000 := Nat.le_trans (dl_mul x y 32 32 (dl_P256' hx) (dl_P256' hy)) (by decide)
  have d6 : dl (aneg y) ≤ 2000 := Nat.le_trans (dl_P256' (aneg_lt y)) (by decide)
  have d7 : dl (asg x (x.testBit 255)) ≤ 2000 := Nat.le_trans (dl_P256' (asg_lt hx _)) (by decide)
  have d8 : dl (asg y (y.testBit 255)) ≤ 2000 := Nat.le_trans (dl_P256' (asg_lt hy _)) (by decide)
  go_enter Hvah.func238, Hvah.ntmps238
  go_wp2_with (first
    | (go_at_call 357; refine (yShifted 27 (by decide) (hO.ext (by (repeat (first | with_reducible exact Ext.refl _ | with_reducible assumption | refine Ext.trans ?_ (by with_reducible assumption) | refine Ext.alloc ?_ _ _ | refine Ext.drew ?_ | refine Ext.drewN ?_ _)))) (NV.ext (by with_reducible assumption) (by (repeat (first | with_reducible exact Ext.refl _ | with_reducible assumption | refine Ext.trans ?_ (by with_reducible assumption) | refine Ext.alloc ?_ _ _ | refine Ext.drew ?_ | refine Ext.drewN ?_ _)))) (NV.ext (by with_reducible assumption) (by (repeat (first | with_reducible exact Ext.refl _ | with_reducible assumption | refine Ext.trans ?_ (by with_reducible assumption) | refine Ext.alloc ?_ _ _ | refine Ext.drew ?_ | refine Ext.drewN ?_ _)))) hy).mono ?_; rintro e w1 ⟨r, rfl, hr, he⟩))
  go_ret
  exact ⟨_, rfl, NV.cast (NV.ext hr (by (repeat (first | with_reducible exact Ext.refl _ | with_reducible assumption | refine Ext.trans ?_ (by with_reducible assumption) | refine Ext.alloc ?_ _ _ | refine Ext.drew ?_ | refine Ext.drewN ?_ _)))) (rfl), by (repeat (first | with_reducible exact Ext.refl _ | with_reducible assumption | refine Ext.trans ?_ (by with_reducible assumption) | refine Ext.alloc ?_ _ _ | refine Ext.drew ?_ | refine Ext.drewN ?_ _))⟩
set_option maxRecDepth 100000 in
set_option maxHeartbeats 1600000 in
theorem yAlu28 (hO : Small O w) (_ha : NV O w va x) (_hb : NV O w vb y) (_hc : NV O w vc z) (hx : x < P256) (hy : y < P256) (hz : z < P256) : Calls Hvah.prog 238 #[.int .u8 28, va, vb, vc] w fun e w' => ∃ r, e = .returned r ∧ NV O w' r (alu 28 x y z) ∧ Ext w w' := by
  have d1 : dl x ≤ 2000 := Nat.le_trans (dl_P256' hx) (by decide)
  have d2 : dl y ≤ 2000 := Nat.le_trans (dl_P256' hy) (by decide)
  have d3 : dl z ≤ 2000 := Nat.le_trans (dl_P256' hz) (by decide)
  have d4 : dl (x + y) ≤ 2000 := Nat.le_trans (dl_add x y 32 (dl_P256' hx) (dl_P256' hy)) (by decide)
  have d5 : dl (x * y) ≤ 2000 := Nat.le_trans (dl_mul x y 32 32 (dl_P256' hx) (dl_P256' hy)) (by decide)
  have d6 : dl (aneg y) ≤ 2000 := Nat.le_trans (dl_P256' (aneg_lt y)) (by decide)
  have d7 : dl (asg x (x.testBit 255)) ≤ 2000 := Nat.le_trans (dl_P256' (asg_lt hx _)) (by decide)
  have d8 : dl (asg y (y.testBit 255)) ≤ 2000 := Nat.le_trans (dl_P256' (asg_lt hy _)) (by decide)
  go_enter Hvah.func238, Hvah.ntmps238
  go_wp2_with (first
    | (go_at_call 357; refine (yShifted 28 (by decide) (hO.ext (by (repeat (first | with_reducible exact Ext.refl _ | with_reducible assumption | refine Ext.trans ?_ (by with_reducible assumption) | refine Ext.alloc ?_ _ _ | refine Ext.drew ?_ | refine Ext.drewN ?_ _)))) (NV.ext (by with_reducible assumption) (by (repeat (first | with_reducible exact Ext.refl _ | with_reducible assumption | refine Ext.trans ?_ (by with_reducible assumption) | refine Ext.alloc ?_ _ _ | refine Ext.drew ?_ | refine Ext.drewN ?_ _)))) (NV.ext (by with_reducible assumption) (by (repeat (first | with_reducible exact Ext.refl _ | with_reducible assumption | refine Ext.trans ?_ (by with_reducible assumption) | refine Ext.alloc ?_ _ _ | refine Ext.drew ?_ | refine Ext.drewN ?_ _)))) hy).mono ?_; rintro e w1 ⟨r, rfl, hr, he⟩))
  go_ret
  exact ⟨_, rfl, NV.cast (NV.ext hr (by (repeat (first | with_reducible exact Ext.refl _ | with_reducible assumption | refine Ext.trans ?_ (by with_reducible assumption) | refine Ext.alloc ?_ _ _ | refine Ext.drew ?_ | refine Ext.drewN ?_ _)))) (alu28 x y z), by (repeat (first | with_reducible exact Ext.refl _ | with_reducible assumption | refine Ext.trans ?_ (by with_reducible assumption) | refine Ext.alloc ?_ _ _ | refine Ext.drew ?_ | refine Ext.drewN ?_ _))⟩
set_option maxRecDepth 100000 in
set_option maxHeartbeats 1600000 in
theorem yAlu29 (hO : Small O w) (_ha : NV O w va x) (_hb : NV O w vb y) (_hc : NV O w vc z) (hx : x < P256) (hy : y < P256) (hz : z < P256) : Calls Hvah.prog 238 #[.int .u8 29, va, vb, vc] w fun e w' => ∃ r, e = .returned r ∧ NV O w' r (alu 29 x y z) ∧ Ext w w' := by
  have d1 : dl x ≤ 2000 := Nat.le_trans (dl_P256' hx) (by decide)
  have d2 : dl y ≤ 2000 := Nat.le_trans (dl_P256' hy) (by decide)
  have d3 : dl z ≤ 2000 := Nat.le_trans (dl_P256' hz) (by decide)
  have d4 : dl (x + y) ≤ 2000 := Nat.le_trans (dl_add x y 32 (dl_P256' hx) (dl_P256' hy)) (by decide)
  have d5 : dl (x * y) ≤ 2000 := Nat.le_trans (dl_mul x y 32 32 (dl_P256' hx) (dl_P256' hy)) (by decide)
  have d6 : dl (aneg y) ≤ 2000 := Nat.le_trans (dl_P256' (aneg_lt y)) (by decide)
  have d7 : dl (asg x (x.testBit 255)) ≤ 2000 := Nat.le_trans (dl_P256' (asg_lt hx _)) (by decide)
  have d8 : dl (asg y (y.testBit 255)) ≤ 2000 := Nat.le_trans (dl_P256' (asg_lt hy _)) (by decide)
  go_enter Hvah.func238, Hvah.ntmps238
  go_wp2_with (first
    | (go_at_call 357; refine (yShifted 29 (by decide) (hO.ext (by (repeat (first | with_reducible exact Ext.refl _ | with_reducible assumption | refine Ext.trans ?_ (by with_reducible assumption) | refine Ext.alloc ?_ _ _ | refine Ext.drew ?_ | refine Ext.drewN ?_ _)))) (NV.ext (by with_reducible assumption) (by (repeat (first | with_reducible exact Ext.refl _ | with_reducible assumption | refine Ext.trans ?_ (by with_reducible assumption) | refine Ext.alloc ?_ _ _ | refine Ext.drew ?_ | refine Ext.drewN ?_ _)))) (NV.ext (by with_reducible assumption) (by (repeat (first | with_reducible exact Ext.refl _ | with_reducible assumption | refine Ext.trans ?_ (by with_reducible assumption) | refine Ext.alloc ?_ _ _ | refine Ext.drew ?_ | refine Ext.drewN ?_ _)))) hy).mono ?_; rintro e w1 ⟨r, rfl, hr, he⟩))
  go_ret
  exact ⟨_, rfl, NV.cast (NV.ext hr (by (repeat (first | with_reducible exact Ext.refl _ | with_reducible assumption | refine Ext.trans ?_ (by with_reducible assumption) | refine Ext.alloc ?_ _ _ | refine Ext.drew ?_ | refine Ext.drewN ?_ _)))) (alu29 x y z), by (repeat (first | with_reducible exact Ext.refl _ | with_reducible assumption | refine Ext.trans ?_ (by with_reducible assumption) | refine Ext.alloc ?_ _ _ | refine Ext.drew ?_ | refine Ext.drewN ?_ _))⟩
end
end Go.Proofs.YgvahwGreat
