import Derived.Test.YgvahwGreatPq0
namespace Go.Proofs.YgvahwGreat
open Go.RowKit
set_option linter.unusedSimpArgs false
set_option maxRecDepth 100000 in
set_option maxHeartbeats 6400000 in
theorem vAddrWord {a : Nat} (ha : a < 2 ^ 160) (w : World) : Calls Hvah.prog 83 #[.agg (av a)] w fun e w' => e = .returned (wv a) ∧ Ext w w' := by
  have l20 := len20 ha
  have x0 := be20 ha 0 (by decide)
  have x8 := be20 ha 8 (by decide)
  have x12 := be20 ha 12 (by decide)
  simp only [Nat.reduceSub, Nat.pow_zero, Nat.div_one, Nat.reducePow] at x0 x8 x12
  have ha2 : a < 1461501637330902918203684832716283019655932542976 := by rw [show (1461501637330902918203684832716283019655932542976 : Nat) = 2 ^ 160 by decide]; exact ha
  have hl0 : lim a 0 = be64 (beL 20 a) 12 := by unfold lim; rw [x12, Nat.pow_zero, Nat.div_one]
  have hl1 : lim a 1 = be64 (beL 20 a) 8 / 4294967296 + be64 (beL 20 a) 0 * 4294967296 % 18446744073709551616 := by
    unfold lim; rw [x8, x0, Nat.pow_one]; omega
  have hl2 : lim a 2 = be64 (beL 20 a) 0 / 4294967296 := by
    unfold lim; rw [x0, show (18446744073709551616 : Nat) ^ 2 = 340282366920938463463374607431768211456 by decide]; omega
  have hl3 : lim a 3 = 0 := by
    unfold lim; rw [Nat.div_eq_of_lt (by rw [show (18446744073709551616 : Nat) ^ 3 = 6277101735386680763835789423207666416102355444464034512896 by decide]; omega)]
  have hh : be64 (beL 20 a) 0 < 18446744073709551616 := by rw [x0]; omega
  have hm : be64 (beL 20 a) 8 < 18446744073709551616 := by rw [x8]; omega
  clear x0 x8 x12 ha2
  obtain ⟨lo, hlo⟩ : ∃ z, Hid (be64 (beL 20 a) 12 = z) := ⟨_, rfl⟩
  obtain ⟨mid, hmid⟩ : ∃ z, Hid (be64 (beL 20 a) 8 = z) := ⟨_, rfl⟩
  obtain ⟨hi, hhi⟩ : ∃ z, Hid (be64 (beL 20 a) 0 = z) := ⟨_, rfl⟩
  rw [hlo.out] at hl0
  rw [hmid.out, hhi.out] at hl1
  rw [hhi.out] at hl2 hh
  rw [hmid.out] at hm
  obtain ⟨m1, hm1⟩ : ∃ z, Hid (mid / 4294967296 = z) := ⟨_, rfl⟩
  obtain ⟨h32, hh32⟩ : ∃ z, Hid (hi * 4294967296 % 18446744073709551616 = z) := ⟨_, rfl⟩
  obtain ⟨l2, hl2e⟩ : ∃ z, Hid (hi / 4294967296 = z) := ⟨_, rfl⟩
  obtain ⟨l1, hl1e⟩ : ∃ z, Hid (m1 + h32 = z) := ⟨_, rfl⟩
  have f1 : (mid : Int) / 4294967296 = (m1 : Int) := by have := hm1.out; omega
  have f1' : (mid : Int) / 2 ^ 32 = (m1 : Int) := by rw [show (2 : Int) ^ 32 = 4294967296 by decide]; exact f1
  have hm1l : m1 < 4294967296 := by have := hm1.out; omega
  have f2 : bits .and .u64 (m1 : Int) 4294967295 = (m1 : Int) := by rw [and32 m1 (by omega), Nat.mod_eq_of_lt hm1l]
  have f3 : IntKind.u64.wrap ((hi : Int) * 4294967296) = (h32 : Int) := by have := hh32.out; rw [IntKind.wrap_u64]; omega
  have f3' : IntKind.u64.wrap ((hi : Int) * 2 ^ 32) = (h32 : Int) := by rw [show (2 : Int) ^ 32 = 4294967296 by decide]; exact f3
  have hh32l : h32 < 18446744073709551616 := by have := hh32.out; omega
  have hh32m : h32 % 4294967296 = 0 := by have := hh32.out; omega
  have f4 : bits .or .u64 (m1 : Int) (h32 : Int) = (l1 : Int) := by
    rw [u64_or_nat m1 h32 (by omega) hh32l]
    have h9 : m1 ||| h32 = m1 + h32 := by
      obtain ⟨q, hq⟩ : ∃ q, h32 = 2 ^ 32 * q := ⟨h32 / 4294967296, by rw [show (2 : Nat) ^ 32 = 4294967296 by decide]; omega⟩
      rw [hq, Nat.or_comm, ← Nat.two_pow_add_eq_or_of_lt (by rw [show (2 : Nat) ^ 32 = 4294967296 by decide]; exact hm1l)]
      omega
    rw [h9, hl1e.out]
  have f5 : (hi : Int) / 4294967296 = (l2 : Int) := by have := hl2e.out; omega
  have f5' : (hi : Int) / 2 ^ 32 = (l2 : Int) := by rw [show (2 : Int) ^ 32 = 4294967296 by decide]; exact f5
  have hwv : Value.agg #[.int .u64 (lo : Int), .int .u64 (l1 : Int), .int .u64 (l2 : Int), .int .u64 0] = wv a := by
    rw [show wv a = .agg #[.int .u64 (lim a 0 : Nat), .int .u64 (lim a 1 : Nat), .int .u64 (lim a 2 : Nat), .int .u64 (lim a 3 : Nat)] from rfl, hl0, hl1, hl2, hl3, hm1.out, hh32.out, hl1e.out, hl2e.out]
    rfl
  have hwH : Hid (_ = _) := hwv
  clear hl0 hl1 hl2 hl3 hwv
  go_enter Hvah.func83, Hvah.ntmps83
  go_upto_region 1 with (first | ((with_reducible (refine Veil.out ?_; apply wl_boxA (x := Operand.tmp 0))); (case hx => rfl); (case hn => exact ha); rintro B1 W1 c1 e1 b1 a1 g1) | ((with_reducible (refine Veil.out ?_; apply wl_allocW)); rintro R W2 c2 e2 b2 _ g2))
  have HB := fun W off (ho : off ≤ 12) (hW : Ext W1 W) => mBE64L B1 0 20 20 off (beL 20 a) W l20 (digits_beL _ _) (by omega) (Nat.le_refl _) (by decide) (fun i h => by
    rw [Nat.zero_add, (b1.ext hW).cell (by omega)]
    have h9 := aat_at a1 ha i (by omega)
    rw [Nat.zero_add] at h9
    rw [h9]
    simp [List.getD_eq_getElem?_getD, h])
  have HB0 := fun W hW => HB W 0 (by decide) hW
  have HB8 := fun W hW => HB W 8 (by decide) hW
  have HB12 := fun W hW => HB W 12 (by decide) hW
  rw [hhi.out] at HB0
  rw [hmid.out] at HB8
  rw [hlo.out] at HB12
  clear HB hhi hmid hlo hl2e hl1e hh32 hm1
  have gRw : w.heap.size ≤ R := Nat.le_trans e1.size g2
  have hwv := hwH.out
  go_wp2_with (first | (go_at_call_of 165 (Value.int .i64 0); refine (HB0 _ (by (repeat (first | with_reducible exact Ext.refl _ | with_reducible assumption | refine Ext.trans ?_ (by with_reducible assumption) | refine Ext.alloc ?_ _ _ | refine Ext.drew ?_ | refine Ext.drewN ?_ _)))).mono ?_; rintro e w1 ⟨rfl, he⟩) | (go_at_call_of 165 (Value.int .i64 8); refine (HB8 _ (by (repeat (first | with_reducible exact Ext.refl _ | with_reducible assumption | refine Ext.trans ?_ (by with_reducible assumption) | refine Ext.alloc ?_ _ _ | refine Ext.drew ?_ | refine Ext.drewN ?_ _)))).mono ?_; rintro e w1 ⟨rfl, he⟩) | (go_at_call_of 165 (Value.int .i64 12); refine (HB12 _ (by (repeat (first | with_reducible exact Ext.refl _ | with_reducible assumption | refine Ext.trans ?_ (by with_reducible assumption) | refine Ext.alloc ?_ _ _ | refine Ext.drew ?_ | refine Ext.drewN ?_ _)))).mono ?_; rintro e w1 ⟨rfl, he⟩) | ((with_reducible (refine Veil.out ?_; apply wl_buildV (hb := b66_3 lo l1 l2))); (case he => first | rfl | simp [Act.eval])) | ((with_reducible (refine Veil.out ?_; apply wl_storeWB (v := a))); (case hx => rfl); (case hy => exact hwv); (case hB => exact b2.ext (by (repeat (first | with_reducible exact Ext.refl _ | with_reducible assumption | refine Ext.trans ?_ (by with_reducible assumption) | refine Ext.alloc ?_ _ _ | refine Ext.drew ?_ | refine Ext.drewN ?_ _)))); (case hi => decide); rintro W9 c9 b9 a9 _ m9))
  refine post_row rt66 (rowOf c9 0 4) (rowOf_size _ _ _) rfl rfl (b9.rowIn (by decide)) rfl ?_
  rw [wat_row a9]
  exact ⟨rfl, Ext.trans_mod (by (repeat (first | with_reducible exact Ext.refl _ | with_reducible assumption | refine Ext.trans ?_ (by with_reducible assumption) | refine Ext.alloc ?_ _ _ | refine Ext.drew ?_ | refine Ext.drewN ?_ _))) m9 (fun q hq => by have hq2 : q = R := hq; rw [hq2]; exact gRw)⟩
end Go.Proofs.YgvahwGreat
