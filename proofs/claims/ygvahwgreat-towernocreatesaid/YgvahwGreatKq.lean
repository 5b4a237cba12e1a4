import Derived.Test.YgvahwGreatKo
namespace Go.Proofs.YgvahwGreat
open Go.RowKit
set_option linter.unusedSimpArgs false

/-- Halves of 2k bits change places. -/
def swp (m k x : Nat) : Nat := (x / 2 ^ k &&& m) ||| ((x &&& m) * 2 ^ k % 18446744073709551616)
theorem swp_e (m k x : Nat) (P : Int) (hP : P = ((2 ^ k : Nat) : Int)) (hm : m < 18446744073709551616) (hx : x < 18446744073709551616) : bits .or .u64 (bits .and .u64 ((x : Int) / P) (m : Int)) (IntKind.u64.wrap (bits .and .u64 (x : Int) (m : Int) * P)) = ((swp m k x : Nat) : Int) := by
  subst hP
  have h1 : (x : Int) / ((2 ^ k : Nat) : Int) = ((x / 2 ^ k : Nat) : Int) := by push_cast; rfl
  have h2 : x / 2 ^ k < 18446744073709551616 := Nat.lt_of_le_of_lt (Nat.div_le_self _ _) hx
  rw [h1, u64_and_nat _ m h2 hm, u64_and_nat x m hx hm]
  have h3 : IntKind.u64.wrap (((x &&& m : Nat) : Int) * ((2 ^ k : Nat) : Int)) = (((x &&& m) * 2 ^ k % 18446744073709551616 : Nat) : Int) := by
    rw [← Int.natCast_mul, IntKind.wrap_u64]
    omega
  rw [h3, u64_or_nat _ _ (Nat.lt_of_le_of_lt Nat.and_le_left h2) (Nat.mod_lt _ (by decide))]
  rfl
theorem swp_lt (m k x : Nat) (hx : x < 18446744073709551616) : swp m k x < 18446744073709551616 := by
  have h2 : x / 2 ^ k < 18446744073709551616 := Nat.lt_of_le_of_lt (Nat.div_le_self _ _) hx
  have h3 : (x / 2 ^ k &&& m) < 2 ^ 64 := Nat.lt_of_le_of_lt Nat.and_le_left h2
  exact Nat.or_lt_two_pow (n := 64) h3 (Nat.mod_lt _ (by decide))
theorem swp_bit (m k x z : Nat) (hz : z < 64) : (swp m k x).testBit z = ((x.testBit (z + k) && m.testBit z) || (decide (k ≤ z) && (x.testBit (z - k) && m.testBit (z - k)))) := by
  unfold swp
  rw [Nat.testBit_or, Nat.testBit_and, Nat.testBit_div_two_pow, show (18446744073709551616 : Nat) = 2 ^ 64 by decide, Nat.testBit_mod_two_pow, Nat.mul_comm, Nat.testBit_two_pow_mul, Nat.testBit_and]
  simp [hz]
theorem m8_bit : ∀ z, z < 64 → (71777214294589695 : Nat).testBit z = decide (z / 8 % 2 = 0) := by decide +kernel
theorem m16_bit : ∀ z, z < 64 → (281470681808895 : Nat).testBit z = decide (z / 16 % 2 = 0) := by decide +kernel
/-- The bytes of 64 bits, turned round. -/
def turnN (x : Nat) : Nat := let y := swp 281470681808895 16 (swp 71777214294589695 8 x); (y / 2 ^ 32) ||| (y * 2 ^ 32 % 18446744073709551616)
theorem sw8_bit (x z : Nat) (hz : z < 64) : (swp 71777214294589695 8 x).testBit z = if z / 8 % 2 = 0 then x.testBit (z + 8) else x.testBit (z - 8) := by
  rw [swp_bit _ _ _ _ hz, m8_bit z hz, m8_bit (z - 8) (by omega)]
  by_cases h : z / 8 % 2 = 0
  · rw [if_pos h]
    by_cases h8 : 8 ≤ z
    · have : ¬ (z - 8) / 8 % 2 = 0 := by omega
      simp [h, this]
    · simp [h, h8]
  · rw [if_neg h]
    have h8 : 8 ≤ z := by omega
    have : (z - 8) / 8 % 2 = 0 := by omega
    simp [h, h8, this]
theorem sw16_bit (x z : Nat) (hz : z < 64) : (swp 281470681808895 16 x).testBit z = if z / 16 % 2 = 0 then x.testBit (z + 16) else x.testBit (z - 16) := by
  rw [swp_bit _ _ _ _ hz, m16_bit z hz, m16_bit (z - 16) (by omega)]
  by_cases h : z / 16 % 2 = 0
  · rw [if_pos h]
    by_cases h8 : 16 ≤ z
    · have : ¬ (z - 16) / 16 % 2 = 0 := by omega
      simp [h, this]
    · simp [h, h8]
  · rw [if_neg h]
    have h8 : 16 ≤ z := by omega
    have : (z - 16) / 16 % 2 = 0 := by omega
    simp [h, h8, this]
theorem turnN_lt (x : Nat) (hx : x < 18446744073709551616) : turnN x < 18446744073709551616 := by
  unfold turnN
  have h1 := swp_lt 281470681808895 16 _ (swp_lt 71777214294589695 8 x hx)
  exact Nat.or_lt_two_pow (n := 64) (Nat.lt_of_le_of_lt (Nat.div_le_self _ _) h1) (Nat.mod_lt _ (by decide))
theorem turnN_bit (x z : Nat) (hx : x < 18446744073709551616) (hz : z < 64) : (turnN x).testBit z = x.testBit (8 * (7 - z / 8) + z % 8) := by
  unfold turnN
  simp only []
  rw [Nat.testBit_or, Nat.testBit_div_two_pow, show (18446744073709551616 : Nat) = 2 ^ 64 by decide, Nat.testBit_mod_two_pow, Nat.mul_comm, Nat.testBit_two_pow_mul]
  by_cases h32 : z < 32
  · have h1 : ¬ 32 ≤ z := by omega
    simp only [hz, h1, decide_true, decide_false, Bool.false_and, Bool.and_false, Bool.or_false]
    rw [sw16_bit _ _ (by omega)]
    by_cases h16 : (z + 32) / 16 % 2 = 0
    · rw [if_pos h16, sw8_bit _ _ (by omega)]
      split <;> (congr 1; omega)
    · rw [if_neg h16, sw8_bit _ _ (by omega)]
      split <;> (congr 1; omega)
  · have h1 : 32 ≤ z := by omega
    have hy := swp_lt 281470681808895 16 _ (swp_lt 71777214294589695 8 x hx)
    have h0 : (swp 281470681808895 16 (swp 71777214294589695 8 x)).testBit (z + 32) = false := Nat.testBit_lt_two_pow (Nat.lt_of_lt_of_le hy (by rw [show (18446744073709551616 : Nat) = 2 ^ 64 by decide]; exact Nat.pow_le_pow_right (by decide) (by omega)))
    rw [h0]
    simp only [hz, h1, decide_true, Bool.true_and, Bool.false_or]
    rw [sw16_bit _ _ (by omega)]
    by_cases h16 : (z - 32) / 16 % 2 = 0
    · rw [if_pos h16, sw8_bit _ _ (by omega)]
      split <;> (congr 1; omega)
    · rw [if_neg h16, sw8_bit _ _ (by omega)]
      split <;> (congr 1; omega)
theorem turn_last (y : Nat) (hy : y < 18446744073709551616) : bits .or .u64 ((y : Int) / 4294967296) (IntKind.u64.wrap ((y : Int) * 4294967296)) = (((y / 2 ^ 32) ||| (y * 2 ^ 32 % 18446744073709551616) : Nat) : Int) := by
  have h1 : (y : Int) / 4294967296 = ((y / 2 ^ 32 : Nat) : Int) := by omega
  have h2 : IntKind.u64.wrap ((y : Int) * 4294967296) = ((y * 2 ^ 32 % 18446744073709551616 : Nat) : Int) := by rw [IntKind.wrap_u64]; omega
  rw [h1, h2, u64_or_nat _ _ (Nat.lt_of_le_of_lt (Nat.div_le_self _ _) hy) (Nat.mod_lt _ (by decide))]
set_option maxRecDepth 100000 in
set_option maxHeartbeats 6400000 in
theorem kTurned (x : Nat) (hx : x < 18446744073709551616) (w : World) : Calls Hvah.prog 252 #[.int .u64 x] w fun e w' => e = .returned (.int .u64 (turnN x : Nat)) ∧ w' = w := by
  have e1 : bits .or .u64 (bits .and .u64 ((x : Int) / 256) 71777214294589695) (IntKind.u64.wrap (bits .and .u64 (x : Int) 71777214294589695 * 256)) = ((swp 71777214294589695 8 x : Nat) : Int) := swp_e 71777214294589695 8 x 256 rfl (by decide) hx
  have l1 := swp_lt 71777214294589695 8 x hx
  obtain ⟨y, hy⟩ : ∃ y, Hid (swp 71777214294589695 8 x = y) := ⟨_, rfl⟩
  rw [hy.out] at e1 l1
  have e2 : bits .or .u64 (bits .and .u64 ((y : Int) / 65536) 281470681808895) (IntKind.u64.wrap (bits .and .u64 (y : Int) 281470681808895 * 65536)) = ((swp 281470681808895 16 y : Nat) : Int) := swp_e 281470681808895 16 y 65536 rfl (by decide) l1
  have l2 := swp_lt 281470681808895 16 y l1
  obtain ⟨z, hz⟩ : ∃ z, Hid (swp 281470681808895 16 y = z) := ⟨_, rfl⟩
  rw [hz.out] at e2 l2
  have e3 := turn_last z l2
  have et : turnN x = (z / 2 ^ 32) ||| (z * 2 ^ 32 % 18446744073709551616) := by unfold turnN; rw [hy.out, hz.out]
  rw [et]
  generalize (z / 2 ^ 32) ||| (z * 2 ^ 32 % 18446744073709551616) = T at *
  clear et
  go_enter Hvah.func252, Hvah.ntmps252
  go_wp2
  go_ret
  exact ⟨rfl, rfl⟩
end Go.Proofs.YgvahwGreat
