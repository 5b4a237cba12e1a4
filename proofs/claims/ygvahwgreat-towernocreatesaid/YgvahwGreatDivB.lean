import Derived.Test.YgvahwGreatDivA
namespace Go.Proofs.YgvahwGreat
open Go.RowKit

theorem and32 (x : Nat) (h : x < 18446744073709551616) : bits .and .u64 (x : Int) 4294967295 = ((x % 4294967296 : Nat) : Int) := by
  have := u64_and_nat x 4294967295 h (by omega)
  have e2 := Nat.and_two_pow_sub_one_eq_mod x 32
  rw [show (x % 4294967296) = x &&& 4294967295 from e2.symm]
  exact this
theorem divp (hi lo y : Nat) (hh : 0 < hi) (hhy : hi < y) (hl : lo < 18446744073709551616) (hy : y < 18446744073709551616) :
    ∃ s Y a b u l v1 v0 : Nat, s < 64 ∧ (64 - (Lib.bitLen y : Int)) = (s : Int) ∧ DivP hi lo y s Y a b u l v1 v0 := by
  have hy0 : y ≠ 0 := by omega
  have b1 := bl_lt y hy
  have b2 := bl_ge y hy0 hy
  have b3 := bl_pos y hy0 hy
  have b4 := bl_le64 y hy
  obtain ⟨s, hs⟩ : ∃ s, s = 64 - Lib.bitLen y := ⟨_, rfl⟩
  have hs64 : s < 64 := by omega
  have eB : (18446744073709551616 : Nat) = 2 ^ Lib.bitLen y * 2 ^ s := by rw [← Nat.pow_add, show Lib.bitLen y + s = 64 by omega]
  have eB2 : (18446744073709551616 : Nat) = 2 ^ (64 - s) * 2 ^ s := by rw [← Nat.pow_add, show 64 - s + s = 64 by omega]
  have hp : 0 < 2 ^ s := Nat.two_pow_pos s
  have hYlt : y * 2 ^ s < 18446744073709551616 := by rw [eB]; exact Nat.mul_lt_mul_of_pos_right b1 hp
  have hYge : 9223372036854775808 ≤ y * 2 ^ s := by
    have : 2 ^ Lib.bitLen y * 2 ^ s ≤ 2 * y * 2 ^ s := Nat.mul_le_mul_right _ b2
    rw [← eB, Nat.mul_assoc] at this
    omega
  have hhs : hi * 2 ^ s + 2 ^ s ≤ y * 2 ^ s := by
    have := Nat.mul_le_mul_right (2 ^ s) (Nat.succ_le_of_lt hhy)
    rw [Nat.succ_eq_add_one, Nat.add_mul, Nat.one_mul] at this
    exact this
  have hlo : lo / 2 ^ (64 - s) < 2 ^ s := by
    apply Nat.div_lt_of_lt_mul; rw [← eB2]; exact hl
  have hlo2 : lo * 2 ^ s = lo / 2 ^ (64 - s) * 18446744073709551616 + lo * 2 ^ s % 18446744073709551616 := by
    have e : lo * 2 ^ s / 18446744073709551616 = lo / 2 ^ (64 - s) := by
      rw [eB2, Nat.mul_div_mul_right _ _ hp]
    have := Nat.div_add_mod (lo * 2 ^ s) 18446744073709551616
    rw [e] at this
    omega
  refine ⟨s, y * 2 ^ s, y * 2 ^ s / 4294967296, y * 2 ^ s % 4294967296, hi * 2 ^ s + lo / 2 ^ (64 - s), lo * 2 ^ s % 18446744073709551616, lo * 2 ^ s % 18446744073709551616 / 4294967296, lo * 2 ^ s % 18446744073709551616 % 4294967296, hs64, by omega, ?_⟩
  have ey : ((y : Int) * 2 ^ s) = ((y * 2 ^ s : Nat) : Int) := by rw [Int.natCast_mul, Int.natCast_pow]; rfl
  have eh : ((hi : Int) * 2 ^ s) = ((hi * 2 ^ s : Nat) : Int) := by rw [Int.natCast_mul, Int.natCast_pow]; rfl
  have el : ((lo : Int) / 2 ^ (64 - s)) = ((lo / 2 ^ (64 - s) : Nat) : Int) := by rw [Int.natCast_ediv, Int.natCast_pow]; rfl
  refine ⟨?_, ?_, ?_, ?_, wrap_up lo s, ?_, ?_, ?_, ?_, ?_, ?_, ?_, ?_, ?_, ?_, rfl⟩
  · rw [ey, wrap_id _ hYlt]
  · generalize y * 2 ^ s = Y at *; omega
  · exact and32 _ hYlt
  · rw [eh, el, wrap_id _ (by omega), u64_or_nat _ _ (by omega) (Nat.lt_of_le_of_lt (Nat.div_le_self _ _) hl), or_low s hi _ hlo]
  · generalize lo * 2 ^ s % 18446744073709551616 = L at *; omega
  · exact and32 _ (Nat.mod_lt _ (by decide))
  · unfold Hid; generalize y * 2 ^ s = Y at *; omega
  · generalize y * 2 ^ s = Y at *; omega
  · generalize y * 2 ^ s = Y at *; omega
  · exact Nat.mod_lt _ (by decide)
  · omega
  · generalize lo * 2 ^ s = L at *; omega
  · exact Nat.mod_lt _ (by decide)
  · unfold Hid
    rw [Nat.add_mul, Nat.mul_right_comm hi]
    clear eB eB2
    generalize lo * 2 ^ s % 18446744073709551616 = L at *
    generalize lo * 2 ^ s = M at *
    generalize lo / 2 ^ (64 - s) = t at *
    generalize hi * 2 ^ s = h at *
    omega

theorem bDiv64 (hi lo y : Nat) (w : World) (hhy : hi < y) (hl : lo < 18446744073709551616) (hy : y < 18446744073709551616) :
    Calls Hvah.prog 416 #[.int .u64 hi, .int .u64 lo, .int .u64 y] w fun e w' => e = .returned (.tuple #[.int .u64 ((hi * 18446744073709551616 + lo) / y : Nat), .int .u64 ((hi * 18446744073709551616 + lo) % y : Nat)]) ∧ Ext w w' := by
  by_cases hh : 0 < hi
  · obtain ⟨s, Y, a, b, u, l, v1, v0, hs, he, D⟩ := divp hi lo y hh hhy hl hy
    refine bDiv64_hi hi lo y s Y a b u l v1 v0 w hh hhy hs (fun W => ?_) D
    have := Hvah.bits_LeadingZeros64 y W (by omega) (by omega)
    rw [show ((y : Int).toNat) = y by omega, he] at this
    exact this
  · have : hi = 0 := by omega
    subst this
    rw [Nat.zero_mul, Nat.zero_add]
    exact bDiv64_low lo y w hl hy hhy

set_option maxHeartbeats 400000 in
theorem mDiv64_yes (hi lo y : Nat) (w : World) (hhy : hi < y) (hl : lo < 18446744073709551616) (hy : y < 18446744073709551616) :
    Calls Hvah.prog 379 #[.int .u64 hi, .int .u64 lo, .int .u64 y] w fun e w' => ∃ q r : Nat, e = .returned (.tuple #[.int .u64 q, .int .u64 r, .bool true]) ∧ q < 18446744073709551616 ∧ r < y ∧ Hid (q * y + r = hi * 18446744073709551616 + lo) ∧ Ext w w' := by
  have H := fun W => bDiv64 hi lo y W hhy hl hy
  have h1 : (hi * 18446744073709551616 + lo) / y < 18446744073709551616 := Nat.div_lt_of_lt_mul (by omega)
  have h2 : (hi * 18446744073709551616 + lo) % y < y := Nat.mod_lt _ (by omega)
  have h3 : Hid ((hi * 18446744073709551616 + lo) / y * y + (hi * 18446744073709551616 + lo) % y = hi * 18446744073709551616 + lo) := by unfold Hid; rw [Nat.mul_comm]; exact Nat.div_add_mod _ _
  generalize (hi * 18446744073709551616 + lo) / y = q at *
  generalize (hi * 18446744073709551616 + lo) % y = r at *
  have hne : ((y : Int) == 0) = false := by simp; omega
  go_enter Hvah.func379, Hvah.ntmps379
  go_wp2_with (first | (go_at_call 416; refine (H _).mono ?_; rintro e w1 ⟨rfl, he⟩))
  go_ret3
  exact ⟨q, r, rfl, h1, h2, h3, he⟩
set_option maxHeartbeats 400000 in
theorem mDiv64_no (hi lo y : Nat) (w : World) (hhy : y ≤ hi) :
    Calls Hvah.prog 379 #[.int .u64 hi, .int .u64 lo, .int .u64 y] w fun e w' => e = .returned (.tuple #[.int .u64 0, .int .u64 0, .bool false]) ∧ w' = w := by
  by_cases hy0 : y = 0
  · subst hy0
    go_enter Hvah.func379, Hvah.ntmps379
    go_wp2
    go_ret3
    exact ⟨rfl, rfl⟩
  · have hne : ((y : Int) == 0) = false := by simp; omega
    go_enter Hvah.func379, Hvah.ntmps379
    go_wp2
    go_ret3
    exact ⟨rfl, rfl⟩
end Go.Proofs.YgvahwGreat
