import Derived.Test.YgvahwGreatNat
namespace Go.Proofs.YgvahwGreat
open Go.RowKit

theorem add64x (x y c : Int) (hx : 0 ≤ x) (hy : 0 ≤ y) (hc0 : 0 ≤ c) (hc : c ≤ 1) (w : World) : (callFunc 254 #[.int .u64 x, .int .u64 y, .int .u64 c]).run Hvah.prog w =
    .ok (.value (.tuple #[.int .u64 ((x + y + c) % 18446744073709551616), .int .u64 ((x + y + c) / 18446744073709551616)])) w := by
  rw [run_callFunc_extern Hvah.func254 (by kernel_rfl) (by kernel_rfl) (by kernel_rfl) (e := add64Entry) (by kernel_rfl), run_add64 x y c hx hy hc0 hc]
  simp only [Result.andThen]

/-- The model's entry for math/bits.Sub64. -/
def sub64Entry : Array Value → Sem Value := fun args => do
  let (x, y, b) ← Extern.MathBitsCarry.three "Sub64" args
  pure (Extern.MathBitsCarry.pair ((x + Extern.MathBitsCarry.m64 - y - b) % Extern.MathBitsCarry.m64) (if x < y + b then 1 else 0))
theorem run_sub64 (x y b : Nat) (hb : b ≤ 1) (w : World) :
    (sub64Entry #[.int .u64 x, .int .u64 y, .int .u64 b]).run Hvah.prog w =
      .ok (.tuple #[.int .u64 (((x + 18446744073709551616 - y - b) % 18446744073709551616 : Nat) : Int), .int .u64 ((if x < y + b then 1 else 0 : Nat) : Int)]) w := by
  have : b = 0 ∨ b = 1 := by omega
  rcases this with rfl | rfl <;> rfl
theorem sub64x (x y b : Nat) (hb : b ≤ 1) (w : World) : (callFunc 363 #[.int .u64 x, .int .u64 y, .int .u64 b]).run Hvah.prog w =
    .ok (.value (.tuple #[.int .u64 (((x + 18446744073709551616 - y - b) % 18446744073709551616 : Nat) : Int), .int .u64 ((if x < y + b then 1 else 0 : Nat) : Int)])) w := by
  rw [run_callFunc_extern Hvah.func363 (by kernel_rfl) (by kernel_rfl) (by kernel_rfl) (e := sub64Entry) (by kernel_rfl), run_sub64 x y b hb]
  simp only [Result.andThen]

/-- num.Add64: s + k·2^64 = x + y + c. -/
theorem mAdd64 (x y c : Nat) (hx : x < 18446744073709551616) (hy : y < 18446744073709551616) (hc : c ≤ 1) (w : World) :
    Calls Hvah.prog 178 #[.int .u64 x, .int .u64 y, .int .u64 c] w fun e w' => ∃ s k : Nat, e = .returned (.tuple #[.int .u64 s, .int .u64 k]) ∧ s < 18446744073709551616 ∧ k ≤ 1 ∧ Hid (s + 18446744073709551616 * k = x + y + c) ∧ w' = w := by
  have hr := add64x x y c (by omega) (by omega) (by omega) (by omega)
  go_enter Hvah.func178, Hvah.ntmps178
  go_wp2_with (simp only [hr])
  go_ret2
  exact ⟨(x + y + c) % 18446744073709551616, (x + y + c) / 18446744073709551616, rfl, by omega, by omega, by unfold Hid; omega, rfl⟩

/-- num.Sub64: d + y + b = x + k·2^64. -/
theorem mSub64 (x y b : Nat) (hx : x < 18446744073709551616) (hy : y < 18446744073709551616) (hb : b ≤ 1) (w : World) :
    Calls Hvah.prog 255 #[.int .u64 x, .int .u64 y, .int .u64 b] w fun e w' => ∃ d k : Nat, e = .returned (.tuple #[.int .u64 d, .int .u64 k]) ∧ d < 18446744073709551616 ∧ k ≤ 1 ∧ Hid (d + y + b = x + 18446744073709551616 * k) ∧ w' = w := by
  have hr := sub64x x y b hb
  obtain ⟨k, hk⟩ : ∃ k : Nat, (if x < y + b then 1 else 0 : Nat) = k := ⟨_, rfl⟩
  rw [hk] at hr
  have hk1 : k ≤ 1 ∧ (x + 18446744073709551616 - y - b) % 18446744073709551616 + y + b = x + 18446744073709551616 * k := by
    subst hk; split <;> omega
  have HK : Hid (_ ∧ _) := hk1
  clear hk hk1
  obtain ⟨d, hd⟩ : ∃ d : Nat, (x + 18446744073709551616 - y - b) % 18446744073709551616 = d := ⟨_, rfl⟩
  rw [hd] at hr HK
  have hd1 : d < 18446744073709551616 := by omega
  clear hd
  go_enter Hvah.func255, Hvah.ntmps255
  go_wp2_with (simp only [hr])
  go_ret2
  exact ⟨d, k, rfl, hd1, HK.out.1, HK.out.2, rfl⟩

theorem mask32 (n : Nat) (h : n < 18446744073709551616) : bits .and .u64 (n : Int) 4294967295 = ((n % 4294967296 : Nat) : Int) := by
  rw [show (4294967295 : Int) = ((4294967295 : Nat) : Int) from rfl, u64_and_nat n 4294967295 h (by decide)]
  congr 1
  exact Nat.and_two_pow_sub_one_eq_mod n 32

theorem mul_parts (X0 X1 Y0 Y1 : Nat) : (X0 + 4294967296 * X1) * (Y0 + 4294967296 * Y1) = X0 * Y0 + 4294967296 * (X1 * Y0 + X0 * Y1) + 18446744073709551616 * (X1 * Y1) := by
  have e : (18446744073709551616 : Nat) = 4294967296 * 4294967296 := by decide
  rw [e]
  simp only [Nat.add_mul, Nat.mul_add, Nat.mul_assoc, Nat.mul_left_comm X0 4294967296, Nat.mul_left_comm X1 4294967296]
  omega

theorem mul64_hi (x y : Nat) (hx : x < 18446744073709551616) (hy : y < 18446744073709551616) :
    IntKind.u64.wrap (IntKind.u64.wrap (IntKind.u64.wrap ((x : Int) / 4294967296 * ((y : Int) / 4294967296)) + IntKind.u64.wrap (IntKind.u64.wrap ((x : Int) / 4294967296 * bits .and .u64 (y : Int) 4294967295) + IntKind.u64.wrap (bits .and .u64 (x : Int) 4294967295 * bits .and .u64 (y : Int) 4294967295) / 4294967296) / 4294967296) +
      IntKind.u64.wrap (bits .and .u64 (IntKind.u64.wrap (IntKind.u64.wrap ((x : Int) / 4294967296 * bits .and .u64 (y : Int) 4294967295) + IntKind.u64.wrap (bits .and .u64 (x : Int) 4294967295 * bits .and .u64 (y : Int) 4294967295) / 4294967296)) 4294967295 + IntKind.u64.wrap (bits .and .u64 (x : Int) 4294967295 * ((y : Int) / 4294967296))) / 4294967296)
    = ((x * y / 18446744073709551616 : Nat) : Int) := by
  rw [mask32 x hx, mask32 y hy]
  have ex : (x : Int) / 4294967296 = ((x / 4294967296 : Nat) : Int) := by omega
  have ey : (y : Int) / 4294967296 = ((y / 4294967296 : Nat) : Int) := by omega
  rw [ex, ey]
  have hxx : x = x % 4294967296 + 4294967296 * (x / 4294967296) := by omega
  have hyy : y = y % 4294967296 + 4294967296 * (y / 4294967296) := by omega
  have hprod := mul_parts (x % 4294967296) (x / 4294967296) (y % 4294967296) (y / 4294967296)
  rw [← hxx, ← hyy] at hprod
  rw [hprod]
  have b1 : x / 4294967296 ≤ 4294967295 := by omega
  have b2 : y / 4294967296 ≤ 4294967295 := by omega
  have b3 : x % 4294967296 ≤ 4294967295 := by omega
  have b4 : y % 4294967296 ≤ 4294967295 := by omega
  generalize x / 4294967296 = X1 at *
  generalize y / 4294967296 = Y1 at *
  generalize x % 4294967296 = X0 at *
  generalize y % 4294967296 = Y0 at *
  have m1 := Nat.mul_le_mul b3 b4
  have m2 := Nat.mul_le_mul b1 b4
  have m3 := Nat.mul_le_mul b3 b2
  have m4 := Nat.mul_le_mul b1 b2
  simp only [← Int.natCast_mul]
  generalize X0 * Y0 = p at *
  generalize X1 * Y0 = q at *
  generalize X0 * Y1 = r at *
  generalize X1 * Y1 = s at *
  have e1 : IntKind.u64.wrap (IntKind.u64.wrap (q : Int) + IntKind.u64.wrap (p : Int) / 4294967296) = ((q + p / 4294967296 : Nat) : Int) := by
    simp only [IntKind.wrap_u64]; omega
  have e2 : IntKind.u64.wrap (r : Int) = (r : Int) := by simp only [IntKind.wrap_u64]; omega
  rw [e1, mask32 _ (by omega), e2]
  simp only [IntKind.wrap_u64]
  omega

set_option maxHeartbeats 800000 in
/-- math/bits.Mul64. -/
theorem bMul64 (x y : Nat) (hx : x < 18446744073709551616) (hy : y < 18446744073709551616) (w : World) :
    Calls Hvah.prog 253 #[.int .u64 x, .int .u64 y] w fun e w' => ∃ h l : Nat, e = .returned (.tuple #[.int .u64 h, .int .u64 l]) ∧ h < 18446744073709551616 ∧ l < 18446744073709551616 ∧ Hid (l + 18446744073709551616 * h = x * y) ∧ w' = w := by
  go_enter Hvah.func253, Hvah.ntmps253
  go_wp2
  have h1 := mul64_hi x y hx hy
  have h2 : IntKind.u64.wrap ((x : Int) * y) = ((x * y % 18446744073709551616 : Nat) : Int) := by rw [IntKind.wrap_u64]; rfl
  have h3 : x * y / 18446744073709551616 < 18446744073709551616 := by
    apply Nat.div_lt_of_lt_mul
    exact Nat.mul_lt_mul_of_lt_of_lt hx hy
  go_ret2
  refine ⟨x * y / 18446744073709551616, x * y % 18446744073709551616, ?_, h3, Nat.mod_lt _ (by decide), Nat.mod_add_div _ _, rfl⟩
  rw [← h1, ← h2]; rfl

/-- num.Mul64. -/
theorem mMul64 (x y : Nat) (hx : x < 18446744073709551616) (hy : y < 18446744073709551616) (w : World) :
    Calls Hvah.prog 177 #[.int .u64 x, .int .u64 y] w fun e w' => ∃ h l : Nat, e = .returned (.tuple #[.int .u64 h, .int .u64 l]) ∧ h < 18446744073709551616 ∧ l < 18446744073709551616 ∧ Hid (l + 18446744073709551616 * h = x * y) ∧ w' = w := by
  go_enter Hvah.func177, Hvah.ntmps177
  go_wp2_with (go_at_call 253; refine (bMul64 x y hx hy w).mono ?_; rintro e w' ⟨h, l, rfl, hh, hl, hp, rfl⟩)
  go_ret2
  exact ⟨h, l, rfl, hh, hl, hp, rfl⟩

theorem mWords (n : Nat) (h : n < 18446744073709551616) (w : World) :
    Calls Hvah.prog 176 #[.int .u64 n] w fun e w' => e = .returned (.int .u64 ((n + 31) / 32 : Nat)) ∧ w' = w := by
  by_cases h0 : n % 32 = 0
  · go_enter Hvah.func176, Hvah.ntmps176
    go_wp2
    go_ret
    exact ⟨congrArg Ending.returned (int_eq (by omega)), rfl⟩
  · have h0' : ((n : Int) % 32 != 0) = true := by simp; omega
    go_enter Hvah.func176, Hvah.ntmps176
    go_wp2
    go_ret
    exact ⟨congrArg Ending.returned (int_eq (by omega)), rfl⟩
end Go.Proofs.YgvahwGreat
