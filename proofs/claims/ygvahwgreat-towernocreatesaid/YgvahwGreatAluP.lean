import Derived.Test.YgvahwGreatAbs
namespace Go.Proofs.YgvahwGreat
theorem val_digit : ∀ (l : List Nat) (_ : Digits l) (i : Nat), l.getD i 0 = val l / 256 ^ i % 256
  | [], _, i => by simp [val]
  | d :: l, hd, 0 => by
    have := hd d (List.mem_cons_self ..)
    simp [val]; omega
  | d :: l, hd, i + 1 => by
    have h1 := hd d (List.mem_cons_self ..)
    have ih := val_digit l (fun e he => hd e (List.mem_cons_of_mem _ he)) i
    rw [List.getD_cons_succ, ih, val, Nat.pow_succ, Nat.mul_comm (256 ^ i), ← Nat.div_div_eq_div_mul]
    congr 2
    omega
/-- The low n digits of what f lays. -/
def dgL (f : Nat → Nat) (n : Nat) : List Nat := (List.range n).map f
theorem dgL_succ (f : Nat → Nat) (n : Nat) : dgL f (n + 1) = dgL f n ++ [f n] := by simp [dgL, List.range_succ]
theorem dgL_len (f : Nat → Nat) (n : Nat) : (dgL f n).length = n := by simp [dgL]
theorem val_dgL (x : Nat) : ∀ n, val (dgL (fun i => x / 256 ^ i % 256) n) = x % 256 ^ n
  | 0 => by simp [dgL, val, Nat.mod_one]
  | n + 1 => by
    rw [dgL_succ, val_append, val_dgL x n, dgL_len]
    simp only [val, Nat.mul_zero, Nat.add_zero]
    rw [Nat.pow_succ, Nat.mod_mul]
theorem val_dgN (x : Nat) : ∀ n, val (dgL (fun i => 255 - x / 256 ^ i % 256) n) + x % 256 ^ n = 256 ^ n - 1
  | 0 => by simp [dgL, val, Nat.mod_one]
  | n + 1 => by
    have ih := val_dgN x n
    rw [dgL_succ, val_append, dgL_len]
    simp only [val, Nat.mul_zero, Nat.add_zero]
    rw [Nat.pow_succ, Nat.mod_mul]
    have h1 : x / 256 ^ n % 256 < 256 := Nat.mod_lt _ (by decide)
    have h2 : 256 ^ n * (255 - x / 256 ^ n % 256) + 256 ^ n * (x / 256 ^ n % 256) = 256 ^ n * 255 := by rw [← Nat.mul_add]; congr 1; omega
    have h3 : 0 < 256 ^ n := Nat.pow_pos (by decide)
    omega
theorem byte_and (x y i : Nat) : (x &&& y) / 256 ^ i % 256 = (x / 256 ^ i % 256) &&& (y / 256 ^ i % 256) := by
  rw [show (256 : Nat) ^ i = 2 ^ (8 * i) by rw [Nat.pow_mul]]
  rw [← Nat.shiftRight_eq_div_pow, ← Nat.shiftRight_eq_div_pow, ← Nat.shiftRight_eq_div_pow, Nat.shiftRight_and_distrib, show (256 : Nat) = 2 ^ 8 from rfl, Nat.and_mod_two_pow]
theorem byte_or (x y i : Nat) : (x ||| y) / 256 ^ i % 256 = (x / 256 ^ i % 256) ||| (y / 256 ^ i % 256) := by
  rw [show (256 : Nat) ^ i = 2 ^ (8 * i) by rw [Nat.pow_mul]]
  rw [← Nat.shiftRight_eq_div_pow, ← Nat.shiftRight_eq_div_pow, ← Nat.shiftRight_eq_div_pow, Nat.shiftRight_or_distrib, show (256 : Nat) = 2 ^ 8 from rfl, Nat.or_mod_two_pow]
theorem byte_xor (x y i : Nat) : (x ^^^ y) / 256 ^ i % 256 = (x / 256 ^ i % 256) ^^^ (y / 256 ^ i % 256) := by
  rw [show (256 : Nat) ^ i = 2 ^ (8 * i) by rw [Nat.pow_mul]]
  rw [← Nat.shiftRight_eq_div_pow, ← Nat.shiftRight_eq_div_pow, ← Nat.shiftRight_eq_div_pow, Nat.shiftRight_xor_distrib, show (256 : Nat) = 2 ^ 8 from rfl, Nat.xor_mod_two_pow]
/-- The digit that bitwise lays. -/
def bwd (o x y : Nat) : Nat := if o = 22 then x &&& y else if o = 23 then x ||| y else if o = 24 then x ^^^ y else 255 - x
/-- What bitwise gives. -/
def bitW (o x y : Nat) : Nat := if o = 22 then x &&& y else if o = 23 then x ||| y else if o = 24 then x ^^^ y else P256 - 1 - x
theorem bwd_lt (o x y : Nat) (hx : x < 256) (hy : y < 256) : bwd o x y < 256 := by
  unfold bwd
  split
  · exact Nat.lt_of_le_of_lt Nat.and_le_left hx
  · split
    · exact Nat.or_lt_two_pow (n := 8) hx hy
    · split
      · exact Nat.xor_lt_two_pow (n := 8) hx hy
      · omega
theorem P256_32 : P256 = 256 ^ 32 := P256_eq
theorem bitw_val (o x y : Nat) (hx : x < P256) (hy : y < P256) : val (dgL (fun i => bwd o (x / 256 ^ i % 256) (y / 256 ^ i % 256)) 32) = bitW o x y := by
  have hp : P256 = 2 ^ 256 := rfl
  unfold bwd bitW
  split
  · rw [show (fun i => (x / 256 ^ i % 256) &&& (y / 256 ^ i % 256)) = fun i => (x &&& y) / 256 ^ i % 256 from funext fun i => (byte_and x y i).symm, val_dgL, Nat.mod_eq_of_lt]
    rw [← P256_32]
    exact Nat.lt_of_le_of_lt Nat.and_le_left hx
  · split
    · rw [show (fun i => (x / 256 ^ i % 256) ||| (y / 256 ^ i % 256)) = fun i => (x ||| y) / 256 ^ i % 256 from funext fun i => (byte_or x y i).symm, val_dgL, Nat.mod_eq_of_lt]
      rw [← P256_32]
      exact Nat.or_lt_two_pow (n := 256) hx hy
    · split
      · rw [show (fun i => (x / 256 ^ i % 256) ^^^ (y / 256 ^ i % 256)) = fun i => (x ^^^ y) / 256 ^ i % 256 from funext fun i => (byte_xor x y i).symm, val_dgL, Nat.mod_eq_of_lt]
        rw [← P256_32]
        exact Nat.xor_lt_two_pow (n := 256) hx hy
      · have := val_dgN x 32
        rw [← P256_32, Nat.mod_eq_of_lt hx] at this
        omega
/-- The exponent's bits from the top down. -/
theorem pow_bit (a e k : Nat) : (a ^ (e / 2 ^ (k + 1)) * a ^ (e / 2 ^ (k + 1))) * (if e.testBit k then a else 1) = a ^ (e / 2 ^ k) := by
  have h : e / 2 ^ k = 2 * (e / 2 ^ (k + 1)) + (e / 2 ^ k) % 2 := by
    rw [Nat.pow_succ, ← Nat.div_div_eq_div_mul]; omega
  have ht : e.testBit k = decide ((e / 2 ^ k) % 2 = 1) := by
    rw [Nat.testBit_eq_decide_div_mod_eq]
  rw [ht]
  conv => rhs; rw [h, Nat.pow_add, Nat.pow_mul, Nat.pow_two, Nat.mul_pow]
  rcases Nat.mod_two_eq_zero_or_one (e / 2 ^ k) with q | q <;> simp [q]
theorem tb255 (x : Nat) (hx : x < P256) : x.testBit 255 = negW x := by
  unfold negW
  rw [Nat.testBit_eq_decide_div_mod_eq, Bool.eq_iff_iff, decide_eq_true_iff, decide_eq_true_iff]
  have hp : P256 = 2 * 2 ^ 255 := by decide
  rw [hp] at hx ⊢
  generalize 2 ^ 255 = Q at *
  have hq : 0 < Q := by
    rcases Nat.eq_zero_or_pos Q with h | h
    · subst h; simp at hx
    · exact h
  have : x / Q < 2 := (Nat.div_lt_iff_lt_mul hq).2 (by omega)
  constructor
  · intro h
    have h1 : x / Q = 1 := by
      generalize x / Q = z at *
      omega
    have := Nat.div_mul_le_self x Q
    rw [h1] at this; omega
  · intro h
    have h1 : 1 ≤ x / Q := (Nat.le_div_iff_mul_le hq).2 (by omega)
    generalize x / Q = z at *
    omega
theorem asg_tb (x : Nat) (hx : x < P256) : asg x (x.testBit 255) = amag x := by
  rw [tb255 x hx]; rfl
theorem sext_tb (k x : Nat) (hk : k < 31) : sextW k x = (if x.testBit (8 * k + 7) then x % 2 ^ (8 * k + 8) + (P256 - 2 ^ (8 * k + 8)) else x % 2 ^ (8 * k + 8)) := by
  unfold sextW
  rw [if_pos hk]
  have hb : x.testBit (8 * k + 7) = decide (¬ x % 2 ^ (8 * k + 8) < 2 ^ (8 * k + 7)) := by
    rw [Nat.testBit_eq_decide_div_mod_eq, show x % 2 ^ (8 * k + 8) = x % (2 ^ (8 * k + 7) * 2) from rfl, Nat.mod_mul]
    rw [Bool.eq_iff_iff, decide_eq_true_iff, decide_eq_true_iff]
    have hq : 0 < 2 ^ (8 * k + 7) := Nat.pow_pos (by decide)
    have hm : x % 2 ^ (8 * k + 7) < 2 ^ (8 * k + 7) := Nat.mod_lt _ hq
    generalize 2 ^ (8 * k + 7) = Q at *
    rcases Nat.mod_two_eq_zero_or_one (x / Q) with h | h
    · rw [h]; simp; omega
    · rw [h]; simp
  rw [hb]
  by_cases h : x % 2 ^ (8 * k + 8) < 2 ^ (8 * k + 7) <;> simp [h]
end Go.Proofs.YgvahwGreat
