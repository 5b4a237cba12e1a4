import Derived.Test.YgvahwGreatNumB
namespace Go.Proofs.YgvahwGreat
theorem rotl_bit (x k z : Nat) (hx : x < 18446744073709551616) (hk : k < 64) (hz : z < 64) : (rotl x k).testBit z = x.testBit ((z + (64 - k)) % 64) := by
  unfold rotl
  rw [Nat.testBit_or, show (18446744073709551616 : Nat) = 2 ^ 64 by decide, Nat.testBit_mod_two_pow, Nat.mul_comm, Nat.testBit_two_pow_mul, Nat.testBit_div_two_pow]
  by_cases h : k ≤ z
  · have h2 : x.testBit (64 - k + z) = false := Nat.testBit_lt_two_pow (Nat.lt_of_lt_of_le hx (by rw [show (18446744073709551616 : Nat) = 2 ^ 64 by decide]; exact Nat.pow_le_pow_right (by decide) (by omega)))
    rw [Nat.add_comm z (64 - k)]
    simp [hz, h]
    rw [show (64 - k + z) % 64 = z - k by omega, h2]; simp
  · simp [h, hz]
    congr 1
    rw [Nat.mod_eq_of_lt (by omega)]
/-- Lane i. -/
def kget (a : List Nat) (i : Nat) : Nat := a.getD i 0
/-- The complement of a lane. -/
def knot (x : Nat) : Nat := 18446744073709551615 - x
/-- chi of one place. -/
def kchi (x y z : Nat) : Nat := x ^^^ (knot y &&& z)
/-- The sum of a column. -/
def kcol (a : List Nat) (x : Nat) : Nat := kget a x ^^^ kget a (x + 5) ^^^ kget a (x + 10) ^^^ kget a (x + 15) ^^^ kget a (x + 20)
/-- What theta adds. -/
def kd (a : List Nat) (x : Nat) : Nat := kcol a ((x + 4) % 5) ^^^ rotl (kcol a ((x + 1) % 5)) 1
/-- A lane behind theta and rho. -/
def kb (a : List Nat) (i k : Nat) : Nat := rotl (kget a i ^^^ kd a (i % 5)) k
/-- theta, rho, pi. -/
def kB (a : List Nat) : List Nat := [kget a 0 ^^^ kd a 0, kb a 6 44, kb a 12 43, kb a 18 21, kb a 24 14, kb a 3 28, kb a 9 20, kb a 10 3, kb a 16 45, kb a 22 61, kb a 1 1, kb a 7 6, kb a 13 25, kb a 19 8, kb a 20 18, kb a 4 27, kb a 5 36, kb a 11 10, kb a 17 15, kb a 23 56, kb a 2 62, kb a 8 55, kb a 14 39, kb a 15 41, kb a 21 2]
/-- chi. -/
def kChi (b : List Nat) : List Nat := [kchi (kget b 0) (kget b 1) (kget b 2),
  kchi (kget b 1) (kget b 2) (kget b 3),
  kchi (kget b 2) (kget b 3) (kget b 4),
  kchi (kget b 3) (kget b 4) (kget b 0),
  kchi (kget b 4) (kget b 0) (kget b 1),
  kchi (kget b 5) (kget b 6) (kget b 7),
  kchi (kget b 6) (kget b 7) (kget b 8),
  kchi (kget b 7) (kget b 8) (kget b 9),
  kchi (kget b 8) (kget b 9) (kget b 5),
  kchi (kget b 9) (kget b 5) (kget b 6),
  kchi (kget b 10) (kget b 11) (kget b 12),
  kchi (kget b 11) (kget b 12) (kget b 13),
  kchi (kget b 12) (kget b 13) (kget b 14),
  kchi (kget b 13) (kget b 14) (kget b 10),
  kchi (kget b 14) (kget b 10) (kget b 11),
  kchi (kget b 15) (kget b 16) (kget b 17),
  kchi (kget b 16) (kget b 17) (kget b 18),
  kchi (kget b 17) (kget b 18) (kget b 19),
  kchi (kget b 18) (kget b 19) (kget b 15),
  kchi (kget b 19) (kget b 15) (kget b 16),
  kchi (kget b 20) (kget b 21) (kget b 22),
  kchi (kget b 21) (kget b 22) (kget b 23),
  kchi (kget b 22) (kget b 23) (kget b 24),
  kchi (kget b 23) (kget b 24) (kget b 20),
  kchi (kget b 24) (kget b 20) (kget b 21)]
def kround (a : List Nat) : List Nat := kChi (kB a)

theorem xor_lt64 {x y : Nat} (hx : x < 18446744073709551616) (hy : y < 18446744073709551616) : x ^^^ y < 18446744073709551616 := by
  rw [show (18446744073709551616 : Nat) = 2 ^ 64 by decide] at *
  exact Nat.xor_lt_two_pow hx hy
theorem rotl_lt64 (x k : Nat) (hx : x < 18446744073709551616) : rotl x k < 18446744073709551616 := by
  have h1 : x * 2 ^ k % 18446744073709551616 < 2 ^ 64 := Nat.mod_lt _ (by decide)
  have h2 : x / 2 ^ (64 - k) < 2 ^ 64 := Nat.lt_of_le_of_lt (Nat.div_le_self _ _) hx
  exact Nat.or_lt_two_pow h1 h2
theorem knot_bit (x z : Nat) (hx : x < 18446744073709551616) (hz : z < 64) : (knot x).testBit z = !x.testBit z := by
  unfold knot
  rw [show (18446744073709551615 : Nat) - x = 2 ^ 64 - (x + 1) by omega, Nat.testBit_two_pow_sub_succ hx]
  simp [hz]
theorem kchi_bit (x y v z : Nat) (hy : y < 18446744073709551616) (hz : z < 64) : (kchi x y v).testBit z = (x.testBit z ^^ (v.testBit z && !y.testBit z)) := by
  unfold kchi
  rw [Nat.testBit_xor, Nat.testBit_and, knot_bit y z hy hz, Bool.and_comm]
theorem kchi_lt (x y v : Nat) (hx : x < 18446744073709551616) (hv : v < 18446744073709551616) : kchi x y v < 18446744073709551616 := by
  unfold kchi
  refine xor_lt64 hx ?_
  exact Nat.lt_of_le_of_lt Nat.and_le_right hv
/-- All lanes are below 2^64. -/
def K64 (a : List Nat) : Prop := ∀ i, kget a i < 18446744073709551616
theorem kcol_lt {a : List Nat} (h : K64 a) (x : Nat) : kcol a x < 18446744073709551616 := xor_lt64 (xor_lt64 (xor_lt64 (xor_lt64 (h _) (h _)) (h _)) (h _)) (h _)
theorem kd_lt {a : List Nat} (h : K64 a) (x : Nat) : kd a x < 18446744073709551616 := xor_lt64 (kcol_lt h _) (rotl_lt64 _ _ (kcol_lt h _))
theorem kb_lt {a : List Nat} (h : K64 a) (i k : Nat) : kb a i k < 18446744073709551616 := rotl_lt64 _ _ (xor_lt64 (h _) (kd_lt h _))
theorem K64_list {l : List Nat} (h : ∀ x ∈ l, x < 18446744073709551616) : K64 l := fun i => by
  unfold kget
  rw [List.getD_eq_getElem?_getD]
  cases hc : l[i]? with
  | none => simp
  | some x => exact h x (List.mem_of_getElem? hc)
theorem kB_lt {a : List Nat} (h : K64 a) : K64 (kB a) := K64_list fun x hx => by
  simp only [kB, List.mem_cons, List.not_mem_nil, or_false] at hx
  rcases hx with h1 | h1 | h1 | h1 | h1 | h1 | h1 | h1 | h1 | h1 | h1 | h1 | h1 | h1 | h1 | h1 | h1 | h1 | h1 | h1 | h1 | h1 | h1 | h1 | h1 <;> subst h1
  · exact xor_lt64 (h _) (kd_lt h _)
  all_goals exact kb_lt h _ _
theorem kChi_lt {a : List Nat} (h : K64 a) : K64 (kChi a) := K64_list fun x hx => by
  simp only [kChi, List.mem_cons, List.not_mem_nil, or_false] at hx
  rcases hx with h1 | h1 | h1 | h1 | h1 | h1 | h1 | h1 | h1 | h1 | h1 | h1 | h1 | h1 | h1 | h1 | h1 | h1 | h1 | h1 | h1 | h1 | h1 | h1 | h1 <;> subst h1 <;> exact kchi_lt _ _ _ (h _) (h _)
theorem kround_lt {a : List Nat} (h : K64 a) : K64 (kround a) := kChi_lt (kB_lt h)

/-- The bits of the lanes. -/
def LB (a : List Nat) (A : Nat → Nat → Nat → Bool) : Prop := ∀ x y z, x < 5 → y < 5 → z < 64 → (kget a (5 * y + x)).testBit z = A x y z
def bC (A : Nat → Nat → Nat → Bool) (x z : Nat) : Bool := A x 0 z ^^ A x 1 z ^^ A x 2 z ^^ A x 3 z ^^ A x 4 z
def bTheta (A : Nat → Nat → Nat → Bool) (x y z : Nat) : Bool := A x y z ^^ (bC A ((x + 4) % 5) z ^^ bC A ((x + 1) % 5) ((z + 63) % 64))
/-- The offsets, lane x, y at 5y + x. -/
def kOff : List Nat := [0, 1, 62, 28, 27, 36, 44, 6, 55, 20, 3, 10, 43, 25, 39, 41, 45, 15, 21, 8, 18, 2, 61, 56, 14]
def bRho (A : Nat → Nat → Nat → Bool) (x y z : Nat) : Bool := A x y ((z + (64 - kOff.getD (5 * y + x) 0)) % 64)
def bPi (A : Nat → Nat → Nat → Bool) (x y z : Nat) : Bool := A ((x + 3 * y) % 5) x z
def bChi (A : Nat → Nat → Nat → Bool) (x y z : Nat) : Bool := A x y z ^^ (A ((x + 2) % 5) y z && !A ((x + 1) % 5) y z)
theorem kcol_bit {a : List Nat} {A : Nat → Nat → Nat → Bool} (h : LB a A) (x z : Nat) (hx : x < 5) (hz : z < 64) : (kcol a x).testBit z = bC A x z := by
  unfold kcol bC
  rw [Nat.testBit_xor, Nat.testBit_xor, Nat.testBit_xor, Nat.testBit_xor]
  have h0 := h x 0 z hx (by omega) hz
  have h1 := h x 1 z hx (by omega) hz
  have h2 := h x 2 z hx (by omega) hz
  have h3 := h x 3 z hx (by omega) hz
  have h4 := h x 4 z hx (by omega) hz
  rw [show 5 * 0 + x = x by omega] at h0
  rw [show 5 * 1 + x = x + 5 by omega] at h1
  rw [show 5 * 2 + x = x + 10 by omega] at h2
  rw [show 5 * 3 + x = x + 15 by omega] at h3
  rw [show 5 * 4 + x = x + 20 by omega] at h4
  rw [h0, h1, h2, h3, h4]
theorem kd_bit {a : List Nat} {A : Nat → Nat → Nat → Bool} (hl : K64 a) (h : LB a A) (x z : Nat) (hz : z < 64) : (kd a x).testBit z = (bC A ((x + 4) % 5) z ^^ bC A ((x + 1) % 5) ((z + 63) % 64)) := by
  unfold kd
  rw [Nat.testBit_xor, kcol_bit h _ _ (Nat.mod_lt _ (by decide)) hz, rotl_bit _ _ _ (kcol_lt hl _) (by decide) hz, kcol_bit h _ _ (Nat.mod_lt _ (by decide)) (Nat.mod_lt _ (by decide))]
theorem kth_bit {a : List Nat} {A : Nat → Nat → Nat → Bool} (hl : K64 a) (h : LB a A) (x y z : Nat) (hx : x < 5) (hy : y < 5) (hz : z < 64) : (kget a (5 * y + x) ^^^ kd a x).testBit z = bTheta A x y z := by
  rw [Nat.testBit_xor, h x y z hx hy hz, kd_bit hl h x z hz]; rfl
theorem kb_bit {a : List Nat} {A : Nat → Nat → Nat → Bool} (hl : K64 a) (h : LB a A) (x y z : Nat) (hx : x < 5) (hy : y < 5) (hz : z < 64) (hk : kOff.getD (5 * y + x) 0 < 64) : (kb a (5 * y + x) (kOff.getD (5 * y + x) 0)).testBit z = bRho (bTheta A) x y z := by
  unfold kb bRho
  rw [show (5 * y + x) % 5 = x by omega, rotl_bit _ _ _ (xor_lt64 (hl _) (kd_lt hl _)) hk hz, kth_bit hl h x y _ hx hy (Nat.mod_lt _ (by decide))]
theorem kg0 (x0 x1 x2 x3 x4 x5 x6 x7 x8 x9 x10 x11 x12 x13 x14 x15 x16 x17 x18 x19 x20 x21 x22 x23 x24 : Nat) : kget [x0, x1, x2, x3, x4, x5, x6, x7, x8, x9, x10, x11, x12, x13, x14, x15, x16, x17, x18, x19, x20, x21, x22, x23, x24] 0 = x0 := rfl
theorem kg1 (x0 x1 x2 x3 x4 x5 x6 x7 x8 x9 x10 x11 x12 x13 x14 x15 x16 x17 x18 x19 x20 x21 x22 x23 x24 : Nat) : kget [x0, x1, x2, x3, x4, x5, x6, x7, x8, x9, x10, x11, x12, x13, x14, x15, x16, x17, x18, x19, x20, x21, x22, x23, x24] 1 = x1 := rfl
theorem kg2 (x0 x1 x2 x3 x4 x5 x6 x7 x8 x9 x10 x11 x12 x13 x14 x15 x16 x17 x18 x19 x20 x21 x22 x23 x24 : Nat) : kget [x0, x1, x2, x3, x4, x5, x6, x7, x8, x9, x10, x11, x12, x13, x14, x15, x16, x17, x18, x19, x20, x21, x22, x23, x24] 2 = x2 := rfl
theorem kg3 (x0 x1 x2 x3 x4 x5 x6 x7 x8 x9 x10 x11 x12 x13 x14 x15 x16 x17 x18 x19 x20 x21 x22 x23 x24 : Nat) : kget [x0, x1, x2, x3, x4, x5, x6, x7, x8, x9, x10, x11, x12, x13, x14, x15, x16, x17, x18, x19, x20, x21, x22, x23, x24] 3 = x3 := rfl
theorem kg4 (x0 x1 x2 x3 x4 x5 x6 x7 x8 x9 x10 x11 x12 x13 x14 x15 x16 x17 x18 x19 x20 x21 x22 x23 x24 : Nat) : kget [x0, x1, x2, x3, x4, x5, x6, x7, x8, x9, x10, x11, x12, x13, x14, x15, x16, x17, x18, x19, x20, x21, x22, x23, x24] 4 = x4 := rfl
theorem kg5 (x0 x1 x2 x3 x4 x5 x6 x7 x8 x9 x10 x11 x12 x13 x14 x15 x16 x17 x18 x19 x20 x21 x22 x23 x24 : Nat) : kget [x0, x1, x2, x3, x4, x5, x6, x7, x8, x9, x10, x11, x12, x13, x14, x15, x16, x17, x18, x19, x20, x21, x22, x23, x24] 5 = x5 := rfl
theorem kg6 (x0 x1 x2 x3 x4 x5 x6 x7 x8 x9 x10 x11 x12 x13 x14 x15 x16 x17 x18 x19 x20 x21 x22 x23 x24 : Nat) : kget [x0, x1, x2, x3, x4, x5, x6, x7, x8, x9, x10, x11, x12, x13, x14, x15, x16, x17, x18, x19, x20, x21, x22, x23, x24] 6 = x6 := rfl
theorem kg7 (x0 x1 x2 x3 x4 x5 x6 x7 x8 x9 x10 x11 x12 x13 x14 x15 x16 x17 x18 x19 x20 x21 x22 x23 x24 : Nat) : kget [x0, x1, x2, x3, x4, x5, x6, x7, x8, x9, x10, x11, x12, x13, x14, x15, x16, x17, x18, x19, x20, x21, x22, x23, x24] 7 = x7 := rfl
theorem kg8 (x0 x1 x2 x3 x4 x5 x6 x7 x8 x9 x10 x11 x12 x13 x14 x15 x16 x17 x18 x19 x20 x21 x22 x23 x24 : Nat) : kget [x0, x1, x2, x3, x4, x5, x6, x7, x8, x9, x10, x11, x12, x13, x14, x15, x16, x17, x18, x19, x20, x21, x22, x23, x24] 8 = x8 := rfl
theorem kg9 (x0 x1 x2 x3 x4 x5 x6 x7 x8 x9 x10 x11 x12 x13 x14 x15 x16 x17 x18 x19 x20 x21 x22 x23 x24 : Nat) : kget [x0, x1, x2, x3, x4, x5, x6, x7, x8, x9, x10, x11, x12, x13, x14, x15, x16, x17, x18, x19, x20, x21, x22, x23, x24] 9 = x9 := rfl
theorem kg10 (x0 x1 x2 x3 x4 x5 x6 x7 x8 x9 x10 x11 x12 x13 x14 x15 x16 x17 x18 x19 x20 x21 x22 x23 x24 : Nat) : kget [x0, x1, x2, x3, x4, x5, x6, x7, x8, x9, x10, x11, x12, x13, x14, x15, x16, x17, x18, x19, x20, x21, x22, x23, x24] 10 = x10 := rfl
theorem kg11 (x0 x1 x2 x3 x4 x5 x6 x7 x8 x9 x10 x11 x12 x13 x14 x15 x16 x17 x18 x19 x20 x21 x22 x23 x24 : Nat) : kget [x0, x1, x2, x3, x4, x5, x6, x7, x8, x9, x10, x11, x12, x13, x14, x15, x16, x17, x18, x19, x20, x21, x22, x23, x24] 11 = x11 := rfl
theorem kg12 (x0 x1 x2 x3 x4 x5 x6 x7 x8 x9 x10 x11 x12 x13 x14 x15 x16 x17 x18 x19 x20 x21 x22 x23 x24 : Nat) : kget [x0, x1, x2, x3, x4, x5, x6, x7, x8, x9, x10, x11, x12, x13, x14, x15, x16, x17, x18, x19, x20, x21, x22, x23, x24] 12 = x12 := rfl
theorem kg13 (x0 x1 x2 x3 x4 x5 x6 x7 x8 x9 x10 x11 x12 x13 x14 x15 x16 x17 x18 x19 x20 x21 x22 x23 x24 : Nat) : kget [x0, x1, x2, x3, x4, x5, x6, x7, x8, x9, x10, x11, x12, x13, x14, x15, x16, x17, x18, x19, x20, x21, x22, x23, x24] 13 = x13 := rfl
theorem kg14 (x0 x1 x2 x3 x4 x5 x6 x7 x8 x9 x10 x11 x12 x13 x14 x15 x16 x17 x18 x19 x20 x21 x22 x23 x24 : Nat) : kget [x0, x1, x2, x3, x4, x5, x6, x7, x8, x9, x10, x11, x12, x13, x14, x15, x16, x17, x18, x19, x20, x21, x22, x23, x24] 14 = x14 := rfl
theorem kg15 (x0 x1 x2 x3 x4 x5 x6 x7 x8 x9 x10 x11 x12 x13 x14 x15 x16 x17 x18 x19 x20 x21 x22 x23 x24 : Nat) : kget [x0, x1, x2, x3, x4, x5, x6, x7, x8, x9, x10, x11, x12, x13, x14, x15, x16, x17, x18, x19, x20, x21, x22, x23, x24] 15 = x15 := rfl
theorem kg16 (x0 x1 x2 x3 x4 x5 x6 x7 x8 x9 x10 x11 x12 x13 x14 x15 x16 x17 x18 x19 x20 x21 x22 x23 x24 : Nat) : kget [x0, x1, x2, x3, x4, x5, x6, x7, x8, x9, x10, x11, x12, x13, x14, x15, x16, x17, x18, x19, x20, x21, x22, x23, x24] 16 = x16 := rfl
theorem kg17 (x0 x1 x2 x3 x4 x5 x6 x7 x8 x9 x10 x11 x12 x13 x14 x15 x16 x17 x18 x19 x20 x21 x22 x23 x24 : Nat) : kget [x0, x1, x2, x3, x4, x5, x6, x7, x8, x9, x10, x11, x12, x13, x14, x15, x16, x17, x18, x19, x20, x21, x22, x23, x24] 17 = x17 := rfl
theorem kg18 (x0 x1 x2 x3 x4 x5 x6 x7 x8 x9 x10 x11 x12 x13 x14 x15 x16 x17 x18 x19 x20 x21 x22 x23 x24 : Nat) : kget [x0, x1, x2, x3, x4, x5, x6, x7, x8, x9, x10, x11, x12, x13, x14, x15, x16, x17, x18, x19, x20, x21, x22, x23, x24] 18 = x18 := rfl
theorem kg19 (x0 x1 x2 x3 x4 x5 x6 x7 x8 x9 x10 x11 x12 x13 x14 x15 x16 x17 x18 x19 x20 x21 x22 x23 x24 : Nat) : kget [x0, x1, x2, x3, x4, x5, x6, x7, x8, x9, x10, x11, x12, x13, x14, x15, x16, x17, x18, x19, x20, x21, x22, x23, x24] 19 = x19 := rfl
theorem kg20 (x0 x1 x2 x3 x4 x5 x6 x7 x8 x9 x10 x11 x12 x13 x14 x15 x16 x17 x18 x19 x20 x21 x22 x23 x24 : Nat) : kget [x0, x1, x2, x3, x4, x5, x6, x7, x8, x9, x10, x11, x12, x13, x14, x15, x16, x17, x18, x19, x20, x21, x22, x23, x24] 20 = x20 := rfl
theorem kg21 (x0 x1 x2 x3 x4 x5 x6 x7 x8 x9 x10 x11 x12 x13 x14 x15 x16 x17 x18 x19 x20 x21 x22 x23 x24 : Nat) : kget [x0, x1, x2, x3, x4, x5, x6, x7, x8, x9, x10, x11, x12, x13, x14, x15, x16, x17, x18, x19, x20, x21, x22, x23, x24] 21 = x21 := rfl
theorem kg22 (x0 x1 x2 x3 x4 x5 x6 x7 x8 x9 x10 x11 x12 x13 x14 x15 x16 x17 x18 x19 x20 x21 x22 x23 x24 : Nat) : kget [x0, x1, x2, x3, x4, x5, x6, x7, x8, x9, x10, x11, x12, x13, x14, x15, x16, x17, x18, x19, x20, x21, x22, x23, x24] 22 = x22 := rfl
theorem kg23 (x0 x1 x2 x3 x4 x5 x6 x7 x8 x9 x10 x11 x12 x13 x14 x15 x16 x17 x18 x19 x20 x21 x22 x23 x24 : Nat) : kget [x0, x1, x2, x3, x4, x5, x6, x7, x8, x9, x10, x11, x12, x13, x14, x15, x16, x17, x18, x19, x20, x21, x22, x23, x24] 23 = x23 := rfl
theorem kg24 (x0 x1 x2 x3 x4 x5 x6 x7 x8 x9 x10 x11 x12 x13 x14 x15 x16 x17 x18 x19 x20 x21 x22 x23 x24 : Nat) : kget [x0, x1, x2, x3, x4, x5, x6, x7, x8, x9, x10, x11, x12, x13, x14, x15, x16, x17, x18, x19, x20, x21, x22, x23, x24] 24 = x24 := rfl
theorem kB_bit {a : List Nat} {A : Nat → Nat → Nat → Bool} (hl : K64 a) (h : LB a A) : LB (kB a) (bPi (bRho (bTheta A))) := fun x y z hx hy hz => by
  have H : ∀ u v, u < 5 → v < 5 → kOff.getD (5 * v + u) 0 < 64 → (kb a (5 * v + u) (kOff.getD (5 * v + u) 0)).testBit z = bRho (bTheta A) u v z := fun u v hu hv hk => kb_bit hl h u v z hu hv hz hk
  have H0 : (kget a 0 ^^^ kd a 0).testBit z = bRho (bTheta A) 0 0 z := by
    have := kth_bit hl h 0 0 z (by decide) (by decide) hz
    rw [show 5 * 0 + 0 = 0 from rfl] at this
    rw [this]; unfold bRho; rw [show (z + (64 - kOff.getD (5 * 0 + 0) 0)) % 64 = z by show (z + 64) % 64 = z; omega]
  unfold bPi
  have hx' : x = 0 ∨ x = 1 ∨ x = 2 ∨ x = 3 ∨ x = 4 := by omega
  have hy' : y = 0 ∨ y = 1 ∨ y = 2 ∨ y = 3 ∨ y = 4 := by omega
  rcases hx' with rfl | rfl | rfl | rfl | rfl <;> rcases hy' with rfl | rfl | rfl | rfl | rfl
  · rw [show kget (kB a) (5 * 0 + 0) = kget a 0 ^^^ kd a 0 from kg0 _ _ _ _ _ _ _ _ _ _ _ _ _ _ _ _ _ _ _ _ _ _ _ _ _]; exact H0
  · rw [show kget (kB a) (5 * 1 + 0) = kb a (5 * 0 + 3) (kOff.getD (5 * 0 + 3) 0) from kg5 _ _ _ _ _ _ _ _ _ _ _ _ _ _ _ _ _ _ _ _ _ _ _ _ _]; exact H 3 0 (by decide) (by decide) (by decide)
  · rw [show kget (kB a) (5 * 2 + 0) = kb a (5 * 0 + 1) (kOff.getD (5 * 0 + 1) 0) from kg10 _ _ _ _ _ _ _ _ _ _ _ _ _ _ _ _ _ _ _ _ _ _ _ _ _]; exact H 1 0 (by decide) (by decide) (by decide)
  · rw [show kget (kB a) (5 * 3 + 0) = kb a (5 * 0 + 4) (kOff.getD (5 * 0 + 4) 0) from kg15 _ _ _ _ _ _ _ _ _ _ _ _ _ _ _ _ _ _ _ _ _ _ _ _ _]; exact H 4 0 (by decide) (by decide) (by decide)
  · rw [show kget (kB a) (5 * 4 + 0) = kb a (5 * 0 + 2) (kOff.getD (5 * 0 + 2) 0) from kg20 _ _ _ _ _ _ _ _ _ _ _ _ _ _ _ _ _ _ _ _ _ _ _ _ _]; exact H 2 0 (by decide) (by decide) (by decide)
  · rw [show kget (kB a) (5 * 0 + 1) = kb a (5 * 1 + 1) (kOff.getD (5 * 1 + 1) 0) from kg1 _ _ _ _ _ _ _ _ _ _ _ _ _ _ _ _ _ _ _ _ _ _ _ _ _]; exact H 1 1 (by decide) (by decide) (by decide)
  · rw [show kget (kB a) (5 * 1 + 1) = kb a (5 * 1 + 4) (kOff.getD (5 * 1 + 4) 0) from kg6 _ _ _ _ _ _ _ _ _ _ _ _ _ _ _ _ _ _ _ _ _ _ _ _ _]; exact H 4 1 (by decide) (by decide) (by decide)
  · rw [show kget (kB a) (5 * 2 + 1) = kb a (5 * 1 + 2) (kOff.getD (5 * 1 + 2) 0) from kg11 _ _ _ _ _ _ _ _ _ _ _ _ _ _ _ _ _ _ _ _ _ _ _ _ _]; exact H 2 1 (by decide) (by decide) (by decide)
  · rw [show kget (kB a) (5 * 3 + 1) = kb a (5 * 1 + 0) (kOff.getD (5 * 1 + 0) 0) from kg16 _ _ _ _ _ _ _ _ _ _ _ _ _ _ _ _ _ _ _ _ _ _ _ _ _]; exact H 0 1 (by decide) (by decide) (by decide)
  · rw [show kget (kB a) (5 * 4 + 1) = kb a (5 * 1 + 3) (kOff.getD (5 * 1 + 3) 0) from kg21 _ _ _ _ _ _ _ _ _ _ _ _ _ _ _ _ _ _ _ _ _ _ _ _ _]; exact H 3 1 (by decide) (by decide) (by decide)
  · rw [show kget (kB a) (5 * 0 + 2) = kb a (5 * 2 + 2) (kOff.getD (5 * 2 + 2) 0) from kg2 _ _ _ _ _ _ _ _ _ _ _ _ _ _ _ _ _ _ _ _ _ _ _ _ _]; exact H 2 2 (by decide) (by decide) (by decide)
  · rw [show kget (kB a) (5 * 1 + 2) = kb a (5 * 2 + 0) (kOff.getD (5 * 2 + 0) 0) from kg7 _ _ _ _ _ _ _ _ _ _ _ _ _ _ _ _ _ _ _ _ _ _ _ _ _]; exact H 0 2 (by decide) (by decide) (by decide)
  · rw [show kget (kB a) (5 * 2 + 2) = kb a (5 * 2 + 3) (kOff.getD (5 * 2 + 3) 0) from kg12 _ _ _ _ _ _ _ _ _ _ _ _ _ _ _ _ _ _ _ _ _ _ _ _ _]; exact H 3 2 (by decide) (by decide) (by decide)
  · rw [show kget (kB a) (5 * 3 + 2) = kb a (5 * 2 + 1) (kOff.getD (5 * 2 + 1) 0) from kg17 _ _ _ _ _ _ _ _ _ _ _ _ _ _ _ _ _ _ _ _ _ _ _ _ _]; exact H 1 2 (by decide) (by decide) (by decide)
  · rw [show kget (kB a) (5 * 4 + 2) = kb a (5 * 2 + 4) (kOff.getD (5 * 2 + 4) 0) from kg22 _ _ _ _ _ _ _ _ _ _ _ _ _ _ _ _ _ _ _ _ _ _ _ _ _]; exact H 4 2 (by decide) (by decide) (by decide)
  · rw [show kget (kB a) (5 * 0 + 3) = kb a (5 * 3 + 3) (kOff.getD (5 * 3 + 3) 0) from kg3 _ _ _ _ _ _ _ _ _ _ _ _ _ _ _ _ _ _ _ _ _ _ _ _ _]; exact H 3 3 (by decide) (by decide) (by decide)
  · rw [show kget (kB a) (5 * 1 + 3) = kb a (5 * 3 + 1) (kOff.getD (5 * 3 + 1) 0) from kg8 _ _ _ _ _ _ _ _ _ _ _ _ _ _ _ _ _ _ _ _ _ _ _ _ _]; exact H 1 3 (by decide) (by decide) (by decide)
  · rw [show kget (kB a) (5 * 2 + 3) = kb a (5 * 3 + 4) (kOff.getD (5 * 3 + 4) 0) from kg13 _ _ _ _ _ _ _ _ _ _ _ _ _ _ _ _ _ _ _ _ _ _ _ _ _]; exact H 4 3 (by decide) (by decide) (by decide)
  · rw [show kget (kB a) (5 * 3 + 3) = kb a (5 * 3 + 2) (kOff.getD (5 * 3 + 2) 0) from kg18 _ _ _ _ _ _ _ _ _ _ _ _ _ _ _ _ _ _ _ _ _ _ _ _ _]; exact H 2 3 (by decide) (by decide) (by decide)
  · rw [show kget (kB a) (5 * 4 + 3) = kb a (5 * 3 + 0) (kOff.getD (5 * 3 + 0) 0) from kg23 _ _ _ _ _ _ _ _ _ _ _ _ _ _ _ _ _ _ _ _ _ _ _ _ _]; exact H 0 3 (by decide) (by decide) (by decide)
  · rw [show kget (kB a) (5 * 0 + 4) = kb a (5 * 4 + 4) (kOff.getD (5 * 4 + 4) 0) from kg4 _ _ _ _ _ _ _ _ _ _ _ _ _ _ _ _ _ _ _ _ _ _ _ _ _]; exact H 4 4 (by decide) (by decide) (by decide)
  · rw [show kget (kB a) (5 * 1 + 4) = kb a (5 * 4 + 2) (kOff.getD (5 * 4 + 2) 0) from kg9 _ _ _ _ _ _ _ _ _ _ _ _ _ _ _ _ _ _ _ _ _ _ _ _ _]; exact H 2 4 (by decide) (by decide) (by decide)
  · rw [show kget (kB a) (5 * 2 + 4) = kb a (5 * 4 + 0) (kOff.getD (5 * 4 + 0) 0) from kg14 _ _ _ _ _ _ _ _ _ _ _ _ _ _ _ _ _ _ _ _ _ _ _ _ _]; exact H 0 4 (by decide) (by decide) (by decide)
  · rw [show kget (kB a) (5 * 3 + 4) = kb a (5 * 4 + 3) (kOff.getD (5 * 4 + 3) 0) from kg19 _ _ _ _ _ _ _ _ _ _ _ _ _ _ _ _ _ _ _ _ _ _ _ _ _]; exact H 3 4 (by decide) (by decide) (by decide)
  · rw [show kget (kB a) (5 * 4 + 4) = kb a (5 * 4 + 1) (kOff.getD (5 * 4 + 1) 0) from kg24 _ _ _ _ _ _ _ _ _ _ _ _ _ _ _ _ _ _ _ _ _ _ _ _ _]; exact H 1 4 (by decide) (by decide) (by decide)
theorem kChi_bit {a : List Nat} {A : Nat → Nat → Nat → Bool} (hl : K64 a) (h : LB a A) : LB (kChi a) (bChi A) := fun x y z hx hy hz => by
  unfold bChi
  rw [← h x y z hx hy hz, ← h ((x + 2) % 5) y z (Nat.mod_lt _ (by decide)) hy hz, ← h ((x + 1) % 5) y z (Nat.mod_lt _ (by decide)) hy hz, ← kchi_bit _ _ _ _ (hl _) hz]
  have hx' : x = 0 ∨ x = 1 ∨ x = 2 ∨ x = 3 ∨ x = 4 := by omega
  have hy' : y = 0 ∨ y = 1 ∨ y = 2 ∨ y = 3 ∨ y = 4 := by omega
  rcases hx' with rfl | rfl | rfl | rfl | rfl <;> rcases hy' with rfl | rfl | rfl | rfl | rfl
  · rw [show kget (kChi a) (5 * 0 + 0) = kchi (kget a (5 * 0 + 0)) (kget a (5 * 0 + (0 + 1) % 5)) (kget a (5 * 0 + (0 + 2) % 5)) from kg0 _ _ _ _ _ _ _ _ _ _ _ _ _ _ _ _ _ _ _ _ _ _ _ _ _]
  · rw [show kget (kChi a) (5 * 1 + 0) = kchi (kget a (5 * 1 + 0)) (kget a (5 * 1 + (0 + 1) % 5)) (kget a (5 * 1 + (0 + 2) % 5)) from kg5 _ _ _ _ _ _ _ _ _ _ _ _ _ _ _ _ _ _ _ _ _ _ _ _ _]
  · rw [show kget (kChi a) (5 * 2 + 0) = kchi (kget a (5 * 2 + 0)) (kget a (5 * 2 + (0 + 1) % 5)) (kget a (5 * 2 + (0 + 2) % 5)) from kg10 _ _ _ _ _ _ _ _ _ _ _ _ _ _ _ _ _ _ _ _ _ _ _ _ _]
  · rw [show kget (kChi a) (5 * 3 + 0) = kchi (kget a (5 * 3 + 0)) (kget a (5 * 3 + (0 + 1) % 5)) (kget a (5 * 3 + (0 + 2) % 5)) from kg15 _ _ _ _ _ _ _ _ _ _ _ _ _ _ _ _ _ _ _ _ _ _ _ _ _]
  · rw [show kget (kChi a) (5 * 4 + 0) = kchi (kget a (5 * 4 + 0)) (kget a (5 * 4 + (0 + 1) % 5)) (kget a (5 * 4 + (0 + 2) % 5)) from kg20 _ _ _ _ _ _ _ _ _ _ _ _ _ _ _ _ _ _ _ _ _ _ _ _ _]
  · rw [show kget (kChi a) (5 * 0 + 1) = kchi (kget a (5 * 0 + 1)) (kget a (5 * 0 + (1 + 1) % 5)) (kget a (5 * 0 + (1 + 2) % 5)) from kg1 _ _ _ _ _ _ _ _ _ _ _ _ _ _ _ _ _ _ _ _ _ _ _ _ _]
  · rw [show kget (kChi a) (5 * 1 + 1) = kchi (kget a (5 * 1 + 1)) (kget a (5 * 1 + (1 + 1) % 5)) (kget a (5 * 1 + (1 + 2) % 5)) from kg6 _ _ _ _ _ _ _ _ _ _ _ _ _ _ _ _ _ _ _ _ _ _ _ _ _]
  · rw [show kget (kChi a) (5 * 2 + 1) = kchi (kget a (5 * 2 + 1)) (kget a (5 * 2 + (1 + 1) % 5)) (kget a (5 * 2 + (1 + 2) % 5)) from kg11 _ _ _ _ _ _ _ _ _ _ _ _ _ _ _ _ _ _ _ _ _ _ _ _ _]
  · rw [show kget (kChi a) (5 * 3 + 1) = kchi (kget a (5 * 3 + 1)) (kget a (5 * 3 + (1 + 1) % 5)) (kget a (5 * 3 + (1 + 2) % 5)) from kg16 _ _ _ _ _ _ _ _ _ _ _ _ _ _ _ _ _ _ _ _ _ _ _ _ _]
  · rw [show kget (kChi a) (5 * 4 + 1) = kchi (kget a (5 * 4 + 1)) (kget a (5 * 4 + (1 + 1) % 5)) (kget a (5 * 4 + (1 + 2) % 5)) from kg21 _ _ _ _ _ _ _ _ _ _ _ _ _ _ _ _ _ _ _ _ _ _ _ _ _]
  · rw [show kget (kChi a) (5 * 0 + 2) = kchi (kget a (5 * 0 + 2)) (kget a (5 * 0 + (2 + 1) % 5)) (kget a (5 * 0 + (2 + 2) % 5)) from kg2 _ _ _ _ _ _ _ _ _ _ _ _ _ _ _ _ _ _ _ _ _ _ _ _ _]
  · rw [show kget (kChi a) (5 * 1 + 2) = kchi (kget a (5 * 1 + 2)) (kget a (5 * 1 + (2 + 1) % 5)) (kget a (5 * 1 + (2 + 2) % 5)) from kg7 _ _ _ _ _ _ _ _ _ _ _ _ _ _ _ _ _ _ _ _ _ _ _ _ _]
  · rw [show kget (kChi a) (5 * 2 + 2) = kchi (kget a (5 * 2 + 2)) (kget a (5 * 2 + (2 + 1) % 5)) (kget a (5 * 2 + (2 + 2) % 5)) from kg12 _ _ _ _ _ _ _ _ _ _ _ _ _ _ _ _ _ _ _ _ _ _ _ _ _]
  · rw [show kget (kChi a) (5 * 3 + 2) = kchi (kget a (5 * 3 + 2)) (kget a (5 * 3 + (2 + 1) % 5)) (kget a (5 * 3 + (2 + 2) % 5)) from kg17 _ _ _ _ _ _ _ _ _ _ _ _ _ _ _ _ _ _ _ _ _ _ _ _ _]
  · rw [show kget (kChi a) (5 * 4 + 2) = kchi (kget a (5 * 4 + 2)) (kget a (5 * 4 + (2 + 1) % 5)) (kget a (5 * 4 + (2 + 2) % 5)) from kg22 _ _ _ _ _ _ _ _ _ _ _ _ _ _ _ _ _ _ _ _ _ _ _ _ _]
  · rw [show kget (kChi a) (5 * 0 + 3) = kchi (kget a (5 * 0 + 3)) (kget a (5 * 0 + (3 + 1) % 5)) (kget a (5 * 0 + (3 + 2) % 5)) from kg3 _ _ _ _ _ _ _ _ _ _ _ _ _ _ _ _ _ _ _ _ _ _ _ _ _]
  · rw [show kget (kChi a) (5 * 1 + 3) = kchi (kget a (5 * 1 + 3)) (kget a (5 * 1 + (3 + 1) % 5)) (kget a (5 * 1 + (3 + 2) % 5)) from kg8 _ _ _ _ _ _ _ _ _ _ _ _ _ _ _ _ _ _ _ _ _ _ _ _ _]
  · rw [show kget (kChi a) (5 * 2 + 3) = kchi (kget a (5 * 2 + 3)) (kget a (5 * 2 + (3 + 1) % 5)) (kget a (5 * 2 + (3 + 2) % 5)) from kg13 _ _ _ _ _ _ _ _ _ _ _ _ _ _ _ _ _ _ _ _ _ _ _ _ _]
  · rw [show kget (kChi a) (5 * 3 + 3) = kchi (kget a (5 * 3 + 3)) (kget a (5 * 3 + (3 + 1) % 5)) (kget a (5 * 3 + (3 + 2) % 5)) from kg18 _ _ _ _ _ _ _ _ _ _ _ _ _ _ _ _ _ _ _ _ _ _ _ _ _]
  · rw [show kget (kChi a) (5 * 4 + 3) = kchi (kget a (5 * 4 + 3)) (kget a (5 * 4 + (3 + 1) % 5)) (kget a (5 * 4 + (3 + 2) % 5)) from kg23 _ _ _ _ _ _ _ _ _ _ _ _ _ _ _ _ _ _ _ _ _ _ _ _ _]
  · rw [show kget (kChi a) (5 * 0 + 4) = kchi (kget a (5 * 0 + 4)) (kget a (5 * 0 + (4 + 1) % 5)) (kget a (5 * 0 + (4 + 2) % 5)) from kg4 _ _ _ _ _ _ _ _ _ _ _ _ _ _ _ _ _ _ _ _ _ _ _ _ _]
  · rw [show kget (kChi a) (5 * 1 + 4) = kchi (kget a (5 * 1 + 4)) (kget a (5 * 1 + (4 + 1) % 5)) (kget a (5 * 1 + (4 + 2) % 5)) from kg9 _ _ _ _ _ _ _ _ _ _ _ _ _ _ _ _ _ _ _ _ _ _ _ _ _]
  · rw [show kget (kChi a) (5 * 2 + 4) = kchi (kget a (5 * 2 + 4)) (kget a (5 * 2 + (4 + 1) % 5)) (kget a (5 * 2 + (4 + 2) % 5)) from kg14 _ _ _ _ _ _ _ _ _ _ _ _ _ _ _ _ _ _ _ _ _ _ _ _ _]
  · rw [show kget (kChi a) (5 * 3 + 4) = kchi (kget a (5 * 3 + 4)) (kget a (5 * 3 + (4 + 1) % 5)) (kget a (5 * 3 + (4 + 2) % 5)) from kg19 _ _ _ _ _ _ _ _ _ _ _ _ _ _ _ _ _ _ _ _ _ _ _ _ _]
  · rw [show kget (kChi a) (5 * 4 + 4) = kchi (kget a (5 * 4 + 4)) (kget a (5 * 4 + (4 + 1) % 5)) (kget a (5 * 4 + (4 + 2) % 5)) from kg24 _ _ _ _ _ _ _ _ _ _ _ _ _ _ _ _ _ _ _ _ _ _ _ _ _]
theorem kround_bit {a : List Nat} {A : Nat → Nat → Nat → Bool} (hl : K64 a) (h : LB a A) : LB (kround a) (bChi (bPi (bRho (bTheta A)))) := kChi_bit (kB_lt hl) (kB_bit hl h)
end Go.Proofs.YgvahwGreat
