import Derived.Test.YgvahwGreatNum
namespace Go.Proofs.YgvahwGreat
open Go.RowKit

theorem mInside (n off : Nat) (h : off + 8 ≤ n) (hn : n ≤ 140737488355328) (w : World) :
    Calls Hvah.prog 246 #[.int .i64 n, .int .i64 off] w fun e w' => e = .returned (.bool true) ∧ w' = w := by
  have h8 : (8 : Int) ≤ n := by omega
  have h9 : (off : Int) ≤ n - 8 := by omega
  go_enter Hvah.func246, Hvah.ntmps246
  go_wp2
  go_ret
  exact ⟨rfl, rfl⟩

theorem or_hi (k P A d : Nat) (q : Int) (hq : q = ((d * P : Nat) : Int)) (hP : P = 2 ^ k) (hA : A < P) (h : A + d * P < 18446744073709551616) : bits .or .u64 (A : Int) q = ((A + d * P : Nat) : Int) := by
  subst hq
  rw [u64_or_nat A (d * P) (by omega) (by omega)]
  congr 1
  subst hP
  rw [Nat.or_comm, or_low k d A hA, Nat.add_comm]

/-- Eight bytes as a number, the most significant first. -/
def be8 (d0 d1 d2 d3 d4 d5 d6 d7 : Nat) : Nat := d7 + 256 * (d6 + 256 * (d5 + 256 * (d4 + 256 * (d3 + 256 * (d2 + 256 * (d1 + 256 * d0))))))
theorem be8_lt (d0 d1 d2 d3 d4 d5 d6 d7 : Nat) (b0 : d0 < 256) (b1 : d1 < 256) (b2 : d2 < 256) (b3 : d3 < 256) (b4 : d4 < 256) (b5 : d5 < 256) (b6 : d6 < 256) (b7 : d7 < 256) : be8 d0 d1 d2 d3 d4 d5 d6 d7 < 18446744073709551616 := by
  unfold be8; omega
theorem or_be8 (d0 d1 d2 d3 d4 d5 d6 d7 : Nat) (b0 : d0 < 256) (b1 : d1 < 256) (b2 : d2 < 256) (b3 : d3 < 256) (b4 : d4 < 256) (b5 : d5 < 256) (b6 : d6 < 256) (b7 : d7 < 256) :
    bits .or .u64 (bits .or .u64 (bits .or .u64 (bits .or .u64 (bits .or .u64 (bits .or .u64 (bits .or .u64 (d7 : Int) ((d6 : Int) * 256)) ((d5 : Int) * 65536)) ((d4 : Int) * 16777216)) ((d3 : Int) * 4294967296)) ((d2 : Int) * 1099511627776)) ((d1 : Int) * 281474976710656)) ((d0 : Int) * 72057594037927936)
      = ((be8 d0 d1 d2 d3 d4 d5 d6 d7 : Nat) : Int) := by
  rw [or_hi 8 256 d7 d6 _ (by omega) (by decide) (by omega) (by omega), or_hi 16 65536 _ d5 _ (by omega) (by decide) (by omega) (by omega), or_hi 24 16777216 _ d4 _ (by omega) (by decide) (by omega) (by omega),
    or_hi 32 4294967296 _ d3 _ (by omega) (by decide) (by omega) (by omega), or_hi 40 1099511627776 _ d2 _ (by omega) (by decide) (by omega) (by omega), or_hi 48 281474976710656 _ d1 _ (by omega) (by decide) (by omega) (by omega),
    or_hi 56 72057594037927936 _ d0 _ (by omega) (by decide) (by omega) (by omega)]
  unfold be8
  omega

set_option maxRecDepth 100000 in
set_option maxHeartbeats 1600000 in
theorem mBE64 (b o n c off : Nat) (d0 d1 d2 d3 d4 d5 d6 d7 : Nat) (w : World) (hoff : off + 8 ≤ n) (hnc : n ≤ c) (hc : c ≤ 140737488355328)
    (c0 : w.cell? ⟨b, o + off, none⟩ = some (.int .u8 d0)) (c1 : w.cell? ⟨b, o + off + 1, none⟩ = some (.int .u8 d1)) (c2 : w.cell? ⟨b, o + off + 2, none⟩ = some (.int .u8 d2)) (c3 : w.cell? ⟨b, o + off + 3, none⟩ = some (.int .u8 d3))
    (c4 : w.cell? ⟨b, o + off + 4, none⟩ = some (.int .u8 d4)) (c5 : w.cell? ⟨b, o + off + 5, none⟩ = some (.int .u8 d5)) (c6 : w.cell? ⟨b, o + off + 6, none⟩ = some (.int .u8 d6)) (c7 : w.cell? ⟨b, o + off + 7, none⟩ = some (.int .u8 d7))
    (b0 : d0 < 256) (b1 : d1 < 256) (b2 : d2 < 256) (b3 : d3 < 256) (b4 : d4 < 256) (b5 : d5 < 256) (b6 : d6 < 256) (b7 : d7 < 256) :
    Calls Hvah.prog 165 #[.slice (some ⟨b, o, none⟩) n c, .int .i64 off] w fun e w' => e = .returned (.tuple #[.int .u64 (be8 d0 d1 d2 d3 d4 d5 d6 d7 : Nat), .bool true]) ∧ Ext w w' := by
  have hcc : ¬ c = off := by omega
  have hA := fun W => run_arrayAt W 271 5 8 8 (c - off) (some ⟨b, o + off, none⟩) Hvah.underlying271 (Nat.le_refl _)
  go_enter Hvah.func165, Hvah.ntmps165
  go_wp2_with (go_at_call 246; refine (mInside n off hoff (by omega) _).mono ?_; rintro e w' ⟨rfl, rfl⟩)
  have ho := or_be8 d0 d1 d2 d3 d4 d5 d6 d7 b0 b1 b2 b3 b4 b5 b6 b7
  go_ret2
  refine ⟨?_, (Ext.refl _).alloc _ _⟩
  rw [← ho]; rfl

/-- x turned to the left by k. -/
def rotl (x k : Nat) : Nat := x * 2 ^ k % 18446744073709551616 ||| x / 2 ^ (64 - k)
theorem rotl_lt (x k : Nat) (hx : x < 18446744073709551616) : rotl x k < 18446744073709551616 := by
  have h1 : x * 2 ^ k % 18446744073709551616 < 2 ^ 64 := Nat.mod_lt _ (by decide)
  have h2 : x / 2 ^ (64 - k) < 2 ^ 64 := Nat.lt_of_le_of_lt (Nat.div_le_self _ _) hx
  exact Nat.or_lt_two_pow h1 h2
theorem rotl_bits (x k : Nat) (hx : x < 18446744073709551616) : bits .or .u64 (IntKind.u64.wrap ((x : Int) * 2 ^ k)) ((x : Int) / 2 ^ (64 - k)) = ((rotl x k : Nat) : Int) := by
  have e1 : IntKind.u64.wrap ((x : Int) * 2 ^ k) = ((x * 2 ^ k % 18446744073709551616 : Nat) : Int) := by
    rw [IntKind.wrap_u64, show (x : Int) * 2 ^ k = ((x * 2 ^ k : Nat) : Int) by rw [Int.natCast_mul, Int.natCast_pow]; rfl]
    rfl
  have e2 : ((x : Int) / 2 ^ (64 - k)) = ((x / 2 ^ (64 - k) : Nat) : Int) := by
    rw [show (2 : Int) ^ (64 - k) = ((2 ^ (64 - k) : Nat) : Int) by rw [Int.natCast_pow]; rfl]
    rfl
  rw [e1, e2, u64_or_nat _ _ (Nat.mod_lt _ (by decide)) (Nat.lt_of_le_of_lt (Nat.div_le_self _ _) hx)]
  rfl

set_option maxHeartbeats 800000 in
theorem mRot (x k : Nat) (hx : x < 18446744073709551616) (hk : k < 64) (w : World) :
    Calls Hvah.prog 425 #[.int .u64 x, .int .i64 k] w fun e w' => e = .returned (.int .u64 (rotl x k : Nat)) ∧ w' = w := by
  have hb : bits .and .u64 (k : Int) 63 = (k : Int) := by
    rw [show (63 : Int) = ((63 : Nat) : Int) from rfl, u64_and_nat k 63 (by omega) (by decide)]
    congr 1
    rw [show (63 : Nat) = 2 ^ 6 - 1 from rfl, Nat.and_two_pow_sub_one_eq_mod]; omega
  go_enter Hvah.func425, Hvah.ntmps425
  go_wp2
  have hr := rotl_bits x k hx
  go_ret
  exact ⟨by rw [← hr]; rfl, rfl⟩

/-- The number of eight bytes of a list. -/
def be64 (l : List Nat) (i : Nat) : Nat := be8 (l.getD i 0) (l.getD (i + 1) 0) (l.getD (i + 2) 0) (l.getD (i + 3) 0) (l.getD (i + 4) 0) (l.getD (i + 5) 0) (l.getD (i + 6) 0) (l.getD (i + 7) 0)
theorem getD_lt {l : List Nat} (h : Digits l) (i : Nat) : l.getD i 0 < 256 := by
  by_cases hi : i < l.length
  · simp [hi]; exact h _ (List.getElem_mem hi)
  · simp [Nat.not_lt.1 hi]
theorem be64_lt {l : List Nat} (h : Digits l) (i : Nat) : be64 l i < 18446744073709551616 := be8_lt _ _ _ _ _ _ _ _ (getD_lt h _) (getD_lt h _) (getD_lt h _) (getD_lt h _) (getD_lt h _) (getD_lt h _) (getD_lt h _) (getD_lt h _)

/-- num.BE64 of bytes that lie at b, o. -/
theorem mBE64L (b o n c off : Nat) (l : List Nat) (w : World) (hl : l.length = n) (hd : Digits l) (hoff : off + 8 ≤ n) (hnc : n ≤ c) (hc : c ≤ 140737488355328)
    (hcell : ∀ (i : Nat) (h : i < l.length), w.cell? ⟨b, o + i, none⟩ = some (.int .u8 (l[i] : Int))) :
    Calls Hvah.prog 165 #[.slice (some ⟨b, o, none⟩) n c, .int .i64 off] w fun e w' => e = .returned (.tuple #[.int .u64 (be64 l off : Nat), .bool true]) ∧ Ext w w' := by
  have cc : ∀ k, k < 8 → w.cell? ⟨b, o + off + k, none⟩ = some (.int .u8 (l.getD (off + k) 0 : Nat)) := fun k hk => by
    have := hcell (off + k) (by omega)
    rw [Nat.add_assoc, this]; simp [show off + k < l.length by omega]
  have g := fun k => getD_lt hd (off + k)
  exact mBE64 b o n c off _ _ _ _ _ _ _ _ w hoff hnc hc (cc 0 (by omega)) (cc 1 (by omega)) (cc 2 (by omega)) (cc 3 (by omega)) (cc 4 (by omega)) (cc 5 (by omega)) (cc 6 (by omega)) (cc 7 (by omega)) (g 0) (g 1) (g 2) (g 3) (g 4) (g 5) (g 6) (g 7)

/-- Eight bytes of a number, the most significant first. -/
def bytes8 (x : Nat) : List Nat := [x / 72057594037927936 % 256, x / 281474976710656 % 256, x / 1099511627776 % 256, x / 4294967296 % 256, x / 16777216 % 256, x / 65536 % 256, x / 256 % 256, x % 256]

set_option maxRecDepth 100000 in
set_option maxHeartbeats 1600000 in
/-- num.PutBE64 into a row of bytes. -/
theorem mPutBE64 (g n off x : Nat) (l : List Nat) (t : TypeId) (w : World) (hl : l.length = n) (hoff : off + 8 ≤ n) (hc : n ≤ 140737488355328) (hx : x < 18446744073709551616)
    (hrow : w.heap[g]? = some (.cells (bcells l).toArray t (0, 0))) :
    Calls Hvah.prog 167 #[.slice (some ⟨g, 0, none⟩) n n, .int .i64 off, .int .u64 x] w fun e w' => e = .returned (.bool true) ∧ w' = w.setRow g (bcells (l.take off ++ bytes8 x ++ l.drop (off + 8))).toArray := by
  have hcc : ¬ n = off := by omega
  have hA := fun W => run_arrayAt W 271 5 8 8 (n - off) (some ⟨g, off, none⟩) Hvah.underlying271 (Nat.le_refl _)
  have cc : ∀ k, k < 8 → ∃ v, w.cell? ⟨g, off + k, none⟩ = some v := fun k hk => ⟨_, cell_row hrow (off + k) (by omega)⟩
  obtain ⟨v0, c0⟩ := cc 0 (by omega)
  obtain ⟨v1, c1⟩ := cc 1 (by omega)
  obtain ⟨v2, c2⟩ := cc 2 (by omega)
  obtain ⟨v3, c3⟩ := cc 3 (by omega)
  obtain ⟨v4, c4⟩ := cc 4 (by omega)
  obtain ⟨v5, c5⟩ := cc 5 (by omega)
  obtain ⟨v6, c6⟩ := cc 6 (by omega)
  obtain ⟨v7, c7⟩ := cc 7 (by omega)
  rw [Nat.add_zero] at c0
  have fz := fun i => frozen_row hrow i
  clear cc
  go_enter Hvah.func167, Hvah.ntmps167
  go_wp2_with (go_at_call 246; refine (mInside n off hoff (by omega) _).mono ?_; rintro e w' ⟨rfl, rfl⟩)
  have hw : ∀ y : Int, y = (x : Int) / 72057594037927936 → (((((((w'.setCell ⟨g, off, none⟩ (.int .u8 y)).setCell ⟨g, off + 1, none⟩ (.int .u8 ((x : Int) / 281474976710656 % 256))).setCell ⟨g, off + 2, none⟩ (.int .u8 ((x : Int) / 1099511627776 % 256))).setCell ⟨g, off + 3, none⟩ (.int .u8 ((x : Int) / 4294967296 % 256))).setCell ⟨g, off + 4, none⟩ (.int .u8 ((x : Int) / 16777216 % 256))).setCell ⟨g, off + 5, none⟩ (.int .u8 ((x : Int) / 65536 % 256))).setCell ⟨g, off + 6, none⟩ (.int .u8 ((x : Int) / 256 % 256))).setCell ⟨g, off + 7, none⟩ (.int .u8 ((x : Int) % 256))
      = w'.setRow g (bcells (l.take off ++ bytes8 x ++ l.drop (off + 8))).toArray := by
    intro y hy
    have e1 : y = ((x / 72057594037927936 % 256 : Nat) : Int) := by omega
    rw [e1]
    have h1 := setCells_row (t := t) (fz := (0, 0)) g (bcells (bytes8 x)) off w' (bcells l) hrow (by simp [bcells, bytes8]; omega)
    have h2 : lay (bcells l) off (bcells (bytes8 x)) = bcells (l.take off ++ bytes8 x ++ l.drop (off + 8)) := by
      simp [lay, bcells, bytes8, List.map_take, List.map_drop]
    rw [← h2, ← h1]
    rfl
  go_ret
  exact ⟨rfl, hw _ rfl⟩
end Go.Proofs.YgvahwGreat
