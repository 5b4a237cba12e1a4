import Derived.Test.YgvahwGreatU256B
import Derived.Deep.RegionHeld3
namespace Go.Proofs.YgvahwGreat
open Go.RowKit
attribute [local go_sem] wv_fold

theorem lim_pow (x i : Nat) : lim x i = x / 2 ^ (64 * i) % 2 ^ 64 := by
  unfold lim
  rw [show (18446744073709551616 : Nat) = 2 ^ 64 by decide, ← Nat.pow_mul]
theorem lim_and (x y i : Nat) : lim (x &&& y) i = lim x i &&& lim y i := by
  rw [lim_pow, lim_pow, lim_pow, Nat.and_div_two_pow, Nat.and_mod_two_pow]
theorem lim_or (x y i : Nat) : lim (x ||| y) i = lim x i ||| lim y i := by
  rw [lim_pow, lim_pow, lim_pow, Nat.or_div_two_pow, Nat.or_mod_two_pow]
theorem lim_xor (x y i : Nat) : lim (x ^^^ y) i = lim x i ^^^ lim y i := by
  rw [lim_pow, lim_pow, lim_pow, Nat.xor_div_two_pow, Nat.xor_mod_two_pow]
theorem and_lt256 {x y : Nat} (hx : x < P256) : x &&& y < P256 := Nat.lt_of_le_of_lt Nat.and_le_left hx
theorem or_lt256 {x y : Nat} (hx : x < P256) (hy : y < P256) : x ||| y < P256 := by rw [P256_eq] at *; exact Nat.or_lt_two_pow hx hy
theorem xor_lt256 {x y : Nat} (hx : x < P256) (hy : y < P256) : x ^^^ y < P256 := by rw [P256_eq] at *; exact Nat.xor_lt_two_pow hx hy

set_option maxHeartbeats 800000 in
theorem uAnd (x y : Nat) (w : World) (hx : x < P256) :
    Calls Hvah.prog 293 #[wv x, wv y] w fun e w' => e = .returned (wv (x &&& y)) ∧ Ext w w' := by
  have HB : Hid (∀ i, bits .and .u64 (lim x i : Nat) (lim y i : Nat) = ((lim (x &&& y) i : Nat) : Int)) := fun i => by rw [u64_and_nat _ _ (lim_lt _ _) (lim_lt _ _), lim_and]
  go_enter Hvah.func293, Hvah.ntmps293
  go_wp2
  simp only [HB.out]
  refine post_word (x := x &&& y) Hvah.results293 rfl (heap_new' _ _ (by simp)) rfl (lim_lt _ _) (lim_lt _ _) (lim_lt _ _) (lim_lt _ _) (W4_lim _ (and_lt256 hx)) ⟨rfl, ?_⟩
  exact (((Ext.refl _).alloc _ _).alloc _ _).alloc _ _
set_option maxHeartbeats 800000 in
theorem uOr (x y : Nat) (w : World) (hx : x < P256) (hy : y < P256) :
    Calls Hvah.prog 294 #[wv x, wv y] w fun e w' => e = .returned (wv (x ||| y)) ∧ Ext w w' := by
  have HB : Hid (∀ i, bits .or .u64 (lim x i : Nat) (lim y i : Nat) = ((lim (x ||| y) i : Nat) : Int)) := fun i => by rw [u64_or_nat _ _ (lim_lt _ _) (lim_lt _ _), lim_or]
  go_enter Hvah.func294, Hvah.ntmps294
  go_wp2
  simp only [HB.out]
  refine post_word (x := x ||| y) Hvah.results294 rfl (heap_new' _ _ (by simp)) rfl (lim_lt _ _) (lim_lt _ _) (lim_lt _ _) (lim_lt _ _) (W4_lim _ (or_lt256 hx hy)) ⟨rfl, ?_⟩
  exact (((Ext.refl _).alloc _ _).alloc _ _).alloc _ _
set_option maxHeartbeats 800000 in
theorem uXor (x y : Nat) (w : World) (hx : x < P256) (hy : y < P256) :
    Calls Hvah.prog 295 #[wv x, wv y] w fun e w' => e = .returned (wv (x ^^^ y)) ∧ Ext w w' := by
  have HB : Hid (∀ i, bits .xor .u64 (lim x i : Nat) (lim y i : Nat) = ((lim (x ^^^ y) i : Nat) : Int)) := fun i => by rw [u64_xor_nat _ _ (lim_lt _ _) (lim_lt _ _), lim_xor]
  go_enter Hvah.func295, Hvah.ntmps295
  go_wp2
  simp only [HB.out]
  refine post_word (x := x ^^^ y) Hvah.results295 rfl (heap_new' _ _ (by simp)) rfl (lim_lt _ _) (lim_lt _ _) (lim_lt _ _) (lim_lt _ _) (W4_lim _ (xor_lt256 hx hy)) ⟨rfl, ?_⟩
  exact (((Ext.refl _).alloc _ _).alloc _ _).alloc _ _

theorem xor_ones (a : Nat) (h : a < 18446744073709551616) : 18446744073709551615 ^^^ a = 18446744073709551615 - a := by
  apply Nat.eq_of_testBit_eq
  intro i
  rw [Nat.testBit_xor, show (18446744073709551615 : Nat) = 2 ^ 64 - 1 by decide, Nat.testBit_two_pow_sub_one, show 2 ^ 64 - 1 - a = 2 ^ 64 - (a + 1) by omega, Nat.testBit_two_pow_sub_succ h]
  by_cases hi : i < 64
  · simp [hi]
  · have : a.testBit i = false := Nat.testBit_lt_two_pow (Nat.lt_of_lt_of_le h (Nat.pow_le_pow_right (n := 2) (by decide) (Nat.not_lt.1 hi)))
    simp [hi, this]
theorem lim_not (x i : Nat) (hx : x < P256) (hi : i < 4) : lim (P256 - 1 - x) i = 18446744073709551615 - lim x i := by
  obtain ⟨e, h0, h1, h2, h3⟩ := lim4 x hx
  have hW : P256 - 1 - x = W4 (18446744073709551615 - lim x 0) (18446744073709551615 - lim x 1) (18446744073709551615 - lim x 2) (18446744073709551615 - lim x 3) := by
    unfold W4 P256; omega
  obtain ⟨e1, e2, e3, e4⟩ := lim_W4 (18446744073709551615 - lim x 0) (18446744073709551615 - lim x 1) (18446744073709551615 - lim x 2) (18446744073709551615 - lim x 3) (by omega) (by omega) (by omega) (by omega)
  rw [hW]
  rcases (show i = 0 ∨ i = 1 ∨ i = 2 ∨ i = 3 by omega) with rfl | rfl | rfl | rfl <;> assumption
set_option maxHeartbeats 800000 in
theorem uNot (x : Nat) (w : World) (hx : x < P256) :
    Calls Hvah.prog 296 #[wv x] w fun e w' => e = .returned (wv (P256 - 1 - x)) ∧ Ext w w' := by
  have HB : ∀ i, i < 4 → bits .xor .u64 (18446744073709551615 : Int) (lim x i : Nat) = ((lim (P256 - 1 - x) i : Nat) : Int) := fun i hi => by
    have := u64_xor_nat 18446744073709551615 _ (by omega) (lim_lt x i)
    rw [show ((18446744073709551615 : Nat) : Int) = 18446744073709551615 from rfl] at this
    rw [this, xor_ones _ (lim_lt _ _), lim_not x i hx hi]
  have B0 : Hid (_ = _) := HB 0 (by omega)
  have B1 : Hid (_ = _) := HB 1 (by omega)
  have B2 : Hid (_ = _) := HB 2 (by omega)
  have B3 : Hid (_ = _) := HB 3 (by omega)
  clear HB
  go_enter Hvah.func296, Hvah.ntmps296
  go_wp2
  simp only [show (IntKind.u64.max : Int) = 18446744073709551615 by decide, B0.out, B1.out, B2.out, B3.out]
  refine post_word (x := P256 - 1 - x) Hvah.results296 rfl (heap_new' _ _ (by simp)) rfl (lim_lt _ _) (lim_lt _ _) (lim_lt _ _) (lim_lt _ _) (W4_lim _ (Nat.lt_of_le_of_lt (Nat.sub_le _ _) (by decide))) ⟨rfl, ?_⟩
  exact ((Ext.refl _).alloc _ _).alloc _ _

theorem mLen64 (x : Nat) (w : World) (hx : x < 18446744073709551616) : Calls Hvah.prog 262 #[.int .u64 x] w fun e w' => e = .returned (.int .i64 (Lib.bitLen x : Nat)) ∧ w' = w := by
  have HL := fun W => Hvah.bits_Len64 x W (by omega) (by omega)
  go_enter Hvah.func262, Hvah.ntmps262
  go_wp2_with (go_at_call 366; refine (HL _).mono ?_; rintro e w1 ⟨rfl, rfl⟩)
  go_ret
  exact ⟨rfl, rfl⟩
theorem mLZ64 (x : Nat) (w : World) (hx : x < 18446744073709551616) : Calls Hvah.prog 410 #[.int .u64 x] w fun e w' => e = .returned (.int .i64 (64 - (Lib.bitLen x : Int))) ∧ w' = w := by
  have HL := fun W => Hvah.bits_LeadingZeros64 x W (by omega) (by omega)
  go_enter Hvah.func410, Hvah.ntmps410
  go_wp2_with (go_at_call 426; refine (HL _).mono ?_; rintro e w1 ⟨rfl, rfl⟩)
  go_ret
  exact ⟨rfl, rfl⟩

/-- The end of a function that has stored a word into its result's block. -/
theorem post_set4' {fn : Func} {R : Ending → World → Prop} {ac : Act} {w1 : World} {t : Tmp} {g : Nat} {a b c d x : Nat} {p q r s : Value} {et : TypeId} (hf : fn.results = #[.cell t 79]) (ht : ac.tmps.getD t undef = .pointer (some ⟨g, 0, none⟩)) (hdf : ac.defers = [])
    (hw : w1.heap[g]? = some (.cells #[p, q, r, s] et (0, 0))) (ha : a < 18446744073709551616) (hb : b < 18446744073709551616) (hc : c < 18446744073709551616) (hd : d < 18446744073709551616)
    (hx : W4 a b c d = x) (h : R (.returned (wv x)) ((((w1.setCell ⟨g, 0, none⟩ (.int .u64 a)).setCell ⟨g, 1, none⟩ (.int .u64 b)).setCell ⟨g, 2, none⟩ (.int .u64 c)).setCell ⟨g, 3, none⟩ (.int .u64 d))) :
    bodyPost Hvah.prog fn R .ret ac ((((w1.setCell ⟨g, 0, none⟩ (.int .u64 a)).setCell ⟨g, 1, none⟩ (.int .u64 b)).setCell ⟨g, 2, none⟩ (.int .u64 c)).setCell ⟨g, 3, none⟩ (.int .u64 d)) := by
  exact post_word (a := a) (b := b) (c := c) (d := d) (et := et) (fz := (0, 0)) hf ht (heap_set4 hw) hdf ha hb hc hd hx h

theorem mod_div_mod (a m t k : Nat) (h : t + k ≤ m) : a % 2 ^ m / 2 ^ t % 2 ^ k = a / 2 ^ t % 2 ^ k := by
  apply Nat.eq_of_testBit_eq
  intro i
  simp only [Nat.testBit_mod_two_pow, Nat.testBit_div_two_pow]
  by_cases hi : i < k
  · simp [hi, show i + t < m by omega]
  · simp [hi]
theorem lim_byte (x j t : Nat) (h : t ≤ 56) : lim x j / 2 ^ t % 256 = x / 2 ^ (64 * j + t) % 256 := by
  rw [lim_pow, show (256 : Nat) = 2 ^ 8 by decide, mod_div_mod _ 64 t 8 (by omega), Nat.div_div_eq_div_mul, ← Nat.pow_add]
theorem and255 (a t : Nat) (h : a < 18446744073709551616) : bits .and .u64 ((a : Int) / 2 ^ t) 255 = ((a / 2 ^ t % 256 : Nat) : Int) := by
  have h1 : a / 2 ^ t < 18446744073709551616 := Nat.lt_of_le_of_lt (Nat.div_le_self _ _) h
  have := u64_and_nat (a / 2 ^ t) 255 h1 (by omega)
  have e : ((a : Int) / 2 ^ t) = ((a / 2 ^ t : Nat) : Int) := by rw [Int.natCast_ediv, Int.natCast_pow]; rfl
  have e2 := Nat.and_two_pow_sub_one_eq_mod (a / 2 ^ t) 8
  rw [e, show (a / 2 ^ t % 256) = (a / 2 ^ t) &&& 255 from e2.symm]
  exact this

set_option maxHeartbeats 800000 in
theorem uByte (i x : Nat) (w : World) (hi : i < P256) :
    Calls Hvah.prog 297 #[wv i, wv x] w fun e w' => e = .returned (wv (if i < 32 then x / 256 ^ (31 - i) % 256 else 0)) ∧ Ext w w' := by
  have HL := fun W => uBelow i 32 W hi (by omega)
  by_cases hlt : i < 32
  · have HI : Hid (low64 i = i) := by simp [Hid, low64]; omega
    rw [HI.out] at HL
    simp only [hlt, decide_true] at HL
    have H8 : Hid (i / 8 = 0 ∨ i / 8 = 1 ∨ i / 8 = 2 ∨ i / 8 = 3) := by unfold Hid; omega
    have HA : Hid (∀ j t, bits .and .u64 ((lim x j : Int) / 2 ^ t) 255 = ((lim x j / 2 ^ t % 256 : Nat) : Int)) := fun j t => and255 _ _ (lim_lt _ _)
    have HP : Hid (x / 256 ^ (31 - i) % 256 = lim x (3 - i / 8) / 2 ^ (56 - 8 * (i % 8)) % 256) := by
      unfold Hid
      rw [lim_byte _ _ _ (by omega), show (256 : Nat) ^ (31 - i) = 2 ^ (8 * (31 - i)) by rw [show (256 : Nat) = 2 ^ 8 by decide, ← Nat.pow_mul], show 64 * (3 - i / 8) + (56 - 8 * (i % 8)) = 8 * (31 - i) by omega]
    rw [if_pos hlt, HP.out]
    rcases H8.out with h | h | h | h
    · have hq : (i : Int) / 8 = 0 := by omega
      go_enter Hvah.func297, Hvah.ntmps297
      go_wp2_with (go_at_call 387; refine (HL _).mono ?_; rintro e w1 ⟨rfl, he⟩; have hrc := he.rc; have hrf := he.rf; have hz2 : w.heap.size + 1 + 1 < w1.heap.size := by (have := he.size; simp at this; omega))
      have hb : w1.heap[w.heap.size + 1 + 1]? = some (.cells #[.int .u64 0, .int .u64 0, .int .u64 0, .int .u64 0] 79 (0, 0)) := by
        rw [he.block _ (by simp)]; exact heap_new' _ _ (by simp)
      rw [HA.out]
      refine post_set4' (b := 0) (c := 0) (d := 0) Hvah.results297 rfl rfl hb (by omega) (by decide) (by decide) (by decide) rfl ⟨?_, ?_⟩
      · simp [W4, h]
      · exact ext_set4 (((((Ext.refl _).alloc _ _).alloc _ _).alloc _ _).trans he) (by omega) _ _ _ _
    · have hq : (i : Int) / 8 = 1 := by omega
      go_enter Hvah.func297, Hvah.ntmps297
      go_wp2_with (go_at_call 387; refine (HL _).mono ?_; rintro e w1 ⟨rfl, he⟩; have hrc := he.rc; have hrf := he.rf; have hz2 : w.heap.size + 1 + 1 < w1.heap.size := by (have := he.size; simp at this; omega))
      have hb : w1.heap[w.heap.size + 1 + 1]? = some (.cells #[.int .u64 0, .int .u64 0, .int .u64 0, .int .u64 0] 79 (0, 0)) := by
        rw [he.block _ (by simp)]; exact heap_new' _ _ (by simp)
      rw [HA.out]
      refine post_set4' (b := 0) (c := 0) (d := 0) Hvah.results297 rfl rfl hb (by omega) (by decide) (by decide) (by decide) rfl ⟨?_, ?_⟩
      · simp [W4, h]
      · exact ext_set4 (((((Ext.refl _).alloc _ _).alloc _ _).alloc _ _).trans he) (by omega) _ _ _ _
    · have hq : (i : Int) / 8 = 2 := by omega
      go_enter Hvah.func297, Hvah.ntmps297
      go_wp2_with (go_at_call 387; refine (HL _).mono ?_; rintro e w1 ⟨rfl, he⟩; have hrc := he.rc; have hrf := he.rf; have hz2 : w.heap.size + 1 + 1 < w1.heap.size := by (have := he.size; simp at this; omega))
      have hb : w1.heap[w.heap.size + 1 + 1]? = some (.cells #[.int .u64 0, .int .u64 0, .int .u64 0, .int .u64 0] 79 (0, 0)) := by
        rw [he.block _ (by simp)]; exact heap_new' _ _ (by simp)
      rw [HA.out]
      refine post_set4' (b := 0) (c := 0) (d := 0) Hvah.results297 rfl rfl hb (by omega) (by decide) (by decide) (by decide) rfl ⟨?_, ?_⟩
      · simp [W4, h]
      · exact ext_set4 (((((Ext.refl _).alloc _ _).alloc _ _).alloc _ _).trans he) (by omega) _ _ _ _
    · have hq : (i : Int) / 8 = 3 := by omega
      go_enter Hvah.func297, Hvah.ntmps297
      go_wp2_with (go_at_call 387; refine (HL _).mono ?_; rintro e w1 ⟨rfl, he⟩; have hrc := he.rc; have hrf := he.rf; have hz2 : w.heap.size + 1 + 1 < w1.heap.size := by (have := he.size; simp at this; omega))
      have hb : w1.heap[w.heap.size + 1 + 1]? = some (.cells #[.int .u64 0, .int .u64 0, .int .u64 0, .int .u64 0] 79 (0, 0)) := by
        rw [he.block _ (by simp)]; exact heap_new' _ _ (by simp)
      rw [HA.out]
      refine post_set4' (b := 0) (c := 0) (d := 0) Hvah.results297 rfl rfl hb (by omega) (by decide) (by decide) (by decide) rfl ⟨?_, ?_⟩
      · simp [W4, h]
      · exact ext_set4 (((((Ext.refl _).alloc _ _).alloc _ _).alloc _ _).trans he) (by omega) _ _ _ _
  · simp only [hlt, decide_false, if_false] at HL ⊢
    have h0 : (0 : Nat) < 18446744073709551616 := by decide
    go_enter Hvah.func297, Hvah.ntmps297
    go_wp2_with (go_at_call 387; refine (HL _).mono ?_; rintro e w1 ⟨rfl, he⟩; have hrc := he.rc; have hrf := he.rf; have hz2 : w.heap.size + 1 + 1 < w1.heap.size := by (have := he.size; simp at this; omega))
    have hb : w1.heap[w.heap.size + 1 + 1]? = some (.cells #[.int .u64 0, .int .u64 0, .int .u64 0, .int .u64 0] 79 (0, 0)) := by
      rw [he.block _ (by simp)]; exact heap_new' _ _ (by simp)
    refine post_set4' (a := 0) (b := 0) (c := 0) (d := 0) Hvah.results297 rfl rfl hb h0 h0 h0 h0 rfl ⟨rfl, ?_⟩
    exact ext_set4 (((((Ext.refl _).alloc _ _).alloc _ _).alloc _ _).trans he) (by omega) _ _ _ _
set_option maxHeartbeats 800000 in
theorem uSigned (x : Nat) (b : Bool) (w : World) (hx : x < P256) :
    Calls Hvah.prog 384 #[wv x, .bool b] w fun e w' => e = .returned (wv (if b then (P256 - x) % P256 else x)) ∧ Ext w w' := by
  cases b
  · go_enter Hvah.func384, Hvah.ntmps384
    go_wp2
    refine post_word (x := x) Hvah.results384 rfl (heap_new' _ _ (by simp)) rfl (lim_lt _ _) (lim_lt _ _) (lim_lt _ _) (lim_lt _ _) (W4_lim _ hx) ⟨rfl, ?_⟩
    exact ((Ext.refl _).alloc _ _).alloc _ _
  · have HL := fun W => uSub 0 x W (by decide) hx
    have hz : (0 + P256 - x) % P256 < P256 := Nat.mod_lt _ P256_pos
    rw [Nat.zero_add] at HL hz
    simp only [if_true]
    generalize (P256 - x) % P256 = z at *
    go_enter Hvah.func384, Hvah.ntmps384
    go_wp2_with (go_at_call 107; refine (HL _).mono ?_; rintro e w1 ⟨rfl, he⟩; have hrc := he.rc; have hrf := he.rf; have hz2 : w.heap.size + 1 < w1.heap.size := by (have := he.size; simp at this; omega))
    have hb : w1.heap[w.heap.size + 1]? = some (.cells #[.int .u64 0, .int .u64 0, .int .u64 0, .int .u64 0] 79 (0, 0)) := by
      rw [he.block _ (by simp)]; exact heap_new' _ _ (by simp)
    refine post_set4' Hvah.results384 rfl rfl hb (lim_lt _ _) (lim_lt _ _) (lim_lt _ _) (lim_lt _ _) (W4_lim z hz) ⟨rfl, ?_⟩
    exact ext_set4 ((((Ext.refl _).alloc _ _).alloc _ _).trans he) (by omega) _ _ _ _


/-- What a drawn region holds of the worlds in it: they extend W; so W's cells stand. -/
abbrev Held (W w' : World) : Prop := Ext W w' ∧ ∀ b o, b < W.heap.size → w'.cell? ⟨b, o, none⟩ = W.cell? ⟨b, o, none⟩
theorem Ext.held {W a : World} (h : Ext W a) : Held W a := ⟨h, h.rc⟩
theorem held_start (W : World) : Held W W.drew := (Ext.refl W).drew.held
theorem held_step {W a b : World} (h : Held W a) (e : Ext a b) : Held W b := (h.1.trans e).held
theorem held_alloc {W a : World} {c : Array Value} {t : TypeId} (h : Held W a) : Held W (a.alloc (.cells c t)) := (h.1.alloc c t).held

/-- A world with two words in boxes. -/
theorem box2 (w : World) (x y : Nat) : ∃ W, W = (w.alloc (.cells #[.int .u64 (lim x 0 : Nat), .int .u64 (lim x 1 : Nat), .int .u64 (lim x 2 : Nat), .int .u64 (lim x 3 : Nat)] 79)).alloc (.cells #[.int .u64 (lim y 0 : Nat), .int .u64 (lim y 1 : Nat), .int .u64 (lim y 2 : Nat), .int .u64 (lim y 3 : Nat)] 79) ∧ Ext w W ∧ w.heap.size < W.heap.size ∧ w.heap.size + 1 < W.heap.size ∧
    (W.cell? ⟨w.heap.size, 0, none⟩ = some (.int .u64 (lim x 0 : Nat)) ∧ W.cell? ⟨w.heap.size, 1, none⟩ = some (.int .u64 (lim x 1 : Nat)) ∧ W.cell? ⟨w.heap.size, 2, none⟩ = some (.int .u64 (lim x 2 : Nat)) ∧ W.cell? ⟨w.heap.size, 3, none⟩ = some (.int .u64 (lim x 3 : Nat))) ∧
    (W.cell? ⟨w.heap.size + 1, 0, none⟩ = some (.int .u64 (lim y 0 : Nat)) ∧ W.cell? ⟨w.heap.size + 1, 1, none⟩ = some (.int .u64 (lim y 1 : Nat)) ∧ W.cell? ⟨w.heap.size + 1, 2, none⟩ = some (.int .u64 (lim y 2 : Nat)) ∧ W.cell? ⟨w.heap.size + 1, 3, none⟩ = some (.int .u64 (lim y 3 : Nat))) := by
  refine ⟨_, rfl, ((Ext.refl _).alloc _ _).alloc _ _, by simp; omega, by simp, ?_, ?_⟩
  · have h := (Below.heap_alloc (w.alloc (.cells #[.int .u64 (lim x 0 : Nat), .int .u64 (lim x 1 : Nat), .int .u64 (lim x 2 : Nat), .int .u64 (lim x 3 : Nat)] 79)) (.cells #[.int .u64 (lim y 0 : Nat), .int .u64 (lim y 1 : Nat), .int .u64 (lim y 2 : Nat), .int .u64 (lim y 3 : Nat)] 79) w.heap.size (by simp)).trans (heap_new _ _)
    simp only [World.cell?, h]; simp
  · have h := heap_new' (w.alloc (.cells #[.int .u64 (lim x 0 : Nat), .int .u64 (lim x 1 : Nat), .int .u64 (lim x 2 : Nat), .int .u64 (lim x 3 : Nat)] 79)) (.cells #[.int .u64 (lim y 0 : Nat), .int .u64 (lim y 1 : Nat), .int .u64 (lim y 2 : Nat), .int .u64 (lim y 3 : Nat)] 79) (n := w.heap.size + 1) (by simp)
    simp only [World.cell?, h]; simp

set_option maxHeartbeats 800000 in
theorem uSlt (x y : Nat) (w : World) (hx : x < P256) (hy : y < P256) :
    Calls Hvah.prog 290 #[wv x, wv y] w fun e w' => e = .returned (.bool (if negW x != negW y then negW x else decide (x < y))) ∧ Ext w w' := by
  have HA := fun W => uNegative x W hx
  have HB := fun W => uNegative y W hy
  have HC := fun W => uLt x y W hx hy
  generalize negW x = nx at *
  generalize negW y = ny at *
  generalize decide (x < y) = bb at *
  cases nx <;> cases ny
  all_goals
    obtain ⟨W, hW, hE, b1, b2, c1, c2⟩ := box2 w x y
    have HW : Hid (W = _) := hW
    go_enter Hvah.func290, Hvah.ntmps290
    go_wp2
    rw [← HW.out]
    clear hW
    go_region_held3 (fun w' => Held W w') (first | exact held_start _ | exact held_step (by assumption) (by assumption) | exact held_alloc (by assumption))
      (first | (go_at_call_of 385 (wv x); refine (HA _).mono ?_; rintro e w1 ⟨rfl, he⟩) | (go_at_call_of 385 (wv y); refine (HB _).mono ?_; rintro e w2 ⟨rfl, he2⟩))
    go_wp2_with (first | (go_at_call_of 385 (wv x); refine (HA _).mono ?_; rintro e w3 ⟨rfl, he3⟩) | (go_at_call 121; refine (HC _).mono ?_; rintro e w3 ⟨rfl, he3⟩))
    go_ret
    exact ⟨rfl, hE.trans ((And.left (by assumption : Held W w2)).trans he3)⟩

set_option maxHeartbeats 800000 in
theorem uSgt (x y : Nat) (w : World) (hx : x < P256) (hy : y < P256) :
    Calls Hvah.prog 291 #[wv x, wv y] w fun e w' => e = .returned (.bool (if negW y != negW x then negW y else decide (y < x))) ∧ Ext w w' := by
  have hH := fun W => uSlt y x W hy hx
  generalize (if negW y != negW x then negW y else decide (y < x)) = bb at *
  go_enter Hvah.func291, Hvah.ntmps291
  go_wp2_with (go_at_call 290; refine (hH _).mono ?_; rintro e w1 ⟨rfl, he⟩)
  go_ret
  exact ⟨rfl, ((((Ext.refl _).alloc _ _).alloc _ _).trans he)⟩
end Go.Proofs.YgvahwGreat
