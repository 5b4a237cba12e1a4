import Derived.Test.YgvahwGreatU256D
namespace Go.Proofs.YgvahwGreat
open Go.RowKit
attribute [local go_sem] wv_fold

/-- The number x with limbs f above it. -/
def aboveW (x f : Nat) : Nat := x + P256 * (f * (1 + 2 ^ 64 + 2 ^ 128 + 2 ^ 192 + 2 ^ 256))
/-- The result of a shift down, its limbs below k; above them f. -/
def dnRow (z f k : Nat) : List Nat := [if 0 < k then lim z 0 else f, if 1 < k then lim z 1 else f, if 2 < k then lim z 2 else f, if 3 < k then lim z 3 else f]
theorem dnRow_set (z f k : Nat) (hk : k < 4) : (dnRow z f k).set k (lim z k) = dnRow z f (k + 1) := by
  rcases (show k = 0 ∨ k = 1 ∨ k = 2 ∨ k = 3 by omega) with rfl | rfl | rfl | rfl <;> rfl
theorem above_low (x f k : Nat) (hk : k < 4) : aboveW x f / 2 ^ (64 * k) % 2 ^ 64 = lim x k := by
  rw [lim_pow, ← mod_div_mod _ 256 (64 * k) 64 (by omega), ← mod_div_mod x 256 (64 * k) 64 (by omega), aboveW, P256_eq, Nat.add_mul_mod_self_left]
theorem above_high (x f k : Nat) (hx : x < P256) (hk : 4 ≤ k) (hk9 : k < 9) (hf : f < 18446744073709551616) : aboveW x f / 2 ^ (64 * k) % 2 ^ 64 = f := by
  obtain ⟨j, rfl⟩ : ∃ j, k = 4 + j := ⟨k - 4, by omega⟩
  rw [show 64 * (4 + j) = 256 + 64 * j by omega, Nat.pow_add, ← Nat.div_div_eq_div_mul, ← P256_eq, aboveW, Nat.add_mul_div_left _ _ P256_pos, Nat.div_eq_of_lt hx, Nat.zero_add,
    show (1 + 2 ^ 64 + 2 ^ 128 + 2 ^ 192 + 2 ^ 256 : Nat) = 115792089237316195429848086744074588617446056455769168919041760803882641915905 by decide,
    show (2 : Nat) ^ 64 = 18446744073709551616 by decide]
  rcases (show j = 0 ∨ j = 1 ∨ j = 2 ∨ j = 3 ∨ j = 4 by omega) with rfl | rfl | rfl | rfl | rfl
  · rw [show (2 : Nat) ^ (64 * 0) = 1 by decide]; omega
  · rw [show (2 : Nat) ^ (64 * 1) = 18446744073709551616 by decide, show f * 115792089237316195429848086744074588617446056455769168919041760803882641915905 = f * 1 + 18446744073709551616 * (f + 18446744073709551616 * (f * 340282366920938463481821351505477763073)) by omega, Nat.add_mul_div_left _ _ (by decide), Nat.div_eq_of_lt (by omega)]; omega
  · rw [show (2 : Nat) ^ (64 * 2) = 340282366920938463463374607431768211456 by decide, show f * 115792089237316195429848086744074588617446056455769168919041760803882641915905 = f * 18446744073709551617 + 340282366920938463463374607431768211456 * (f + 18446744073709551616 * (f * 18446744073709551617)) by omega, Nat.add_mul_div_left _ _ (by decide), Nat.div_eq_of_lt (by omega)]; omega
  · rw [show (2 : Nat) ^ (64 * 3) = 6277101735386680763835789423207666416102355444464034512896 by decide, show f * 115792089237316195429848086744074588617446056455769168919041760803882641915905 = f * 340282366920938463481821351505477763073 + 6277101735386680763835789423207666416102355444464034512896 * (f + 18446744073709551616 * (f * 1)) by omega, Nat.add_mul_div_left _ _ (by decide), Nat.div_eq_of_lt (by omega)]; omega
  · rw [show (2 : Nat) ^ (64 * 4) = 115792089237316195423570985008687907853269984665640564039457584007913129639936 by decide, show f * 115792089237316195429848086744074588617446056455769168919041760803882641915905 = f * 6277101735386680764176071790128604879584176795969512275969 + 115792089237316195423570985008687907853269984665640564039457584007913129639936 * (f + 18446744073709551616 * (f * 0)) by omega, Nat.add_mul_div_left _ _ (by decide), Nat.div_eq_of_lt (by omega)]; omega
theorem down_at (X q r k : Nat) (hr : r < 64) (hk : k < 4) : lim (X / 2 ^ (64 * q + r) % P256) k = (X / 2 ^ (64 * (q + k)) % 2 ^ 64) / 2 ^ r ||| (X / 2 ^ (64 * (q + k + 1)) % 2 ^ 64 * 2 ^ (64 - r) % 18446744073709551616) := by
  rw [lim_cut _ _ hk, Nat.div_div_eq_div_mul, ← Nat.pow_add, show 64 * q + r + 64 * k = 64 * (q + k) + r by omega, Nat.pow_add, ← Nat.div_div_eq_div_mul,
    show 64 * (q + k + 1) = 64 * (q + k) + 64 by omega, Nat.pow_add 2 (64 * (q + k)) 64, ← Nat.div_div_eq_div_mul, pow64]
  generalize X / 2 ^ (64 * (q + k)) = y
  have hP : (2 : Nat) ^ 64 = 2 ^ r * 2 ^ (64 - r) := by rw [← Nat.pow_add]; congr 1; omega
  have h1 : y = y % 2 ^ 64 + 2 ^ r * (2 ^ (64 - r) * (y / 2 ^ 64)) := by rw [← Nat.mul_assoc, ← hP]; omega
  have h2 : y / 2 ^ r = y % 2 ^ 64 / 2 ^ r + 2 ^ (64 - r) * (y / 2 ^ 64) := by
    conv => lhs; rw [h1]
    rw [Nat.add_mul_div_left _ _ (Nat.two_pow_pos _)]
  have h3 : y % 2 ^ 64 / 2 ^ r < 2 ^ (64 - r) := by
    apply Nat.div_lt_of_lt_mul
    rw [← hP]; exact Nat.mod_lt _ (by decide)
  rw [h2]
  generalize y / 2 ^ 64 = b at *
  generalize y % 2 ^ 64 / 2 ^ r = c at *
  have h4 : (b % 2 ^ 64) * 2 ^ (64 - r) % 2 ^ 64 = (b % 2 ^ r) * 2 ^ (64 - r) := by
    rw [Nat.mod_mul_mod]
    conv => lhs; rw [hP]
    rw [Nat.mul_mod_mul_right]
  have h4' : (2 ^ (64 - r) * b) % 2 ^ 64 = (b % 2 ^ r) * 2 ^ (64 - r) := by
    rw [Nat.mul_comm]
    conv => lhs; rw [hP]
    rw [Nat.mul_mod_mul_right]
  rw [h4, Nat.or_comm, or_low (64 - r) _ c h3]
  have h5 : (b % 2 ^ r) * 2 ^ (64 - r) + c < 2 ^ 64 := by
    have : b % 2 ^ r + 1 ≤ 2 ^ r := Nat.mod_lt _ (Nat.two_pow_pos _)
    have := Nat.mul_le_mul_right (2 ^ (64 - r)) this
    rw [Nat.add_mul, Nat.one_mul, ← hP] at this
    omega
  rw [Nat.add_mod, h4', Nat.mod_eq_of_lt (Nat.lt_of_lt_of_le h3 (Nat.pow_le_pow_right (n := 2) (by decide) (by omega))), Nat.add_comm, Nat.mod_eq_of_lt h5]

theorem fill_ones : ∀ r : Fin 64, (18446744073709551615 : Nat) / 2 ^ r.val ||| (18446744073709551615 * 2 ^ (64 - r.val) % 18446744073709551616) = 18446744073709551615 := by decide +kernel
theorem fill_same (f r : Nat) (hr : r < 64) (hf : f = 0 ∨ f = 18446744073709551615) : f / 2 ^ r ||| (f * 2 ^ (64 - r) % 18446744073709551616) = f := by
  rcases hf with rfl | rfl
  · simp
  · exact fill_ones ⟨r, hr⟩
theorem or_down (a b t u : Nat) (ha : a < 18446744073709551616) : bits .or .u64 ((a : Int) / 2 ^ t) (IntKind.u64.wrap ((b : Int) * 2 ^ u)) = ((a / 2 ^ t ||| (b * 2 ^ u % 18446744073709551616) : Nat) : Int) := by
  have e : ((a : Int) / 2 ^ t) = ((a / 2 ^ t : Nat) : Int) := by rw [Int.natCast_ediv, Int.natCast_pow]; rfl
  rw [e, wrap_up, u64_or_nat _ _ (Nat.lt_of_le_of_lt (Nat.div_le_self _ _) ha) (Nat.mod_lt _ (by decide))]
set_option maxHeartbeats 1600000 in
theorem uDown (s x f : Nat) (w : World) (hs : s < P256) (hx : x < P256) (hff : f = 0 ∨ f = 18446744073709551615) :
    Calls Hvah.prog 389 #[wv s, wv x, .int .u64 f] w fun e w' => e = .returned (wv (if s < 256 then aboveW x f / 2 ^ s % P256 else W4 f f f f)) ∧ Ext w w' := by
  have HL := fun W => uBelow s 256 W hs (by omega)
  have HF : Hid (f = 0 ∨ f = 18446744073709551615) := hff
  have hf : f < 18446744073709551616 := by omega
  clear hff
  by_cases hlt : s < 256
  · have HI : Hid (low64 s = s) := by simp [Hid, low64]; omega
    rw [HI.out] at HL
    simp only [hlt, decide_true] at HL
    rw [if_pos hlt]
    obtain ⟨q, r, HQ, HR, HS⟩ : ∃ q r, s / 64 = q ∧ s % 64 = r ∧ s = 64 * q + r := ⟨_, _, rfl, rfl, by omega⟩
    have hq : (s : Int) / 64 = q := by omega
    have hr : (s : Int) % 64 = r := by omega
    have hq4 : q < 4 := by omega
    have hr4 : r < 64 := by omega
    have Z1 : ∀ k, q ≤ k → k < 3 → lim (aboveW x f / 2 ^ s % P256) (k - q) = lim x k / 2 ^ r ||| (lim x (k + 1) * 2 ^ (64 - r) % 18446744073709551616) := fun k h1 h2 => by
      rw [HS, down_at _ q r _ hr4 (by omega), show q + (k - q) = k by omega, above_low x f k (by omega), above_low x f (k + 1) (by omega)]
    have Z2 : lim (aboveW x f / 2 ^ s % P256) (3 - q) = lim x 3 / 2 ^ r ||| (f * 2 ^ (64 - r) % 18446744073709551616) := by
      rw [HS, down_at _ q r _ hr4 (by omega), show q + (3 - q) = 3 by omega, above_low x f 3 (by omega), above_high x f (3 + 1) hx (by omega) (by omega) hf]
    have Z0 : ∀ k, 4 - q ≤ k → k < 4 → lim (aboveW x f / 2 ^ s % P256) k = f := fun k h1 h2 => by
      rw [HS, down_at _ q r _ hr4 h2, above_high x f (q + k) hx (by omega) (by omega) hf, above_high x f (q + k + 1) hx (by omega) (by omega) hf]
      exact fill_same f r hr4 HF.out
    have hz : aboveW x f / 2 ^ s % P256 < P256 := Nat.mod_lt _ P256_pos
    generalize aboveW x f / 2 ^ s % P256 = z at *
    clear HQ HR HS
    go_enter Hvah.func389, Hvah.ntmps389
    go_wp2_with (go_at_call 387; refine (HL _).mono ?_; rintro e w1 ⟨rfl, he⟩; have hrc := he.rc; have hrf := he.rf; have hz2 : w.heap.size + 1 + 1 + 1 < w1.heap.size := by (have := he.size; simp at this; omega))
    have hbx : w1.heap[w.heap.size + 1]? = some (.cells #[.int .u64 (lim x 0 : Nat), .int .u64 (lim x 1 : Nat), .int .u64 (lim x 2 : Nat), .int .u64 (lim x 3 : Nat)] 79 (0, 0)) := by
      rw [he.block _ (by simp), Below.heap_alloc _ _ _ (by simp), Below.heap_alloc _ _ _ (by simp)]; exact heap_new' _ _ (by simp)
    have hB := cell_box hbx
    have hb1 : w.heap.size + 1 < w1.heap.size := by omega
    clear hrc hrf hbx
    have hg : w1.heap[w.heap.size + 1 + 1 + 1]? = some (.cells (ucells (dnRow z f 0)).toArray 79 (0, 0)) := by
      rw [he.block _ (by simp)]; exact heap_new' _ _ (by simp)
    have hbr : w1.heap[w.heap.size + 1 + 1]? = some (.cells #[.int .u64 0, .int .u64 0, .int .u64 0, .int .u64 0] 79 (0, 0)) := by
      rw [he.block _ (by simp), Below.heap_alloc _ _ _ (by simp)]; exact heap_new' _ _ (by simp)
    go_loopw [10] (fun i wr => ∃ k : Nat, q ≤ k ∧ k ≤ 4 ∧ i = .int .u64 k ∧ wr.heap[w.heap.size + 1 + 1 + 1]? = some (.cells (ucells (dnRow z f (k - q))).toArray 79 (0, 0)) ∧ Upd (w.heap.size + 1 + 1 + 1) w1 wr) (fun i wr => 4 - (intOf i).toNat)
    case atStart => exact ⟨q, by omega, by omega, int_eq (by omega), by rw [Nat.sub_self]; exact hg, Upd.refl _ _⟩
    case round =>
      obtain ⟨k, hqk, hk, rfl, hrow, hext⟩ := hrel
      by_cases hk4 : k < 4
      · have fr := frozen_urow hrow (k - q)
        have c1 := (hext.cell (p := ⟨w.heap.size + 1, k, none⟩) (by simp)).trans (hB k hk4)
        have cg := cell_urow hrow (k - q) (by simp [dnRow]; omega)
        have HS : Hid (∀ v, (wr.setCell ⟨w.heap.size + 1 + 1 + 1, k - q, none⟩ (.int .u64 (v : Nat))).heap[w.heap.size + 1 + 1 + 1]? = some (.cells (ucells ((dnRow z f (k - q)).set (k - q) v)).toArray 79 (0, 0))) := fun v => heap_setU hrow (k - q) v
        by_cases hk3 : k < 3
        · have c2 := (hext.cell (p := ⟨w.heap.size + 1, k + 1, none⟩) (by simp)).trans (hB (k + 1) (by omega))
          have ZZ : Hid (_ = _) := Z1 k hqk hk3
          clear Z0 Z1 Z2 hB hg hbr
          go_wp2
          refine ⟨⟨k + 1, by omega, by omega, int_eq (by omega), ?_, hext.setCell _ _⟩, by simp [intOf]; omega⟩
          rw [or_down _ _ _ _ (lim_lt _ _), HS.out, ← ZZ.out, dnRow_set z f (k - q) (by omega), show k + 1 - q = k - q + 1 by omega]
        · have : k = 3 := by omega
          subst this
          have ZZ : Hid (_ = _) := Z2
          clear Z0 Z1 Z2 hB hg hbr
          go_wp2
          refine ⟨⟨4, by omega, by omega, int_eq (by omega), ?_, hext.setCell _ _⟩, by simp [intOf]⟩
          rw [or_down _ _ _ _ (lim_lt _ _), HS.out, ← ZZ.out, dnRow_set z f (3 - q) (by omega), show 4 - q = 3 - q + 1 by omega]
      · have : k = 4 := by omega
        subst this
        have hd : dnRow z f (4 - q) = [lim z 0, lim z 1, lim z 2, lim z 3] := by
          unfold dnRow
          congr 1
          · split; rfl; exact (Z0 0 (by omega) (by omega)).symm
          congr 1
          · split; rfl; exact (Z0 1 (by omega) (by omega)).symm
          congr 1
          · split; rfl; exact (Z0 2 (by omega) (by omega)).symm
          congr 1
          · split; rfl; exact (Z0 3 (by omega) (by omega)).symm
        rw [hd] at hrow
        have hrow' : wr.heap[w.heap.size + 1 + 1 + 1]? = some (.cells #[.int .u64 (lim z 0 : Nat), .int .u64 (lim z 1 : Nat), .int .u64 (lim z 2 : Nat), .int .u64 (lim z 3 : Nat)] 79 (0, 0)) := hrow
        have g0 := cell_box hrow' 0 (by decide)
        have g1 := cell_box hrow' 1 (by decide)
        have g2 := cell_box hrow' 2 (by decide)
        have g3 := cell_box hrow' 3 (by decide)
        have hb : wr.heap[w.heap.size + 1 + 1]? = some (.cells #[.int .u64 0, .int .u64 0, .int .u64 0, .int .u64 0] 79 (0, 0)) := by
          rw [hext.block _ (by omega)]; exact hbr
        have r0 := cell_there hb
        have f0 := frozen_there hb
        clear hrow hrow' hB Z0 Z1 Z2 hg hbr hd
        go_wp2
        refine post_set4' Hvah.results389 rfl rfl hb (lim_lt _ _) (lim_lt _ _) (lim_lt _ _) (lim_lt _ _) (W4_lim z hz) ⟨rfl, ?_⟩
        exact ext_set4 (Ext.upd ((((((Ext.refl _).alloc _ _).alloc _ _).alloc _ _).alloc _ _).trans he) hext (by omega)) (by omega) _ _ _ _
  · simp only [hlt, decide_false, if_false] at HL ⊢
    go_enter Hvah.func389, Hvah.ntmps389
    go_wp2_with (go_at_call 387; refine (HL _).mono ?_; rintro e w1 ⟨rfl, he⟩; have hrc := he.rc; have hrf := he.rf; have hz2 : w.heap.size + 1 + 1 < w1.heap.size := by (have := he.size; simp at this; omega))
    have hb : w1.heap[w.heap.size + 1 + 1]? = some (.cells #[.int .u64 0, .int .u64 0, .int .u64 0, .int .u64 0] 79 (0, 0)) := by
      rw [he.block _ (by simp), Below.heap_alloc _ _ _ (by simp)]; exact heap_new' _ _ (by simp)
    refine post_set4' Hvah.results389 rfl rfl hb hf hf hf hf rfl ⟨rfl, ?_⟩
    exact ext_set4 ((((((Ext.refl _).alloc _ _).alloc _ _).alloc _ _).alloc _ _).trans he) (by omega) _ _ _ _

set_option maxHeartbeats 800000 in
theorem uShr (s x : Nat) (w : World) (hs : s < P256) (hx : x < P256) :
    Calls Hvah.prog 299 #[wv s, wv x] w fun e w' => e = .returned (wv (if s < 256 then x / 2 ^ s else 0)) ∧ Ext w w' := by
  have HL := fun W => uDown s x 0 W hs hx (Or.inl rfl)
  have e : (if s < 256 then aboveW x 0 / 2 ^ s % P256 else W4 0 0 0 0) = (if s < 256 then x / 2 ^ s else 0) := by
    split
    · rw [aboveW, Nat.zero_mul, Nat.mul_zero, Nat.add_zero, Nat.mod_eq_of_lt (Nat.lt_of_le_of_lt (Nat.div_le_self _ _) hx)]
    · rfl
  have hz : (if s < 256 then x / 2 ^ s else 0) < P256 := by
    split
    · exact Nat.lt_of_le_of_lt (Nat.div_le_self _ _) hx
    · exact P256_pos
  rw [e] at HL
  clear e
  generalize (if s < 256 then x / 2 ^ s else 0) = z at *
  go_enter Hvah.func299, Hvah.ntmps299
  go_wp2_with (go_at_call 389; refine (HL _).mono ?_; rintro e w1 ⟨rfl, he⟩; have hrc := he.rc; have hrf := he.rf; have hz2 : w.heap.size + 1 + 1 < w1.heap.size := by (have := he.size; simp at this; omega))
  have hb : w1.heap[w.heap.size + 1 + 1]? = some (.cells #[.int .u64 0, .int .u64 0, .int .u64 0, .int .u64 0] 79 (0, 0)) := by
    rw [he.block _ (by simp)]; exact heap_new' _ _ (by simp)
  refine post_set4' Hvah.results299 rfl rfl hb (lim_lt _ _) (lim_lt _ _) (lim_lt _ _) (lim_lt _ _) (W4_lim z hz) ⟨rfl, ?_⟩
  exact ext_set4 (((((Ext.refl _).alloc _ _).alloc _ _).alloc _ _).trans he) (by omega) _ _ _ _

/-- The limb that fills a word shifted down with its sign. -/
def signF (x : Nat) : Nat := if negW x then 18446744073709551615 else 0
set_option maxHeartbeats 800000 in
theorem uSar (s x : Nat) (w : World) (hs : s < P256) (hx : x < P256) :
    Calls Hvah.prog 300 #[wv s, wv x] w fun e w' => e = .returned (wv (if s < 256 then aboveW x (signF x) / 2 ^ s % P256 else W4 (signF x) (signF x) (signF x) (signF x))) ∧ Ext w w' := by
  have hff : signF x = 0 ∨ signF x = 18446744073709551615 := by unfold signF; split <;> simp
  have HL := fun W => uDown s x (signF x) W hs hx hff
  have hz : (if s < 256 then aboveW x (signF x) / 2 ^ s % P256 else W4 (signF x) (signF x) (signF x) (signF x)) < P256 := by
    split
    · exact Nat.mod_lt _ P256_pos
    · have : signF x < 18446744073709551616 := by omega
      exact W4_lt _ _ _ _ this this this this
  generalize (if s < 256 then aboveW x (signF x) / 2 ^ s % P256 else W4 (signF x) (signF x) (signF x) (signF x)) = z at *
  have HS : Hid ((negW x = true ∧ signF x = 18446744073709551615 ∧ 9223372036854775808 ≤ lim x 3) ∨ (negW x = false ∧ signF x = 0 ∧ lim x 3 < 9223372036854775808)) := by
    obtain ⟨e, h0, h1, h2, h3⟩ := lim4 x hx
    unfold Hid signF negW
    by_cases h : P256 ≤ 2 * x
    · left; simp only [h, decide_true, if_true, true_and]; unfold P256 at h; omega
    · right; simp only [h, decide_false, true_and]; unfold P256 at h; simp; omega
  have h3 := lim_lt x 3
  rcases HS.out with ⟨g1, g2, g3⟩ | ⟨g1, g2, g3⟩
  · rw [g2, show ((18446744073709551615 : Nat) : Int) = IntKind.u64.wrap (wrap64 (lim x 3 : Nat) / 9223372036854775808) by rw [IntKind.wrap_u64]; unfold wrap64; omega] at HL
    clear g1 g2 hff
    go_enter Hvah.func300, Hvah.ntmps300
    go_wp2_with (go_at_call 389; refine (HL _).mono ?_; rintro e w1 ⟨rfl, he⟩; have hrc := he.rc; have hrf := he.rf; have hz2 : w.heap.size + 1 + 1 < w1.heap.size := by (have := he.size; simp at this; omega))
    have hb : w1.heap[w.heap.size + 1 + 1]? = some (.cells #[.int .u64 0, .int .u64 0, .int .u64 0, .int .u64 0] 79 (0, 0)) := by
      rw [he.block _ (by simp)]; exact heap_new' _ _ (by simp)
    refine post_set4' Hvah.results300 rfl rfl hb (lim_lt _ _) (lim_lt _ _) (lim_lt _ _) (lim_lt _ _) (W4_lim z hz) ⟨rfl, ?_⟩
    exact ext_set4 (((((Ext.refl _).alloc _ _).alloc _ _).alloc _ _).trans he) (by omega) _ _ _ _
  · rw [g2, show ((0 : Nat) : Int) = (lim x 3 : Int) / 9223372036854775808 by omega] at HL
    clear g1 g2 hff
    go_enter Hvah.func300, Hvah.ntmps300
    go_wp2_with (go_at_call 389; refine (HL _).mono ?_; rintro e w1 ⟨rfl, he⟩; have hrc := he.rc; have hrf := he.rf; have hz2 : w.heap.size + 1 + 1 < w1.heap.size := by (have := he.size; simp at this; omega))
    have hb : w1.heap[w.heap.size + 1 + 1]? = some (.cells #[.int .u64 0, .int .u64 0, .int .u64 0, .int .u64 0] 79 (0, 0)) := by
      rw [he.block _ (by simp)]; exact heap_new' _ _ (by simp)
    refine post_set4' Hvah.results300 rfl rfl hb (lim_lt _ _) (lim_lt _ _) (lim_lt _ _) (lim_lt _ _) (W4_lim z hz) ⟨rfl, ?_⟩
    exact ext_set4 (((((Ext.refl _).alloc _ _).alloc _ _).alloc _ _).trans he) (by omega) _ _ _ _
end Go.Proofs.YgvahwGreat
