import Derived.Test.YgvahwGreatU256C
namespace Go.Proofs.YgvahwGreat
open Go.RowKit
attribute [local go_sem] wv_fold

theorem bl_lt (x : Nat) (hx : x < 2 ^ 64) : x < 2 ^ Lib.bitLen x := by
  induction x using Nat.strongRecOn with
  | ind x ih =>
    by_cases h0 : x = 0
    · subst h0; decide
    · rw [Lib.bitLen_half x h0 hx, Nat.add_comm, Nat.pow_succ]
      have := ih (x / 2) (by omega) (by omega)
      omega
theorem bl_ge (x : Nat) (h0 : x ≠ 0) (hx : x < 2 ^ 64) : 2 ^ Lib.bitLen x ≤ 2 * x := by
  induction x using Nat.strongRecOn with
  | ind x ih =>
    rw [Lib.bitLen_half x h0 hx, Nat.add_comm, Nat.pow_succ]
    by_cases h1 : x / 2 = 0
    · rw [h1, show Lib.bitLen 0 = 0 by decide]; omega
    · have := ih (x / 2) (by omega) h1 (by omega)
      omega
theorem lim_lt' (x i : Nat) : lim x i < 2 ^ 64 := lim_lt x i
theorem bl_le64 (x : Nat) (hx : x < 2 ^ 64) : Lib.bitLen x ≤ 64 := Lib.bitLen_le x 64 (by decide) hx
theorem bl_pos (x : Nat) (h0 : x ≠ 0) (hx : x < 2 ^ 64) : 0 < Lib.bitLen x := by rw [Lib.bitLen_half x h0 hx]; omega

/-- The bytes of a number whose top limb of n + 1 is l. -/
theorem dl_top (x n l r : Nat) (he : x = l * 2 ^ (64 * n) + r) (hr : r < 2 ^ (64 * n)) (h0 : l ≠ 0) (hl : l < 2 ^ 64) : dl x = 8 * n + (Lib.bitLen l + 7) / 8 := by
  have h1 := bl_lt l hl
  have h2 := bl_ge l h0 hl
  have h3 := bl_pos l h0 hl
  apply Nat.le_antisymm
  · rw [dl_le_iff, show (256 : Nat) = 2 ^ 8 by decide, ← Nat.pow_mul]
    have hle : 2 ^ (Lib.bitLen l + 64 * n) ≤ 2 ^ (8 * (8 * n + (Lib.bitLen l + 7) / 8)) := Nat.pow_le_pow_right (by decide) (by omega)
    rw [Nat.pow_add] at hle
    have : (l + 1) * 2 ^ (64 * n) ≤ 2 ^ Lib.bitLen l * 2 ^ (64 * n) := Nat.mul_le_mul_right _ h1
    rw [Nat.add_mul, Nat.one_mul] at this
    omega
  · apply Nat.le_of_not_lt
    intro hc
    have hc' : dl x ≤ 8 * n + (Lib.bitLen l + 7) / 8 - 1 := by omega
    rw [dl_le_iff, show (256 : Nat) = 2 ^ 8 by decide, ← Nat.pow_mul] at hc'
    have hle : 2 ^ (8 * (8 * n + (Lib.bitLen l + 7) / 8 - 1)) ≤ 2 ^ (Lib.bitLen l - 1 + 64 * n) := Nat.pow_le_pow_right (by decide) (by omega)
    rw [Nat.pow_add] at hle
    have h4 : 2 ^ (Lib.bitLen l - 1) ≤ l := by
      have : 2 ^ Lib.bitLen l = 2 ^ (Lib.bitLen l - 1) * 2 := by rw [← Nat.pow_succ]; congr 1; omega
      omega
    have := Nat.mul_le_mul_right (2 ^ (64 * n)) h4
    omega

theorem dl_nlim (x : Nat) (hx : x < P256) : (nlim x = 0 ∧ x = 0) ∨ (1 ≤ nlim x ∧ lim x (nlim x - 1) ≠ 0 ∧ dl x = 8 * (nlim x - 1) + (Lib.bitLen (lim x (nlim x - 1)) + 7) / 8) := by
  obtain ⟨e, h0, h1, h2, h3⟩ := lim4 x hx
  unfold nlim
  split
  next h =>
    right; refine ⟨by omega, h, ?_⟩
    exact dl_top x 3 (lim x 3) (lim x 0 + 18446744073709551616 * (lim x 1 + 18446744073709551616 * lim x 2)) (by rw [show (2 : Nat) ^ (64 * 3) = 6277101735386680763835789423207666416102355444464034512896 by decide]; omega) (by rw [show (2 : Nat) ^ (64 * 3) = 6277101735386680763835789423207666416102355444464034512896 by decide]; omega) h h3
  next h =>
    have hz : lim x 3 = 0 := by omega
    rw [hz] at e
    split
    next h =>
      right; refine ⟨by omega, h, ?_⟩
      exact dl_top x 2 (lim x 2) (lim x 0 + 18446744073709551616 * lim x 1) (by rw [show (2 : Nat) ^ (64 * 2) = 340282366920938463463374607431768211456 by decide]; omega) (by rw [show (2 : Nat) ^ (64 * 2) = 340282366920938463463374607431768211456 by decide]; omega) h h2
    next h =>
      have hz : lim x 2 = 0 := by omega
      rw [hz] at e
      split
      next h =>
        right; refine ⟨by omega, h, ?_⟩
        exact dl_top x 1 (lim x 1) (lim x 0) (by rw [show (2 : Nat) ^ (64 * 1) = 18446744073709551616 by decide]; omega) (by rw [show (2 : Nat) ^ (64 * 1) = 18446744073709551616 by decide]; omega) h h1
      next h =>
        have hz : lim x 1 = 0 := by omega
        rw [hz] at e
        split
        next h =>
          right; refine ⟨by omega, h, ?_⟩
          exact dl_top x 0 (lim x 0) 0 (by rw [show (2 : Nat) ^ (64 * 0) = 1 by decide]; omega) (by decide) h h0
        next h => left; exact ⟨rfl, by omega⟩

set_option maxHeartbeats 800000 in
theorem uNBytes (x : Nat) (w : World) (hx : x < P256) :
    Calls Hvah.prog 415 #[wv x] w fun e w' => e = .returned (.int .u8 (dl x : Nat)) ∧ Ext w w' := by
  have hL := nlim_le x
  have HL := fun W => uLimbs x W
  have HM := fun j W => mLen64 (lim x j) W (lim_lt _ _)
  have HB0 := bl_le64 (lim x 0) (lim_lt' _ _)
  have HB1 := bl_le64 (lim x 1) (lim_lt' _ _)
  have HB2 := bl_le64 (lim x 2) (lim_lt' _ _)
  have HB3 := bl_le64 (lim x 3) (lim_lt' _ _)
  rcases dl_nlim x hx with ⟨h1, h2⟩ | ⟨h1, h2, h3⟩
  · have HD : Hid (dl x = 0) := by unfold Hid; rw [h2]; exact dl_zero
    rw [h1] at HL
    clear h2 h1
    go_enter Hvah.func415, Hvah.ntmps415
    go_wp2_with (go_at_call 261; refine (HL _).mono ?_; rintro e w1 ⟨rfl, he⟩)
    go_ret
    exact ⟨by rw [HD.out]; rfl, ((Ext.refl _).alloc _ _).trans he⟩
  · have HD : Hid (_ = _) := h3
    clear h3 h2
    rcases (show nlim x = 1 ∨ nlim x = 2 ∨ nlim x = 3 ∨ nlim x = 4 by omega) with h | h | h | h
    all_goals
      rw [h] at HL HD
      simp only [Nat.reduceSub] at HD
      clear h1
      go_enter Hvah.func415, Hvah.ntmps415
      go_wp2_with (first
        | (go_at_call 261; refine (HL _).mono ?_; rintro e w1 ⟨rfl, he⟩; have hrc := he.rc; have hrf := he.rf; have hz2 : w.heap.size < w1.heap.size := by (have := he.size; simp at this; omega))
        | (go_at_call 262; refine (HM _ _).mono ?_; rintro e w2 ⟨rfl, rfl⟩))
    all_goals
      go_ret
      have := HD.out
      exact ⟨congrArg Ending.returned (int_eq (by omega)), ((Ext.refl _).alloc _ _).trans he⟩

/-- The four limbs. -/
def limbs (x : Nat) : List Nat := [lim x 0, lim x 1, lim x 2, lim x 3]
theorem cell_box {w : World} {g x : Nat} {t : TypeId} {fz : Nat × Nat} (h : w.heap[g]? = some (.cells #[.int .u64 (lim x 0 : Nat), .int .u64 (lim x 1 : Nat), .int .u64 (lim x 2 : Nat), .int .u64 (lim x 3 : Nat)] t fz)) : ∀ j, j < 4 → w.cell? ⟨g, j, none⟩ = some (.int .u64 (lim x j : Nat)) := fun j hj => by
  simp only [World.cell?, h]
  rcases (show j = 0 ∨ j = 1 ∨ j = 2 ∨ j = 3 by omega) with rfl | rfl | rfl | rfl <;> rfl
theorem cell_urow {w : World} {g : Nat} {l : List Nat} {t : TypeId} {fz : Nat × Nat} (h : w.heap[g]? = some (.cells (ucells l).toArray t fz)) : ∀ (j : Nat) (hj : j < l.length), w.cell? ⟨g, j, none⟩ = some (.int .u64 (l[j] : Nat)) := fun j hj => by
  simp [World.cell?, h, ucells, hj]
theorem frozen_urow {w : World} {g : Nat} {l : List Nat} {t : TypeId} (h : w.heap[g]? = some (.cells (ucells l).toArray t (0, 0))) : ∀ j, w.frozen? ⟨g, j, none⟩ = false := fun j => by
  simp [World.frozen?, h]
theorem heap_setU {w : World} {g : Nat} {l : List Nat} {t : TypeId} {fz : Nat × Nat} (h : w.heap[g]? = some (.cells (ucells l).toArray t fz)) (i v : Nat) : (w.setCell ⟨g, i, none⟩ (.int .u64 v)).heap[g]? = some (.cells (ucells (l.set i v)).toArray t fz) := by
  simp [World.setCell, Array.getElem?_modify, h, ucells, List.map_set]

/-- The result of a shift up, its limbs below k; above them 0. -/
def upRow (z k : Nat) : List Nat := [if 0 < k then lim z 0 else 0, if 1 < k then lim z 1 else 0, if 2 < k then lim z 2 else 0, if 3 < k then lim z 3 else 0]
theorem upRow_set (z k : Nat) (hk : k < 4) : (upRow z k).set k (lim z k) = upRow z (k + 1) := by
  rcases (show k = 0 ∨ k = 1 ∨ k = 2 ∨ k = 3 by omega) with rfl | rfl | rfl | rfl <;> rfl

/-- A limb of a number cut at 2^256. -/
theorem lim_cut (a k : Nat) (hk : k < 4) : lim (a % P256) k = a / 2 ^ (64 * k) % 2 ^ 64 := by
  rw [lim_pow, P256_eq, mod_div_mod a 256 (64 * k) 64 (by omega)]
theorem pow64 : (18446744073709551616 : Nat) = 2 ^ 64 := by decide
theorem up_low (x q r : Nat) (hq : q < 4) : lim (x * 2 ^ (64 * q + r) % P256) q = lim x 0 * 2 ^ r % 18446744073709551616 := by
  rw [lim_cut _ _ hq, Nat.add_comm, Nat.pow_add, ← Nat.mul_assoc, Nat.mul_div_cancel _ (Nat.two_pow_pos _), lim_pow, Nat.mul_zero, Nat.pow_zero, Nat.div_one, pow64, Nat.mod_mul_mod]
theorem up_high (x q r k : Nat) (hr : r < 64) (hq : q < k) (hk : k < 4) : lim (x * 2 ^ (64 * q + r) % P256) k = (lim x (k - q) * 2 ^ r % 18446744073709551616) ||| (lim x (k - q - 1) / 2 ^ (64 - r)) := by
  obtain ⟨m, rfl⟩ : ∃ m, k = q + m + 1 := ⟨k - q - 1, by omega⟩
  rw [show q + m + 1 - q = m + 1 by omega, show m + 1 - 1 = m by omega, lim_cut _ _ hk, show 64 * (q + m + 1) = 64 * m + (64 - r) + (64 * q + r) by omega, Nat.pow_add 2 (64 * m + (64 - r)) (64 * q + r), Nat.mul_div_mul_right _ _ (Nat.two_pow_pos _)]
  rw [Nat.pow_add 2 (64 * m) (64 - r), ← Nat.div_div_eq_div_mul, lim_pow, lim_pow, show 64 * (m + 1) = 64 * m + 64 by omega, Nat.pow_add (2) (64 * m) 64, ← Nat.div_div_eq_div_mul, pow64]
  generalize x / 2 ^ (64 * m) = y
  have hP : (2 : Nat) ^ 64 = 2 ^ (64 - r) * 2 ^ r := by rw [← Nat.pow_add]; congr 1; omega
  have h1 : y = y / 2 ^ 64 * 2 ^ 64 + y % 2 ^ 64 := by omega
  have h2 : y / 2 ^ (64 - r) = y / 2 ^ 64 * 2 ^ r + y % 2 ^ 64 / 2 ^ (64 - r) := by
    conv => lhs; rw [h1]
    rw [hP, Nat.mul_comm (2 ^ (64 - r)), ← Nat.mul_assoc, Nat.add_comm, Nat.add_mul_div_right _ _ (Nat.two_pow_pos _), Nat.add_comm]
  have h3 : y % 2 ^ 64 / 2 ^ (64 - r) < 2 ^ r := by
    apply Nat.div_lt_of_lt_mul
    rw [← hP]; exact Nat.mod_lt _ (by decide)
  rw [h2, Nat.mod_mul_mod]
  generalize y / 2 ^ 64 = b at *
  generalize y % 2 ^ 64 / 2 ^ (64 - r) = c at *
  have h4 : (b * 2 ^ r) % 2 ^ 64 = (b % 2 ^ (64 - r)) * 2 ^ r := by rw [hP, Nat.mul_mod_mul_right]
  rw [h4, or_low r _ c h3]
  have h5 : (b % 2 ^ (64 - r)) * 2 ^ r + c < 2 ^ 64 := by
    have : b % 2 ^ (64 - r) + 1 ≤ 2 ^ (64 - r) := Nat.mod_lt _ (Nat.two_pow_pos _)
    have := Nat.mul_le_mul_right (2 ^ r) this
    rw [Nat.add_mul, Nat.one_mul, ← hP] at this
    omega
  rw [Nat.add_mod, h4, Nat.mod_eq_of_lt (Nat.lt_of_lt_of_le h3 (Nat.pow_le_pow_right (n := 2) (by decide) (by omega))), Nat.mod_eq_of_lt h5]
theorem up_zero (x q r k : Nat) (hk : k < q) (hq : q < 4) : lim (x * 2 ^ (64 * q + r) % P256) k = 0 := by
  rw [lim_cut _ _ (by omega), show 64 * q + r = 64 * k + 64 + (64 * (q - k - 1) + r) by omega, Nat.pow_add, Nat.pow_add]
  rw [show x * (2 ^ (64 * k) * 2 ^ 64 * 2 ^ (64 * (q - k - 1) + r)) = (x * 2 ^ (64 * (q - k - 1) + r) * 2 ^ 64) * 2 ^ (64 * k) by ac_rfl, Nat.mul_div_cancel _ (Nat.two_pow_pos _), Nat.mul_mod_left]

theorem wrap_up (a r : Nat) : IntKind.u64.wrap ((a : Int) * 2 ^ r) = ((a * 2 ^ r % 18446744073709551616 : Nat) : Int) := by
  rw [IntKind.wrap_u64, Int.natCast_emod, Int.natCast_mul, Int.natCast_pow]; rfl
theorem or_div (a b t : Nat) (ha : a < 18446744073709551616) (hb : b < 18446744073709551616) : bits .or .u64 (a : Nat) ((b : Int) / 2 ^ t) = ((a ||| b / 2 ^ t : Nat) : Int) := by
  have e : ((b : Int) / 2 ^ t) = ((b / 2 ^ t : Nat) : Int) := by rw [Int.natCast_ediv, Int.natCast_pow]; rfl
  rw [e, u64_or_nat _ _ ha (Nat.lt_of_le_of_lt (Nat.div_le_self _ _) hb)]
theorem cell_there {w : World} {g : Nat} {p q r s : Value} {t : TypeId} {fz : Nat × Nat} (h : w.heap[g]? = some (.cells #[p, q, r, s] t fz)) : w.cell? ⟨g, 0, none⟩ = some p ∧ w.cell? ⟨g, 1, none⟩ = some q ∧ w.cell? ⟨g, 2, none⟩ = some r ∧ w.cell? ⟨g, 3, none⟩ = some s := by
  simp only [World.cell?, h]; simp
theorem frozen_there {w : World} {g : Nat} {c : Array Value} {t : TypeId} (h : w.heap[g]? = some (.cells c t (0, 0))) : ∀ j, w.frozen? ⟨g, j, none⟩ = false := fun j => by
  simp [World.frozen?, h]
set_option maxHeartbeats 1600000 in
theorem uShl (s x : Nat) (w : World) (hs : s < P256) :
    Calls Hvah.prog 298 #[wv s, wv x] w fun e w' => e = .returned (wv (if s < 256 then x * 2 ^ s % P256 else 0)) ∧ Ext w w' := by
  have HL := fun W => uBelow s 256 W hs (by omega)
  by_cases hlt : s < 256
  · have HI : Hid (low64 s = s) := by simp [Hid, low64]; omega
    rw [HI.out] at HL
    simp only [hlt, decide_true] at HL
    rw [if_pos hlt]
    obtain ⟨q, r, HQ, HR, HS⟩ : ∃ q r, s / 64 = q ∧ s % 64 = r ∧ s = 64 * q + r := ⟨_, _, rfl, rfl, by omega⟩
    have hq : (s : Int) / 64 = q := by omega
    have hr : (s : Int) % 64 = r := by omega
    have hq4 : q < 4 := by omega
    have hr4 : r < 64 := by omega
    have Z0 := up_zero x q r
    have Z1 := up_low x q r hq4
    have Z2 := up_high x q r
    have hz : x * 2 ^ s % P256 < P256 := Nat.mod_lt _ P256_pos
    rw [← HS] at Z0 Z1 Z2
    generalize x * 2 ^ s % P256 = z at *
    clear HQ HR HS
    go_enter Hvah.func298, Hvah.ntmps298
    go_wp2_with (go_at_call 387; refine (HL _).mono ?_; rintro e w1 ⟨rfl, he⟩; have hrc := he.rc; have hrf := he.rf; have hz2 : w.heap.size + 1 + 1 < w1.heap.size := by (have := he.size; simp at this; omega))
    have hbx : w1.heap[w.heap.size + 1]? = some (.cells #[.int .u64 (lim x 0 : Nat), .int .u64 (lim x 1 : Nat), .int .u64 (lim x 2 : Nat), .int .u64 (lim x 3 : Nat)] 79 (0, 0)) := by
      rw [he.block _ (by simp), Below.heap_alloc _ _ _ (by simp)]; exact heap_new' _ _ (by simp)
    have hB := cell_box hbx
    have hb1 : w.heap.size + 1 < w1.heap.size := by omega
    clear hrc hrf hbx
    go_loopw [8] (fun i wr => ∃ k : Nat, q ≤ k ∧ k ≤ 4 ∧ i = .int .u64 k ∧ wr.heap[w1.heap.size]? = some (.cells (ucells (upRow z k)).toArray 79 (0, 0)) ∧ Ext w1 wr) (fun i wr => 4 - (intOf i).toNat)
    case atStart =>
      refine ⟨q, by omega, by omega, int_eq (by omega), ?_, (Ext.refl _).alloc _ _⟩
      have : upRow z q = [0, 0, 0, 0] := by
        unfold upRow
        congr 1
        · split; exact Z0 0 (by omega) hq4; rfl
        congr 1
        · split; exact Z0 1 (by omega) hq4; rfl
        congr 1
        · split; exact Z0 2 (by omega) hq4; rfl
        congr 1
        · split; exact Z0 3 (by omega) hq4; rfl
      rw [this]; exact heap_new' _ _ rfl
    case round =>
      obtain ⟨k, hqk, hk, rfl, hrow, hext⟩ := hrel
      by_cases hk4 : k < 4
      · have hrc := hext.rc
        have fr := frozen_urow hrow
        have hgs : w1.heap.size < wr.heap.size := (Array.getElem?_eq_some_iff.1 hrow).1
        have c1 := (hrc _ (k - q) hb1).trans (hB (k - q) (by omega))
        have cg := cell_urow hrow k (by simp [upRow]; omega)
        have HS : Hid (∀ v, (wr.setCell ⟨w1.heap.size, k, none⟩ (.int .u64 (v : Nat))).heap[w1.heap.size]? = some (.cells (ucells ((upRow z k).set k v)).toArray 79 (0, 0))) := fun v => heap_setU hrow k v
        by_cases hkq : k = q
        · subst hkq
          have ZZ : Hid (_ = _) := Z1
          clear Z0 Z1 Z2
          go_wp2
          refine ⟨⟨k + 1, by omega, by omega, int_eq (by omega), ?_, hext.setCell (Nat.le_refl _) _⟩, by simp [intOf]; omega⟩
          rw [wrap_up, HS.out, ← ZZ.out, upRow_set z k hk4]
        · have c2 := (hrc _ (k - q - 1) hb1).trans (hB (k - q - 1) (by omega))
          have ZZ : Hid (_ = _) := Z2 k hr4 (by omega) hk4
          clear Z0 Z1 Z2 hrc hB
          have hqk' : q < k := by omega
          go_wp2
          go_region
          go_wp2
          refine ⟨⟨k + 1, by omega, by omega, int_eq (by omega), ?_, ((hext.setCell (Nat.le_refl _) _).setCell (Nat.le_refl _) _).drew⟩, by simp [intOf]; omega⟩
          rw [wrap_up, or_div _ _ _ (Nat.mod_lt _ (by decide)) (lim_lt _ _)]
          refine (heap_setU (HS.out _) k _).trans ?_
          rw [List.set_set, ← ZZ.out, upRow_set z k hk4]
      · have : k = 4 := by omega
        subst this
        have hrow' : wr.heap[w1.heap.size]? = some (.cells #[.int .u64 (lim z 0 : Nat), .int .u64 (lim z 1 : Nat), .int .u64 (lim z 2 : Nat), .int .u64 (lim z 3 : Nat)] 79 (0, 0)) := hrow
        have g0 := cell_box hrow' 0 (by decide)
        have g1 := cell_box hrow' 1 (by decide)
        have g2 := cell_box hrow' 2 (by decide)
        have g3 := cell_box hrow' 3 (by decide)
        have hb : wr.heap[w.heap.size + 1 + 1]? = some (.cells #[.int .u64 0, .int .u64 0, .int .u64 0, .int .u64 0] 79 (0, 0)) := by
          rw [hext.block _ hz2, he.block _ (by simp)]; exact heap_new' _ _ (by simp)
        have r0 := cell_there hb
        have f0 := frozen_there hb
        clear hrow hrow' hB Z0 Z1 Z2
        go_wp2
        refine post_set4' Hvah.results298 rfl rfl hb (lim_lt _ _) (lim_lt _ _) (lim_lt _ _) (lim_lt _ _) (W4_lim z hz) ⟨rfl, ?_⟩
        exact ext_set4 ((((((Ext.refl _).alloc _ _).alloc _ _).alloc _ _).trans he).trans hext) (by omega) _ _ _ _
  · simp only [hlt, decide_false, if_false] at HL ⊢
    have h0 : (0 : Nat) < 18446744073709551616 := by decide
    go_enter Hvah.func298, Hvah.ntmps298
    go_wp2_with (go_at_call 387; refine (HL _).mono ?_; rintro e w1 ⟨rfl, he⟩; have hrc := he.rc; have hrf := he.rf; have hz2 : w.heap.size + 1 + 1 < w1.heap.size := by (have := he.size; simp at this; omega))
    have hb : w1.heap[w.heap.size + 1 + 1]? = some (.cells #[.int .u64 0, .int .u64 0, .int .u64 0, .int .u64 0] 79 (0, 0)) := by
      rw [he.block _ (by simp)]; exact heap_new' _ _ (by simp)
    refine post_set4' (a := 0) (b := 0) (c := 0) (d := 0) Hvah.results298 rfl rfl hb h0 h0 h0 h0 rfl ⟨rfl, ?_⟩
    exact ext_set4 (((((Ext.refl _).alloc _ _).alloc _ _).alloc _ _).trans he) (by omega) _ _ _ _
end Go.Proofs.YgvahwGreat
