import Derived.Test.YgvahwGreatU256F
namespace Go.Proofs.YgvahwGreat
open Go.RowKit
attribute [local go_sem] wv_fold

/-- A word whose sign is spread from byte k on. -/
def sextW (k x : Nat) : Nat := if k < 31 then (if x % 2 ^ (8 * k + 8) < 2 ^ (8 * k + 7) then x % 2 ^ (8 * k + 8) else x % 2 ^ (8 * k + 8) + (P256 - 2 ^ (8 * k + 8))) else x
/-- A limb whose sign is spread, s bits spare. -/
def sxl (l s : Nat) : Nat := if l % 2 ^ (64 - s) < 2 ^ (63 - s) then l % 2 ^ (64 - s) else l % 2 ^ (64 - s) + (18446744073709551616 - 2 ^ (64 - s))
def sxf (l s : Nat) : Nat := if l % 2 ^ (64 - s) < 2 ^ (63 - s) then 0 else 18446744073709551615
theorem sx_int (l r : Nat) (hr : r < 8) :
    IntKind.u64.wrap (wrap64 (IntKind.u64.wrap ((l : Int) * 2 ^ (56 - 8 * r))) / 2 ^ (56 - 8 * r)) = ((sxl l (56 - 8 * r) : Nat) : Int) ∧ IntKind.u64.wrap (wrap64 ((sxl l (56 - 8 * r) : Nat) : Int) / 9223372036854775808) = ((sxf l (56 - 8 * r) : Nat) : Int) := by
  rcases (show r = 0 ∨ r = 1 ∨ r = 2 ∨ r = 3 ∨ r = 4 ∨ r = 5 ∨ r = 6 ∨ r = 7 by omega) with rfl | rfl | rfl | rfl | rfl | rfl | rfl | rfl
  all_goals
    simp only [IntKind.wrap_u64, wrap64, sxl, sxf, Nat.reduceMul, Nat.reduceSub, Nat.reducePow, Int.reducePow]
    split <;> omega
theorem sext_lt (k x : Nat) (hx : x < P256) : sextW k x < P256 := by
  unfold sextW
  split
  · have h1 : x % 2 ^ (8 * k + 8) < 2 ^ (8 * k + 8) := Nat.mod_lt _ (Nat.two_pow_pos _)
    have h2 : 2 ^ (8 * k + 8) ≤ P256 := by rw [P256_eq]; exact Nat.pow_le_pow_right (by decide) (by omega)
    split <;> omega
  · exact hx
theorem lim_parts (low a T j : Nat) (hlow : low < 2 ^ (64 * a)) : lim (low + 2 ^ (64 * a) * T) j = if j < a then lim low j else lim T (j - a) := by
  split
  next h =>
    rw [lim_pow, lim_pow, ← mod_div_mod _ (64 * a) (64 * j) 64 (by omega), Nat.add_mul_mod_self_left, mod_div_mod _ (64 * a) (64 * j) 64 (by omega)]
  next h =>
    rw [lim_pow, lim_pow]
    conv => lhs; rw [show 64 * j = 64 * a + 64 * (j - a) by omega, Nat.pow_add, ← Nat.div_div_eq_div_mul, Nat.add_mul_div_left _ _ (Nat.two_pow_pos _), Nat.div_eq_of_lt hlow, Nat.zero_add]
theorem lim_low (x a j : Nat) (h : j < a) : lim (x % 2 ^ (64 * a)) j = lim x j := by
  rw [lim_pow, lim_pow, mod_div_mod _ (64 * a) (64 * j) 64 (by omega)]
theorem ones_lim : ∀ a : Fin 4, ∀ i : Fin 3, i.val + a.val < 3 → lim (2 ^ (192 - 64 * a.val) - 1) i.val = 18446744073709551615 := by decide +kernel
theorem lim_small (x j : Nat) (hx : x < 18446744073709551616) : lim x j = if j = 0 then x else 0 := by
  unfold lim
  split
  next h => subst h; omega
  next h =>
    rw [Nat.div_eq_of_lt (Nat.lt_of_lt_of_le hx _)]
    obtain ⟨i, rfl⟩ : ∃ i, j = i + 1 := ⟨j - 1, by omega⟩
    rw [Nat.pow_succ]
    have : 0 < 18446744073709551616 ^ i := Nat.pos_of_ne_zero (by intro h; simp at h)
    omega
theorem sext_limb (k x j : Nat) (hk : k < 31) (hj : j < 4) : lim (sextW k x) j = if j < k / 8 then lim x j else if j = k / 8 then sxl (lim x (k / 8)) (56 - 8 * (k % 8)) else sxf (lim x (k / 8)) (56 - 8 * (k % 8)) := by
  obtain ⟨a, r, HS, ha, hr⟩ : ∃ a r, k = 8 * a + r ∧ k / 8 = a ∧ k % 8 = r := ⟨_, _, by omega, rfl, rfl⟩
  rw [ha, hr]
  have hr8 : r < 8 := by omega
  have ha4 : a < 4 := by omega
  have e1 : x % 2 ^ (8 * k + 8) = x % 2 ^ (64 * a) + 2 ^ (64 * a) * (lim x a % 2 ^ (8 * r + 8)) := by
    rw [show 8 * k + 8 = 64 * a + (8 * r + 8) by omega, Nat.pow_add, Nat.mod_mul, lim_pow, Nat.mod_mod_of_dvd _ (Nat.pow_dvd_pow 2 (by omega))]
  have e2 : 2 ^ (8 * k + 7) = 2 ^ (64 * a) * 2 ^ (8 * r + 7) := by rw [← Nat.pow_add]; congr 1; omega
  have e3 : 2 ^ (8 * k + 8) = 2 ^ (64 * a) * 2 ^ (8 * r + 8) := by rw [← Nat.pow_add]; congr 1; omega
  have hlow : x % 2 ^ (64 * a) < 2 ^ (64 * a) := Nat.mod_lt _ (Nat.two_pow_pos _)
  have hm : lim x a % 2 ^ (8 * r + 8) < 2 ^ (8 * r + 8) := Nat.mod_lt _ (Nat.two_pow_pos _)
  have hc : 2 ^ (8 * r + 8) ≤ 18446744073709551616 := by rw [pow64]; exact Nat.pow_le_pow_right (by decide) (by omega)
  unfold sextW sxl sxf
  rw [if_pos hk, e1, e2, e3, show 64 - (56 - 8 * r) = 8 * r + 8 by omega, show 63 - (56 - 8 * r) = 8 * r + 7 by omega]
  have hcond : (x % 2 ^ (64 * a) + 2 ^ (64 * a) * (lim x a % 2 ^ (8 * r + 8)) < 2 ^ (64 * a) * 2 ^ (8 * r + 7)) ↔ lim x a % 2 ^ (8 * r + 8) < 2 ^ (8 * r + 7) := by
    constructor
    · intro h
      apply Nat.lt_of_not_le
      intro hle
      have := Nat.mul_le_mul_left (2 ^ (64 * a)) hle
      omega
    · intro h
      have := Nat.mul_le_mul_left (2 ^ (64 * a)) (Nat.succ_le_of_lt h)
      rw [Nat.succ_eq_add_one, Nat.mul_add, Nat.mul_one] at this
      omega
  generalize lim x a % 2 ^ (8 * r + 8) = m at *
  by_cases hs : m < 2 ^ (8 * r + 7)
  · rw [if_pos (hcond.2 hs), if_pos hs, if_pos hs, lim_parts _ _ _ _ hlow]
    split
    next h => exact lim_low _ _ _ h
    next h =>
      rw [lim_small _ _ (by omega)]
      split
      next h2 => rw [if_pos (by omega)]
      next h2 => rw [if_neg (by omega)]
  · rw [if_neg (fun h => hs (hcond.1 h)), if_neg hs, if_neg hs]
    have hP : P256 = 2 ^ (64 * a) * (18446744073709551616 * 2 ^ (192 - 64 * a)) := by
      rw [P256_eq, pow64, ← Nat.pow_add, ← Nat.pow_add]; congr 1; omega
    have h1 : 1 ≤ 2 ^ (192 - 64 * a) := Nat.one_le_two_pow
    have e4 : x % 2 ^ (64 * a) + 2 ^ (64 * a) * m + (P256 - 2 ^ (64 * a) * 2 ^ (8 * r + 8)) = x % 2 ^ (64 * a) + 2 ^ (64 * a) * ((m + (18446744073709551616 - 2 ^ (8 * r + 8))) + 2 ^ (64 * 1) * (2 ^ (192 - 64 * a) - 1)) := by
      rw [hP, ← Nat.mul_sub, Nat.add_assoc, ← Nat.mul_add]
      congr 2
      rw [show (2 : Nat) ^ (64 * 1) = 18446744073709551616 by decide, Nat.mul_sub, Nat.mul_one]
      have : 18446744073709551616 ≤ 18446744073709551616 * 2 ^ (192 - 64 * a) := Nat.le_mul_of_pos_right _ (Nat.two_pow_pos _)
      omega
    rw [e4, lim_parts _ _ _ _ hlow]
    split
    next h => exact lim_low _ _ _ h
    next h =>
      rw [lim_parts _ 1 _ _ (by rw [show (2 : Nat) ^ (64 * 1) = 18446744073709551616 by decide]; omega)]
      split
      next h2 =>
        rw [if_pos (show j = a by omega), lim_small _ _ (by omega), if_pos (by omega)]
      next h2 =>
        rw [if_neg (show ¬ j = a by omega)]
        exact ones_lim ⟨a, ha4⟩ ⟨j - a - 1, by omega⟩ (by show j - a - 1 + a < 3; omega)

def midRow (z x k : Nat) : List Nat := [if 0 < k then lim z 0 else lim x 0, if 1 < k then lim z 1 else lim x 1, if 2 < k then lim z 2 else lim x 2, if 3 < k then lim z 3 else lim x 3]
theorem midRow_set (z x k : Nat) (hk : k < 4) : (midRow z x k).set k (lim z k) = midRow z x (k + 1) := by
  rcases (show k = 0 ∨ k = 1 ∨ k = 2 ∨ k = 3 by omega) with rfl | rfl | rfl | rfl <;> rfl

set_option maxHeartbeats 1600000 in
theorem uSignExtend (k x : Nat) (w : World) (hk : k < P256) (hx : x < P256) :
    Calls Hvah.prog 287 #[wv k, wv x] w fun e w' => e = .returned (wv (sextW k x)) ∧ Ext w w' := by
  have HL := fun W => uBelow k 31 W hk (by omega)
  have hz := sext_lt k x hx
  by_cases hlt : k < 31
  · have HI : Hid (low64 k = k) := by simp [Hid, low64]; omega
    rw [HI.out] at HL
    simp only [hlt, decide_true] at HL
    obtain ⟨a, r, HQ, HR, HS⟩ : ∃ a r, k / 8 = a ∧ k % 8 = r ∧ k = 8 * a + r := ⟨_, _, rfl, rfl, by omega⟩
    have Z := fun j hj => sext_limb k x j hlt hj
    generalize sextW k x = z at *
    have ha4 : a < 4 := by omega
    have hr8 : r < 8 := by omega
    rw [HQ, HR] at Z
    have ha : (8 * (k : Int) + 7) / 64 = a := by omega
    have hr : 63 - (8 * (k : Int) + 7) % 64 = ((56 - 8 * r : Nat) : Int) := by omega
    obtain ⟨S1, S2⟩ := sx_int (lim x a) r hr8
    have T1 : Hid (_ = _) := S1
    have T2 : Hid (_ = _) := S2
    have HZ : Hid (∀ j, j < 4 → _) := Z
    have hs63 : 56 - 8 * r < 64 := by omega
    clear S1 S2 Z HQ HR HS
    generalize 56 - 8 * r = s at *
    go_enter Hvah.func287, Hvah.ntmps287
    go_wp2_with (go_at_call 387; refine (HL _).mono ?_; rintro e w1 ⟨rfl, he⟩; have hz2 : w.heap.size + 1 + 1 < w1.heap.size := by (have := he.size; simp at this; omega)
                 have hbx : w1.heap[w.heap.size + 1]? = some (.cells #[.int .u64 (lim x 0 : Nat), .int .u64 (lim x 1 : Nat), .int .u64 (lim x 2 : Nat), .int .u64 (lim x 3 : Nat)] 79 (0, 0)) := by
                   (rw [he.block _ (by simp), Below.heap_alloc _ _ _ (by simp)]; exact heap_new' _ _ (by simp))
                 have c1 := cell_box hbx a ha4
                 have f1 := frozen_there hbx a)
    have hbx' : w1.heap[w.heap.size + 1]? = some (.cells (ucells (midRow z x a)).toArray 79 (0, 0)) := by
      rw [hbx]
      have hm : midRow z x a = [lim x 0, lim x 1, lim x 2, lim x 3] := by
        unfold midRow
        congr 1
        · split; rw [HZ.out 0 (by omega), if_pos (by omega)]; rfl
        congr 1
        · split; rw [HZ.out 1 (by omega), if_pos (by omega)]; rfl
        congr 1
        · split; rw [HZ.out 2 (by omega), if_pos (by omega)]; rfl
        congr 1
        · split; rw [HZ.out 3 (by omega), if_pos (by omega)]; rfl
      rw [hm]; rfl
    have hs := heap_setU hbx' a (lim z a)
    rw [midRow_set _ _ _ ha4] at hs
    have za : lim z a = sxl (lim x a) s := by rw [HZ.out a ha4, if_neg (by omega), if_pos rfl]
    have zh : ∀ j, a < j → j < 4 → lim z j = sxf (lim x a) s := fun j h1 h2 => by rw [HZ.out j h2, if_neg (by omega), if_neg (by omega)]
    rw [za] at hs
    rw [T1.out, T2.out]
    have hbr : w1.heap[w.heap.size + 1 + 1]? = some (.cells #[.int .u64 0, .int .u64 0, .int .u64 0, .int .u64 0] 79 (0, 0)) := by
      rw [he.block _ (by simp)]; exact heap_new' _ _ (by simp)
    clear hbx hbx' za T1 T2 HZ c1 f1
    go_loopw [10] (fun i wr => ∃ k : Nat, a < k ∧ k ≤ 4 ∧ i = .int .u64 k ∧ wr.heap[w.heap.size + 1]? = some (.cells (ucells (midRow z x k)).toArray 79 (0, 0)) ∧ Upd (w.heap.size + 1) w1 wr) (fun i wr => 4 - (intOf i).toNat)
    case atStart => exact ⟨a + 1, by omega, by omega, int_eq (by omega), hs, (Upd.refl _ _).setCell _ _⟩
    case round =>
      obtain ⟨k, hqk, hk, rfl, hrow, hext⟩ := hrel
      by_cases hk4 : k < 4
      · have fr := frozen_urow hrow k
        have cg := cell_urow hrow k (by simp [midRow]; omega)
        have ZZ : Hid (_ = _) := zh k hqk hk4
        have HS : Hid (∀ v, (wr.setCell ⟨w.heap.size + 1, k, none⟩ (.int .u64 (v : Nat))).heap[w.heap.size + 1]? = some (.cells (ucells ((midRow z x k).set k v)).toArray 79 (0, 0))) := fun v => heap_setU hrow k v
        clear zh hs
        go_wp2
        refine ⟨⟨k + 1, by omega, by omega, int_eq (by omega), ?_, hext.setCell _ _⟩, by simp [intOf]; omega⟩
        rw [HS.out, ← ZZ.out, midRow_set z x k hk4]
      · have : k = 4 := by omega
        subst this
        have hrow' : wr.heap[w.heap.size + 1]? = some (.cells #[.int .u64 (lim z 0 : Nat), .int .u64 (lim z 1 : Nat), .int .u64 (lim z 2 : Nat), .int .u64 (lim z 3 : Nat)] 79 (0, 0)) := hrow
        have g0 := cell_box hrow' 0 (by decide)
        have g1 := cell_box hrow' 1 (by decide)
        have g2 := cell_box hrow' 2 (by decide)
        have g3 := cell_box hrow' 3 (by decide)
        have hb : wr.heap[w.heap.size + 1 + 1]? = some (.cells #[.int .u64 0, .int .u64 0, .int .u64 0, .int .u64 0] 79 (0, 0)) := by
          rw [hext.block _ (by omega)]; exact hbr
        have r0 := cell_there hb
        have f0 := frozen_there hb
        clear hrow hrow' zh hs hbr
        go_wp2
        refine post_set4' Hvah.results287 rfl rfl hb (lim_lt _ _) (lim_lt _ _) (lim_lt _ _) (lim_lt _ _) (W4_lim z hz) ⟨rfl, ?_⟩
        exact ext_set4 (Ext.upd (((((Ext.refl _).alloc _ _).alloc _ _).alloc _ _).trans he) hext (by omega)) (by omega) _ _ _ _
  · have hx' : sextW k x = x := if_neg hlt
    rw [hx']
    simp only [hlt, decide_false] at HL
    go_enter Hvah.func287, Hvah.ntmps287
    go_wp2_with (go_at_call 387; refine (HL _).mono ?_; rintro e w1 ⟨rfl, he⟩; have hrc := he.rc; have hrf := he.rf; have hz2 : w.heap.size + 1 + 1 < w1.heap.size := by (have := he.size; simp at this; omega))
    have hb : w1.heap[w.heap.size + 1 + 1]? = some (.cells #[.int .u64 0, .int .u64 0, .int .u64 0, .int .u64 0] 79 (0, 0)) := by
      rw [he.block _ (by simp)]; exact heap_new' _ _ (by simp)
    refine post_set4' Hvah.results287 rfl rfl hb (lim_lt _ _) (lim_lt _ _) (lim_lt _ _) (lim_lt _ _) (W4_lim x hx) ⟨rfl, ?_⟩
    exact ext_set4 (((((Ext.refl _).alloc _ _).alloc _ _).alloc _ _).trans he) (by omega) _ _ _ _
end Go.Proofs.YgvahwGreat
