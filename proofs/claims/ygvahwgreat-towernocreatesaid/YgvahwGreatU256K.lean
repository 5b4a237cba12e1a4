import Derived.Test.YgvahwGreatU256J
namespace Go.Proofs.YgvahwGreat
open Go.RowKit
attribute [local go_sem] wv_fold

/-- A word's block. -/
def WB (w : World) (g x : Nat) : Prop := w.heap[g]? = some (.cells #[.int .u64 (lim x 0 : Nat), .int .u64 (lim x 1 : Nat), .int .u64 (lim x 2 : Nat), .int .u64 (lim x 3 : Nat)] 79 (0, 0))
theorem WB.lt {w : World} {g x : Nat} (h : WB w g x) : g < w.heap.size := (Array.getElem?_eq_some_iff.1 h).1
theorem WB.ext {w w' : World} {g x : Nat} (h : WB w g x) (e : Ext w w') : WB w' g x := (e.block g h.lt).trans h
theorem WB.c0 {w : World} {g x : Nat} (h : WB w g x) : w.cell? ⟨g, 0, none⟩ = some (.int .u64 (lim x 0 : Nat)) := cell_box h 0 (by decide)
theorem WB.c1 {w : World} {g x : Nat} (h : WB w g x) : w.cell? ⟨g, 1, none⟩ = some (.int .u64 (lim x 1 : Nat)) := cell_box h 1 (by decide)
theorem WB.c2 {w : World} {g x : Nat} (h : WB w g x) : w.cell? ⟨g, 2, none⟩ = some (.int .u64 (lim x 2 : Nat)) := cell_box h 2 (by decide)
theorem WB.c3 {w : World} {g x : Nat} (h : WB w g x) : w.cell? ⟨g, 3, none⟩ = some (.int .u64 (lim x 3 : Nat)) := cell_box h 3 (by decide)
theorem WB.fz {w : World} {g x : Nat} (h : WB w g x) : ∀ j, w.frozen? ⟨g, j, none⟩ = false := frozen_there h
/-- The cells of a word's block, for the walk. -/
abbrev WB4 (w : World) (g x : Nat) : Prop := w.cell? ⟨g, 0, none⟩ = some (.int .u64 (lim x 0 : Nat)) ∧ w.cell? ⟨g, 1, none⟩ = some (.int .u64 (lim x 1 : Nat)) ∧ w.cell? ⟨g, 2, none⟩ = some (.int .u64 (lim x 2 : Nat)) ∧ w.cell? ⟨g, 3, none⟩ = some (.int .u64 (lim x 3 : Nat))
theorem WB.all {w : World} {g x : Nat} (h : WB w g x) : WB4 w g x := ⟨h.c0, h.c1, h.c2, h.c3⟩
theorem WB.set {w : World} {g x : Nat} (h : WB w g x) (y : Nat) : WB ((((w.setCell ⟨g, 0, none⟩ (.int .u64 (lim y 0 : Nat))).setCell ⟨g, 1, none⟩ (.int .u64 (lim y 1 : Nat))).setCell ⟨g, 2, none⟩ (.int .u64 (lim y 2 : Nat))).setCell ⟨g, 3, none⟩ (.int .u64 (lim y 3 : Nat))) g y := heap_set4 h
theorem WB.off {w : World} {g x b o : Nat} {v : Value} (h : WB w g x) (hb : g ≠ b) : WB (w.setCell ⟨b, o, none⟩ v) g x := (Below.heap_setCell _ _ _ _ hb).trans h
theorem WB.off4 {w : World} {g x b : Nat} {v0 v1 v2 v3 : Value} (h : WB w g x) (hb : g ≠ b) : WB ((((w.setCell ⟨b, 0, none⟩ v0).setCell ⟨b, 1, none⟩ v1).setCell ⟨b, 2, none⟩ v2).setCell ⟨b, 3, none⟩ v3) g x := (((h.off hb).off hb).off hb).off hb
theorem WB.zero {w : World} {g : Nat} (h : w.heap[g]? = some (.cells #[.int .u64 0, .int .u64 0, .int .u64 0, .int .u64 0] 79 (0, 0))) : WB w g 0 := h
theorem WB.post {fn : Func} {R : Ending → World → Prop} {ac : Act} {w : World} {t : Tmp} {g x : Nat} (h : WB w g x) (hx : x < P256) (hf : fn.results = #[.cell t 79]) (ht : ac.tmps.getD t undef = .pointer (some ⟨g, 0, none⟩)) (hdf : ac.defers = []) (hR : R (.returned (wv x)) w) : bodyPost Hvah.prog fn R .ret ac w :=
  post_word hf ht h hdf (lim_lt _ _) (lim_lt _ _) (lim_lt _ _) (lim_lt _ _) (W4_lim x hx) hR

theorem powm (a e f : Nat) : a ^ e % P256 * (a ^ f % P256) % P256 = a ^ (e + f) % P256 := by rw [← Nat.mul_mod, Nat.pow_add]
theorem bitK (b k : Nat) : bits .and .u64 ((lim b (k / 64) : Int) / 2 ^ (k % 64)) 1 = ((b / 2 ^ k % 2 : Nat) : Int) := by
  have h1 : lim b (k / 64) / 2 ^ (k % 64) < 18446744073709551616 := Nat.lt_of_le_of_lt (Nat.div_le_self _ _) (lim_lt _ _)
  have := u64_and_nat (lim b (k / 64) / 2 ^ (k % 64)) 1 h1 (by omega)
  have e : ((lim b (k / 64) : Int) / 2 ^ (k % 64)) = ((lim b (k / 64) / 2 ^ (k % 64) : Nat) : Int) := by rw [Int.natCast_ediv, Int.natCast_pow]; rfl
  have e2 := Nat.and_two_pow_sub_one_eq_mod (lim b (k / 64) / 2 ^ (k % 64)) 1
  rw [e]
  refine this.trans ?_
  rw [show lim b (k / 64) / 2 ^ (k % 64) &&& 1 = lim b (k / 64) / 2 ^ (k % 64) % 2 ^ 1 from e2, lim_pow, mod_div_mod _ 64 (k % 64) 1 (by omega), Nat.div_div_eq_div_mul, ← Nat.pow_add, show 64 * (k / 64) + k % 64 = k by omega]

theorem Ext.setC4 {a w : World} (h : Ext a w) {g : Nat} (hg : a.heap.size ≤ g) (v0 v1 v2 v3 : Value) : Ext a ((((w.setCell ⟨g, 0, none⟩ v0).setCell ⟨g, 1, none⟩ v1).setCell ⟨g, 2, none⟩ v2).setCell ⟨g, 3, none⟩ v3) := ext_set4 h hg v0 v1 v2 v3
theorem bit_step (b k : Nat) : b % 2 ^ (k + 1) = b % 2 ^ k + 2 ^ k * (b / 2 ^ k % 2) := by rw [Nat.pow_succ, Nat.mod_mul]
theorem bit_zero (b k : Nat) (h : b / 2 ^ k % 2 = 0) : b % 2 ^ (k + 1) = b % 2 ^ k := by rw [bit_step, h]; omega
theorem bit_one (b k : Nat) (h : b / 2 ^ k % 2 = 1) : b % 2 ^ (k + 1) = b % 2 ^ k + 2 ^ k := by rw [bit_step, h]; omega
theorem pow_zero_mod (a k L r : Nat) (hk : k < L) (h : a ^ (2 ^ (k + 1)) % P256 = 0) : a ^ (2 ^ L + r) % P256 = 0 := by
  have e : 2 ^ L = 2 ^ (k + 1) * 2 ^ (L - k - 1) := by rw [← Nat.pow_add]; congr 1; omega
  have h1 : 1 ≤ 2 ^ (L - k - 1) := Nat.one_le_two_pow
  obtain ⟨m, hm⟩ : ∃ m, 2 ^ L + r = 2 ^ (k + 1) + m := ⟨2 ^ L + r - 2 ^ (k + 1), by
    have := Nat.mul_le_mul_left (2 ^ (k + 1)) h1
    omega⟩
  rw [hm, Nat.pow_add, Nat.mul_mod, h, Nat.zero_mul]; rfl
/-- The number's top bit. -/
theorem top_bit (b n : Nat) (h0 : lim b n ≠ 0) (hd : dl b = 8 * n + (Lib.bitLen (lim b n) + 7) / 8) : b = 2 ^ (64 * n + Lib.bitLen (lim b n) - 1) + b % 2 ^ (64 * n + Lib.bitLen (lim b n) - 1) := by
  have hl := lim_lt' b n
  have h1 := bl_lt (lim b n) hl
  have h2 := bl_ge (lim b n) h0 hl
  have h3 := bl_pos (lim b n) h0 hl
  have h4 := bl_le64 (lim b n) hl
  have h5 : b < 2 ^ (64 * n + 64) := by
    have := (dl_le_iff b (8 * n + 8)).1 (by omega)
    rw [show (256 : Nat) = 2 ^ 8 by decide, ← Nat.pow_mul, show 8 * (8 * n + 8) = 64 * n + 64 by omega] at this
    exact this
  have h6 : lim b n = b / 2 ^ (64 * n) := by
    rw [lim_pow, Nat.mod_eq_of_lt]
    apply Nat.div_lt_of_lt_mul
    rw [← Nat.pow_add]; exact h5
  generalize Lib.bitLen (lim b n) = B at *
  have h7 : b / 2 ^ (64 * n + B - 1) = 1 := by
    rw [show 64 * n + B - 1 = 64 * n + (B - 1) by omega, Nat.pow_add, ← Nat.div_div_eq_div_mul, ← h6]
    have e : 2 ^ B = 2 ^ (B - 1) * 2 := by rw [← Nat.pow_succ]; congr 1; omega
    rw [Nat.div_eq_of_lt_le] <;> omega
  have := Nat.div_add_mod b (2 ^ (64 * n + B - 1))
  rw [h7, Nat.mul_one] at this
  exact this.symm

set_option maxHeartbeats 3200000 in
theorem uExp (a b : Nat) (w : World) (ha : a < P256) (hb : b < P256) :
    Calls Hvah.prog 286 #[wv a, wv b] w fun e w' => e = .returned (wv (a ^ b % P256)) ∧ Ext w w' := by
  have hz : a ^ b % P256 < P256 := Nat.mod_lt _ P256_pos
  have hL := nlim_le b
  have HL := fun W => uLimbs b W
  have HM := fun j W => mLen64 (lim b j) W (lim_lt _ _)
  rcases dl_nlim b hb with ⟨h1, h2⟩ | ⟨h1, h2, h3⟩
  · have HR : Hid (a ^ b % P256 = 1) := by unfold Hid; rw [h2, Nat.pow_zero]; decide
    rw [h1] at HL
    clear h1 h2 hL
    go_enter Hvah.func286, Hvah.ntmps286
    go_wp2_with (first
      | (go_at_call 261; refine (HL _).mono ?_; rintro e w1 ⟨rfl, he⟩; have hrc := he.rc; have hrf := he.rf; have hz2 : w.heap.size + 1 + 1 + 1 < w1.heap.size := by (have := he.size; simp at this; omega)))
    have B2 : WB w1 (w.heap.size + 1 + 1) 0 := by (refine (he.block _ (by simp)).trans ?_; rw [Below.heap_alloc _ _ _ (by simp)]; exact heap_new' _ _ (by simp))
    rw [HR.out]
    refine (B2.set 1).post (by decide) Hvah.results286 rfl rfl ⟨rfl, ?_⟩
    exact ((((((Ext.refl _).alloc _ _).alloc _ _).alloc _ _).alloc _ _).trans he).setC4 (by omega) _ _ _ _
  · obtain ⟨n, hn⟩ : ∃ n, nlim b = n + 1 := ⟨nlim b - 1, by omega⟩
    rw [hn] at HL h2 h3
    rw [show n + 1 - 1 = n by omega] at h2 h3
    have hn4 : n < 4 := by omega
    have hbl := bl_le64 (lim b n) (lim_lt' _ _)
    have hbp := bl_pos (lim b n) h2 (lim_lt' _ _)
    have HT : Hid (b = 2 ^ (64 * n + Lib.bitLen (lim b n) - 1) + b % 2 ^ (64 * n + Lib.bitLen (lim b n) - 1)) := top_bit b n h2 h3
    clear h1 h2 h3 hn hL
    go_enter Hvah.func286, Hvah.ntmps286
    go_wp2_with (first
      | (go_at_call 261; refine (HL _).mono ?_; rintro e w1 ⟨rfl, he⟩; have hz2 : w.heap.size + 1 + 1 + 1 < w1.heap.size := by (have := he.size; simp at this; omega)
         have B0 : WB w1 w.heap.size a := by (refine (he.block _ (by simp; omega)).trans ?_; rw [Below.heap_alloc _ _ _ (by simp; omega), Below.heap_alloc _ _ _ (by simp; omega), Below.heap_alloc _ _ _ (by simp)]; exact heap_new _ _)
         have B1 : WB w1 (w.heap.size + 1) b := by (refine (he.block _ (by simp)).trans ?_; rw [Below.heap_alloc _ _ _ (by simp), Below.heap_alloc _ _ _ (by simp)]; exact heap_new' _ _ (by simp))
         have B2 : WB w1 (w.heap.size + 1 + 1) 0 := by (refine (he.block _ (by simp)).trans ?_; rw [Below.heap_alloc _ _ _ (by simp)]; exact heap_new' _ _ (by simp))
         have B3 : WB w1 (w.heap.size + 1 + 1 + 1) 1 := by (refine (he.block _ (by simp)).trans ?_; exact heap_new' _ _ (by simp))
         have cn := cell_box B1 n hn4)
      | (go_at_call 262; refine (HM _ _).mono ?_; rintro e w2 ⟨rfl, rfl⟩))
    obtain ⟨L, hLi, hL1, hL2⟩ : ∃ L : Nat, Hid (L = 64 * n + Lib.bitLen (lim b n) - 1) ∧ 64 * (n : Int) + (Lib.bitLen (lim b n) : Nat) - 1 = (L : Int) ∧ L < 256 := ⟨64 * n + Lib.bitLen (lim b n) - 1, rfl, by omega, by omega⟩
    rw [← hLi.out] at HT
    rw [hL1]
    clear cn hbl hbp hL1
    go_loopw [8] (fun i wr => ∃ k p A : Nat, k ≤ L ∧ i = .int .i64 k ∧ WB wr w.heap.size A ∧ WB wr (w.heap.size + 1) b ∧ WB wr (w.heap.size + 1 + 1) 0 ∧ WB wr (w.heap.size + 1 + 1 + 1) p ∧ Hid (p = a ^ (b % 2 ^ k) % P256) ∧ Hid (A = a ^ (2 ^ k) % P256) ∧ Ext w wr) (fun i wr => L - (intOf i).toNat)
    case atStart => exact ⟨0, 1, a, by omega, rfl, B0, B1, B2, B3, by unfold Hid; rw [Nat.pow_zero, Nat.mod_one, Nat.pow_zero]; rfl, by unfold Hid; rw [Nat.pow_zero, Nat.pow_one, Nat.mod_eq_of_lt ha], (((((Ext.refl _).alloc _ _).alloc _ _).alloc _ _).alloc _ _).trans he⟩
    case round =>
      clear B0 B1 B2 B3 he hz2
      obtain ⟨k, p, A, hk, rfl, B0, B1, B2, B3, hp, hA, hext⟩ := hrel
      have hpP : p < P256 := by rw [hp.out]; exact Nat.mod_lt _ P256_pos
      have hAP : A < P256 := by rw [hA.out]; exact Nat.mod_lt _ P256_pos
      by_cases hkL : k < L
      · have C0 := B0.all
        have C1 := cell_box B1 (k / 64) (by omega)
        have C3 := B3.all
        have F0 := B0.fz
        have F2 := B2.fz
        have F3 := B3.fz
        have HB : Hid (_ = _) := bitK b k
        have HSq := fun W => uSquare A W hAP
        have HPm := fun W => uMul p A W hpP hAP
        have hq : A * A % P256 < P256 := Nat.mod_lt _ P256_pos
        have hq2 : p * A % P256 < P256 := Nat.mod_lt _ P256_pos
        have HZ := fun W => uIsZero (A * A % P256) W hq
        have D0 : Hid (A * A % P256 = a ^ (2 ^ (k + 1)) % P256) := by unfold Hid; rw [hA.out, powm]; congr 2; omega
        have D1 : Hid (p * A % P256 = a ^ (b % 2 ^ k + 2 ^ k) % P256) := by unfold Hid; rw [hp.out, hA.out, powm]
        generalize A * A % P256 = A2 at *
        generalize p * A % P256 = p2 at *
        rcases Nat.mod_two_eq_zero_or_one (b / 2 ^ k) with hbit | hbit
        · have hb0 : (bits .and .u64 ((lim b (k / 64) : Int) / 2 ^ (k % 64)) 1 != 0) = false := by rw [HB.out, hbit]; rfl
          have HBt : Hid (_ = _) := hbit
          clear hbit
          by_cases hA0 : A2 = 0
          · have hdd : decide (A2 = 0) = true := by simp [hA0]
            simp only [hdd] at HZ
            clear hdd
            have HA0 : Hid (A2 = 0) := hA0
            have HR : Hid (a ^ b % P256 = 0) := by unfold Hid; rw [HT.out]; exact pow_zero_mod a k L _ hkL (by rw [← D0.out, hA0])
            clear hA0
            go_wp2_with (first
             | (go_at_call 386; refine (HSq _).mono ?_; rintro e w3 ⟨rfl, he3⟩; have Y0 := B0.ext he3; have Y1 := B1.ext he3; have Y2 := B2.ext he3; have Y3 := B3.ext he3; have c0 := Y0.all; have f0 := Y0.fz)
             | (go_at_call 87; refine (HZ _).mono ?_; rintro e w4 ⟨rfl, he4⟩; have Z2 := (Y2.off4 (v0 := .int .u64 (lim A2 0 : Nat)) (v1 := .int .u64 (lim A2 1 : Nat)) (v2 := .int .u64 (lim A2 2 : Nat)) (v3 := .int .u64 (lim A2 3 : Nat)) (show w.heap.size + 1 + 1 ≠ w.heap.size by omega)).ext he4; have z2 := Z2.all; have f2 := Z2.fz))
            rw [HR.out]
            refine (Z2.set 0).post P256_pos Hvah.results286 rfl rfl ⟨rfl, ?_⟩
            exact (((hext.trans he3).setC4 (Nat.le_refl _) _ _ _ _).trans he4).setC4 (by omega) _ _ _ _
          · have hdd : decide (A2 = 0) = false := by simp [hA0]
            simp only [hdd] at HZ
            clear hdd
            go_wp2_with (first
             | (go_at_call 386; refine (HSq _).mono ?_; rintro e w3 ⟨rfl, he3⟩; have Y0 := B0.ext he3; have Y1 := B1.ext he3; have Y2 := B2.ext he3; have Y3 := B3.ext he3; have c0 := Y0.all; have f0 := Y0.fz)
             | (go_at_call 87; refine (HZ _).mono ?_; rintro e w4 ⟨rfl, he4⟩))
            refine ⟨⟨k + 1, p, A2, by omega, int_eq (by omega), (Y0.set A2).ext he4, (Y1.off4 (by omega)).ext he4, (Y2.off4 (by omega)).ext he4, (Y3.off4 (by omega)).ext he4, ?_, D0, (((hext.trans he3).setC4 (Nat.le_refl _) _ _ _ _).trans he4)⟩, by simp [intOf]; omega⟩
            unfold Hid
            rw [hp.out, bit_zero b k HBt.out]
        · have hb0 : (bits .and .u64 ((lim b (k / 64) : Int) / 2 ^ (k % 64)) 1 != 0) = true := by rw [HB.out, hbit]; rfl
          have HBt : Hid (_ = _) := hbit
          clear hbit
          by_cases hA0 : A2 = 0
          · have hdd : decide (A2 = 0) = true := by simp [hA0]
            simp only [hdd] at HZ
            clear hdd
            have HA0 : Hid (A2 = 0) := hA0
            have HR : Hid (a ^ b % P256 = 0) := by unfold Hid; rw [HT.out]; exact pow_zero_mod a k L _ hkL (by rw [← D0.out, hA0])
            clear hA0
            go_wp2_with (first
             | (go_at_call 104; refine (HPm _).mono ?_; rintro e w5 ⟨rfl, he5⟩; have X0 := B0.ext he5; have X1 := B1.ext he5; have X2 := B2.ext he5; have X3 := B3.ext he5; have c0 := X0.all; have c3 := X3.all; have f3 := X3.fz; have f0 := X0.fz; have hs5 := he5.size)
             | (go_at_call 386; refine (HSq _).mono ?_; rintro e w3 ⟨rfl, he3⟩; have Y0 := (X0.off4 (v0 := .int .u64 (lim p2 0 : Nat)) (v1 := .int .u64 (lim p2 1 : Nat)) (v2 := .int .u64 (lim p2 2 : Nat)) (v3 := .int .u64 (lim p2 3 : Nat)) (show w.heap.size ≠ w.heap.size + 1 + 1 + 1 by omega)).ext he3; have Y1 := (X1.off4 (v0 := .int .u64 (lim p2 0 : Nat)) (v1 := .int .u64 (lim p2 1 : Nat)) (v2 := .int .u64 (lim p2 2 : Nat)) (v3 := .int .u64 (lim p2 3 : Nat)) (show w.heap.size + 1 ≠ w.heap.size + 1 + 1 + 1 by omega)).ext he3; have Y2 := (X2.off4 (v0 := .int .u64 (lim p2 0 : Nat)) (v1 := .int .u64 (lim p2 1 : Nat)) (v2 := .int .u64 (lim p2 2 : Nat)) (v3 := .int .u64 (lim p2 3 : Nat)) (show w.heap.size + 1 + 1 ≠ w.heap.size + 1 + 1 + 1 by omega)).ext he3; have Y3 := (X3.set p2).ext he3; have c0 := Y0.all; have f0 := Y0.fz)
             | (go_at_call 87; refine (HZ _).mono ?_; rintro e w4 ⟨rfl, he4⟩; have Z2 := (Y2.off4 (v0 := .int .u64 (lim A2 0 : Nat)) (v1 := .int .u64 (lim A2 1 : Nat)) (v2 := .int .u64 (lim A2 2 : Nat)) (v3 := .int .u64 (lim A2 3 : Nat)) (show w.heap.size + 1 + 1 ≠ w.heap.size by omega)).ext he4; have z2 := Z2.all; have f2 := Z2.fz))
            rw [HR.out]
            refine (Z2.set 0).post P256_pos Hvah.results286 rfl rfl ⟨rfl, ?_⟩
            exact (((((hext.trans he5).setC4 (by omega) _ _ _ _).trans he3).setC4 (Nat.le_refl _) _ _ _ _).trans he4).setC4 (by omega) _ _ _ _
          · have hdd : decide (A2 = 0) = false := by simp [hA0]
            simp only [hdd] at HZ
            clear hdd
            go_wp2_with (first
             | (go_at_call 104; refine (HPm _).mono ?_; rintro e w5 ⟨rfl, he5⟩; have X0 := B0.ext he5; have X1 := B1.ext he5; have X2 := B2.ext he5; have X3 := B3.ext he5; have c0 := X0.all; have c3 := X3.all; have f3 := X3.fz; have f0 := X0.fz; have hs5 := he5.size)
             | (go_at_call 386; refine (HSq _).mono ?_; rintro e w3 ⟨rfl, he3⟩; have Y0 := (X0.off4 (v0 := .int .u64 (lim p2 0 : Nat)) (v1 := .int .u64 (lim p2 1 : Nat)) (v2 := .int .u64 (lim p2 2 : Nat)) (v3 := .int .u64 (lim p2 3 : Nat)) (show w.heap.size ≠ w.heap.size + 1 + 1 + 1 by omega)).ext he3; have Y1 := (X1.off4 (v0 := .int .u64 (lim p2 0 : Nat)) (v1 := .int .u64 (lim p2 1 : Nat)) (v2 := .int .u64 (lim p2 2 : Nat)) (v3 := .int .u64 (lim p2 3 : Nat)) (show w.heap.size + 1 ≠ w.heap.size + 1 + 1 + 1 by omega)).ext he3; have Y2 := (X2.off4 (v0 := .int .u64 (lim p2 0 : Nat)) (v1 := .int .u64 (lim p2 1 : Nat)) (v2 := .int .u64 (lim p2 2 : Nat)) (v3 := .int .u64 (lim p2 3 : Nat)) (show w.heap.size + 1 + 1 ≠ w.heap.size + 1 + 1 + 1 by omega)).ext he3; have Y3 := (X3.set p2).ext he3; have c0 := Y0.all; have f0 := Y0.fz)
             | (go_at_call 87; refine (HZ _).mono ?_; rintro e w4 ⟨rfl, he4⟩))
            refine ⟨⟨k + 1, p2, A2, by omega, int_eq (by omega), (Y0.set A2).ext he4, (Y1.off4 (by omega)).ext he4, (Y2.off4 (by omega)).ext he4, (Y3.off4 (by omega)).ext he4, ?_, D0, (((((hext.trans he5).setC4 (by omega) _ _ _ _).trans he3).setC4 (Nat.le_refl _) _ _ _ _).trans he4)⟩, by simp [intOf]; omega⟩
            unfold Hid
            rw [D1.out, bit_one b k HBt.out]
      · have hkL' : k = L := by omega
        subst hkL'
        have HPm := fun W => uMul p A W hpP hAP
        have hq2 : p * A % P256 < P256 := Nat.mod_lt _ P256_pos
        have D1 : Hid (a ^ b % P256 = p * A % P256) := by unfold Hid; rw [HT.out, hp.out, hA.out, powm, Nat.add_comm]
        generalize p * A % P256 = p2 at *
        have C0 := B0.all
        have C3 := B3.all
        go_wp2_with (first | (go_at_call 104; refine (HPm _).mono ?_; rintro e w5 ⟨rfl, he5⟩; have X2 := B2.ext he5; have c2 := X2.all; have f2 := X2.fz))
        rw [D1.out]
        refine (X2.set p2).post hq2 Hvah.results286 rfl rfl ⟨rfl, ?_⟩
        exact (hext.trans he5).setC4 (by omega) _ _ _ _
end Go.Proofs.YgvahwGreat
