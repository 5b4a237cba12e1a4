import Derived.Test.YgvahwGreatDr
namespace Go.Proofs.YgvahwGreat
open Go.RowKit
set_option linter.unusedSimpArgs false
theorem lay_over2 (c c' : Nat → Value) (n i : Nat) (h : i < n) : layv c 0 (rowOf c' 0 n) i = c' i := by
  unfold layv
  rw [if_pos ⟨Nat.zero_le _, by rw [rowOf_size]; omega⟩]
  rw [show (rowOf c' 0 n).getD (i - 0) undef = cf (rowOf c' 0 n) i from rfl, cf_rowOf _ _ _ h, Nat.zero_add]
theorem lz_of (y : Nat) (hy0 : y ≠ 0) (hy : y < 18446744073709551616) : ∃ s : Nat, s < 64 ∧ (64 - (Lib.bitLen y : Int)) = (s : Int) ∧ 9223372036854775808 ≤ y * 2 ^ s ∧ (y + 1) * 2 ^ s ≤ 18446744073709551616 := by
  have b1 := bl_lt y hy
  have b2 := bl_ge y hy0 hy
  have b3 := bl_pos y hy0 hy
  have b4 := bl_le64 y hy
  obtain ⟨s, hs⟩ : ∃ s, s = 64 - Lib.bitLen y := ⟨_, rfl⟩
  have eB : (18446744073709551616 : Nat) = 2 ^ Lib.bitLen y * 2 ^ s := by rw [← Nat.pow_add, show Lib.bitLen y + s = 64 by omega]
  refine ⟨s, by omega, by omega, ?_, ?_⟩
  · have : 2 ^ Lib.bitLen y * 2 ^ s ≤ 2 * y * 2 ^ s := Nat.mul_le_mul_right _ b2
    rw [← eB, Nat.mul_assoc] at this
    omega
  · rw [eB]; exact Nat.mul_le_mul_right _ b1
/-- The cells of a way. -/
def pc (a b c : Int) (i : Nat) : Value := if i = 0 then .int .u8 a else if i = 1 then .int .u8 b else .int .u8 c
theorem pc_ones (a b c : Int) (o n : Nat) : Ones (rowOf (pc a b c) o n) := ones_of (fun q hq => by rw [rowOf_size] at hq; rw [cf_rowOf _ _ _ hq]; unfold pc; split; rfl; split <;> rfl)
theorem pc_1 {w : World} {P : Nat} {a b c d : Int} (h : Blk w P 3 416 (updv (pc a b c) 1 (.int .u8 d))) : Blk w P 3 416 (pc a d c) := h.same (fun i hi => by
  rcases (show i = 0 ∨ i = 1 ∨ i = 2 by omega) with rfl | rfl | rfl <;> rfl)
theorem pc_2 {w : World} {P : Nat} {a b c d : Int} (h : Blk w P 3 416 (updv (pc a b c) 2 (.int .u8 d))) : Blk w P 3 416 (pc a b d) := h.same (fun i hi => by
  rcases (show i = 0 ∨ i = 1 ∨ i = 2 by omega) with rfl | rfl | rfl <;> rfl)
theorem pc_0 {w : World} {P : Nat} {d : Int} (h : Blk w P 3 416 (updv (fun _ => Value.int .u8 0) 0 (.int .u8 d))) : Blk w P 3 416 (pc d 0 0) := h.same (fun i hi => by
  rcases (show i = 0 ∨ i = 1 ∨ i = 2 by omega) with rfl | rfl | rfl <;> rfl)
theorem getD_snoc0 (x : List Nat) (i : Nat) : (x ++ [0]).getD i 0 = x.getD i 0 := by
  simp only [List.getD_eq_getElem?_getD]
  by_cases h : i < x.length
  · rw [List.getElem?_append_left h]
  · rw [List.getElem?_append_right (by omega), List.getElem?_eq_none (l := x) (by omega)]
    by_cases h2 : i - x.length = 0
    · rw [h2]; rfl
    · rw [List.getElem?_eq_none (by simp; omega)]
theorem getD_take_lt (l : List Nat) (n i : Nat) (h : i < n) : (l.take n).getD i 0 = l.getD i 0 := by
  simp [List.getD_eq_getElem?_getD, List.getElem?_take, h]
set_option maxRecDepth 100000 in
set_option maxHeartbeats 6400000 in
theorem uRemD (g h n top : Nat) (t t' : TypeId) (x m : List Nat) (w : World) (hx : UB w g t x) (hm : UB w h t' m) (lx : x.length = 16) (lm : m.length = 8) (dx : L64 x) (dm : L64 m) (hn : n ≤ 8) (hmz : ∀ i, n ≤ i → i < 8 → m.getD i 0 = 0) (hmt : 0 < n → m.getD (n - 1) 0 ≠ 0) (ht : top ≤ 16) (hxz : ∀ i, top ≤ i → i < 16 → x.getD i 0 = 0) (hxt : 0 < top → x.getD (top - 1) 0 ≠ 0) (hn2 : 2 ≤ n) (htn : n ≤ top) : Calls Hvah.prog 368 #[.pointer (some ⟨g, 0, none⟩), .pointer (some ⟨h, 0, none⟩)] w fun e w' => ∃ rl pv, e = .returned (.tuple #[.agg (ucells rl).toArray, .agg pv]) ∧ rl.length = 8 ∧ L64 rl ∧ pv.size = 3 ∧ Ones pv ∧ lv rl = dmod (lv x) (lv m) ∧ Ext w w' := by
  have HL := fun W (hW : Ext w W) => uLimbsW h n t' m W (hm.ext hW) lm hn hmz hmt
  go_enter Hvah.func368, Hvah.ntmps368
  go_upto_region 3 with (first | ((with_reducible (refine Veil.out ?_; apply wl_allocF z337d)); rintro R W1 e1 bR gR) | ((with_reducible (refine Veil.out ?_; apply wl_allocF z408)); rintro P W2 e2 bP gP) | (go_at_call 409; refine (HL _ (by (repeat (first | with_reducible exact Ext.refl _ | with_reducible assumption | refine Ext.trans ?_ (by with_reducible assumption) | refine Ext.alloc ?_ _ _ | refine Ext.drew ?_ | refine Ext.drewN ?_ _)))).mono ?_; rintro e w1 ⟨rfl, hww⟩; replace hww := hww.symm; subst hww))
  try simp only [Act.put]
  have gPw : w.heap.size ≤ P := Nat.le_trans e1.size gP
  have hRP : ¬ R = P := fun q => by have := bR.lt; omega
  have bR2 := bR.ext e2
  have hE2 : Ext w W2 := e1.trans e2
  clear bR e1 e2
  go_loopw [7] (fun iv wr => ∃ k : Nat, iv = .int .u8 (k : Nat) ∧ top ≤ k ∧ k ≤ 16 ∧ wr = W2) (fun iv _ => (intOf iv).toNat)
  case atStart => exact ⟨16, rfl, ht, by decide, rfl⟩
  case round =>
    obtain ⟨k, rfl, hk1, hk2, hww⟩ := hrel
    replace hww := hww.symm
    subst hww
    rcases Nat.eq_zero_or_pos k with hk0 | hk0
    · subst hk0
      obtain rfl : top = 0 := by omega
      exact absurd htn (by omega)
    · have k0 : (0 : Int) < k := by omega
      have j1 : IntKind.u8.wrap ((k : Int) - 1) = ((k - 1 : Nat) : Int) := by rw [IntKind.wrap_u8]; omega
      have i1 : ((k - 1 : Nat) : Int) < 16 := by omega
      have K1 := (hx.ext hE2).atD (i := k - 1) (by omega)
      rcases Nat.lt_or_ge top k with hlt | hge
      · rw [hxz (k - 1) (by omega) (by omega)] at K1
        obtain ⟨p, hp⟩ : ∃ p, Hid (k - 1 = p) := ⟨_, rfl⟩
        rw [hp.out] at K1 j1 i1
        go_wp2_with ((with_reducible (refine Veil.out ?_; apply wl_loadC onet26k)); (case hw => first | rfl | go_simp); (case hx => rfl); (case hc => exact K1))
        go_roundw
        case rel => have hp2 := hp.out; exact ⟨p, int_eq (by omega), by omega, by omega, trivial⟩
        case measure => have hp2 := hp.out; simp [intOf]; omega
      · obtain rfl : top = k := by omega
        have hne := hxt hk0
        obtain ⟨p, hp⟩ : ∃ p, Hid (top - 1 = p) := ⟨_, rfl⟩
        rw [hp.out] at K1 j1 i1 hne
        obtain ⟨y, hy⟩ : ∃ y, Hid (x.getD p 0 = y) := ⟨_, rfl⟩
        rw [hy.out] at K1 hne
        have hb : ((y : Int) == 0) = false := by simp; omega
        have hlvm : lv m ≠ 0 := by
          have e3 := lv_ge m (n - 1) (by omega)
          have e5 : Bn (n - 1) * 1 ≤ Bn (n - 1) * m.getD (n - 1) 0 := Nat.mul_le_mul_left _ (by have := hmt (by omega); omega)
          have := Bn_pos (n - 1)
          omega
        have hne2 : Hid (lv m ≠ 0) := hlvm
        clear hlvm
        have HPA := fun W U => run_arrayAt W 345 24 8 8 17 (some ⟨U, 0, none⟩) under337d (Nat.le_refl _)
        have c1 : ((n : Int) == 0) = false := by simp; omega
        have c2 : ¬ (top : Int) < n := by omega
        have c3 : ((n : Int) == 1) = false := by simp; omega
        obtain ⟨d0, hd0⟩ : ∃ d, Hid (top - n = d) := ⟨_, rfl⟩
        obtain ⟨rd, hrd⟩ : ∃ d, Hid (d0 + 1 = d) := ⟨_, rfl⟩
        have s1 : IntKind.u8.wrap ((top : Int) - n) = (d0 : Int) := by have h1 := hd0.out; rw [IntKind.wrap_u8]; omega
        have s2 : IntKind.u8.wrap ((d0 : Int) + 1) = (rd : Int) := by have h1 := hd0.out; have h2 := hrd.out; rw [IntKind.wrap_u8]; omega
        go_upto_region 19 with (first | ((with_reducible (refine Veil.out ?_; apply wl_loadC onet26k)); (case hw => first | rfl | go_simp); (case hx => rfl); (case hc => exact K1)) | ((with_reducible (refine Veil.out ?_; apply wl_storeC onet5k (v := .int .u8 (rd : Nat)))); (case hx => rfl); (case hy => rfl); (case h1 => rfl); (case hB => exact bP.ext (by (repeat (first | with_reducible exact Ext.refl _ | with_reducible assumption | refine Ext.trans ?_ (by with_reducible assumption) | refine Ext.alloc ?_ _ _ | refine Ext.drew ?_ | refine Ext.drewN ?_ _)))); (case hi => decide); rintro W6 b6 m6))
        have hE6 : Ext w W6 := Ext.trans_mod hE2 m6 (fun q hq => by have hq2 : q = P := hq; rw [hq2]; exact gPw)
        have bR6 := bR2.mod m6 hRP
        have bP6 := pc_0 b6
        clear bP bR2 m6 K1 b6
        go_upto_region 20 with (first | ((with_reducible (refine Veil.out ?_; apply wl_allocF z448)); rintro U W8 e8 bU gU))
        have hE8 : Ext w W8 := hE6.trans e8
        have gUw : w.heap.size ≤ U := Nat.le_trans hE6.size gU
        have hUR : ¬ U = R := fun q => by have := bR6.lt; omega
        have hUP : ¬ U = P := fun q => by have := bP6.lt; omega
        refine w_ext ?_
        rintro W0 hW0
        refine wp_region_held_drew (S := fun w' => (0 ≤ (w' : World).heap.size)) (by kernel_rfl) (Nat.zero_le _) (fun hHeld => ?_)
        have HH : Hid ((0 ≤ (_ : World).heap.size)) := hHeld
        clear hHeld
        refine wpAnyH_take (i := 0) (v := ?_) rfl (by kernel_rfl) (by kernel_rfl) (by kernel_rfl) (fun _ _ _ h => h) (Or.inl ⟨by rfl, ?_⟩) HH.out ?_
        rotate_left
        · intro w hSw; go_simp; try with_reducible rfl
        change wpAnyH _ _ _ _ _ _ _ (Act.put _ (some 81) _) _
        simp only [Act.put, List.setIfInBounds_toArray, List.set_cons_zero, List.set_cons_succ]
        refine wpAnyH_take (i := 1) (v := ?_) rfl (by kernel_rfl) (by kernel_rfl) (by kernel_rfl) (fun _ _ _ h => h) (Or.inl ⟨by rfl, ?_⟩) HH.out ?_
        rotate_left
        · intro w hSw; go_simp; try with_reducible rfl
        change wpAnyH _ _ _ _ _ _ _ (Act.put _ (some 82) _) _
        simp only [Act.put, List.setIfInBounds_toArray, List.set_cons_zero, List.set_cons_succ]
        refine wpAnyH_take (i := 2) (v := ?_) rfl (by kernel_rfl) (by kernel_rfl) (by kernel_rfl) (fun _ _ _ h => h) (Or.inl ⟨by rfl, ?_⟩) HH.out ?_
        rotate_left
        · intro w hSw; go_simp; try with_reducible rfl
        change wpAnyH _ _ _ _ _ _ _ (Act.put _ (some 83) _) _
        simp only [Act.put, List.setIfInBounds_toArray, List.set_cons_zero, List.set_cons_succ]
        refine wpAnyH_take (i := 3) (v := ?_) rfl (by kernel_rfl) (by kernel_rfl) (by kernel_rfl) (fun _ _ _ h => h) (Or.inl ⟨by rfl, ?_⟩) HH.out ?_
        rotate_left
        · intro w hSw; go_simp; try with_reducible rfl
        change wpAnyH _ _ _ _ _ _ _ (Act.put _ (some 84) _) _
        simp only [Act.put, List.setIfInBounds_toArray, List.set_cons_zero, List.set_cons_succ]
        refine wpAnyH_ready (rs := [4]) (by kernel_rfl) (by simp) ?_
        refine AllReadyH.cons rfl (fun K hK => ?_) AllReadyH.nil
        refine step_any rfl (op_copyR (e := 24) (k := 16) (sz := 1) rfl (by kernel_rfl) (by kernel_rfl) rfl rfl (bU.ext (by (repeat (first | with_reducible exact Ext.refl _ | with_reducible assumption | refine Ext.trans ?_ (by with_reducible assumption) | refine Ext.alloc ?_ _ _ | refine Ext.drew ?_ | refine Ext.drewN ?_ _)))) (((hx.ext hE8).toB lx).ext (by (repeat (first | with_reducible exact Ext.refl _ | with_reducible assumption | refine Ext.trans ?_ (by with_reducible assumption) | refine Ext.alloc ?_ _ _ | refine Ext.drew ?_ | refine Ext.drewN ?_ _)))) rfl (by decide) (by decide) (fun j hj => rfl) ?_)
        rintro W9 b9 m9
        refine hK.out _ _ (Nat.zero_le _) (fun hHeld => ?_)
        clear hK K HH
        have HH : Hid ((0 ≤ (_ : World).heap.size)) := hHeld
        clear hHeld
        change wpAnyH _ _ _ _ _ _ _ (Act.put _ (some 85) _) _
        simp only [Act.put, List.setIfInBounds_toArray, List.set_cons_zero, List.set_cons_succ]
        refine wpAnyH_done (by kernel_rfl) ?_ _
        have hE9 : Ext w W9 := Ext.trans_mod (hE8.trans (show Ext W8 W0 by (repeat (first | with_reducible exact Ext.refl _ | with_reducible assumption | refine Ext.trans ?_ (by with_reducible assumption) | refine Ext.alloc ?_ _ _ | refine Ext.drew ?_ | refine Ext.drewN ?_ _))).drew) m9 (fun q hq => by have hq2 : q = U := hq; rw [hq2]; exact gUw)
        have uU9 : UB W9 U 456 (x ++ [0]) := b9.toUB (by simp [lx]) (fun i hi => by
          rw [getD_snoc0]
          by_cases h16 : i < 16
          · exact lay_over2 _ (lf x) 16 i h16
          · unfold layv
            rw [if_neg (by rw [rowOf_size]; omega)]
            simp [List.getD_eq_getElem?_getD, List.getElem?_eq_none, show x.length ≤ i by omega])
        have bR9 := (bR6.ext (e8.trans (show Ext W8 W0 by (repeat (first | with_reducible exact Ext.refl _ | with_reducible assumption | refine Ext.trans ?_ (by with_reducible assumption) | refine Ext.alloc ?_ _ _ | refine Ext.drew ?_ | refine Ext.drewN ?_ _))).drew)).mod m9 (fun q => hUR q.symm)
        have bP9 := (bP6.ext (e8.trans (show Ext W8 W0 by (repeat (first | with_reducible exact Ext.refl _ | with_reducible assumption | refine Ext.trans ?_ (by with_reducible assumption) | refine Ext.alloc ?_ _ _ | refine Ext.drew ?_ | refine Ext.drewN ?_ _))).drew)).mod m9 (fun q => hUP q.symm)
        clear bR6 bP6 bU b9 m9 HH hE8 hE6 hW0 e8 hE2
        go_upto_region 22 with (first | ((with_reducible (refine Veil.out ?_; apply wl_loadRow rt337d)); (case hx => rfl); (case hB => exact (hm.ext hE9).toB lm); (case hi => decide)) | ((with_reducible (refine Veil.out ?_; apply wl_allocF z337d)); rintro V W10 e10 bV gV) | ((with_reducible (refine Veil.out ?_; apply wl_storeRow rt337d)); (case hx => rfl); (case hy => rfl); (case hr => exact rowOf_size _ _ _); (case h1 => exact ones_lf _ _ _); (case hB => exact bV); (case hi => decide); rintro W11 b11 m11))
        have gVw : w.heap.size ≤ V := Nat.le_trans hE9.size gV
        have hE11 : Ext w W11 := Ext.trans_mod (hE9.trans e10) m11 (fun q hq => by have hq2 : q = V := hq; rw [hq2]; exact gVw)
        have hUV : ¬ U = V := fun q => by have := uU9.lt; omega
        have hVR : ¬ V = R := fun q => by have := bR9.lt; omega
        have hVP : ¬ V = P := fun q => by have := bP9.lt; omega
        have uV11 : UB W11 V 345 m := b11.toUB lm (fun i hi => lay_over2 _ (lf m) 8 i hi)
        have uU11 := (uU9.ext e10).mod m11 hUV
        have bR11 := (bR9.ext e10).mod m11 (fun q => hVR q.symm)
        have bP11 := (bP9.ext e10).mod m11 (fun q => hVP q.symm)
        clear uU9 bR9 bP9 bV b11 m11 e10 hE9
        have KV := uV11.atD (i := n - 1) (by omega)
        have hy6 := dm.getD (n - 1)
        have j4 : IntKind.u8.wrap ((n : Int) - 1) = ((n - 1 : Nat) : Int) := by rw [IntKind.wrap_u8]; omega
        have i4 : ((n - 1 : Nat) : Int) < 8 := by omega
        obtain ⟨s, hs64, hs1, hs2, hs3⟩ := lz_of (m.getD (n - 1) 0) (hmt (by omega)) hy6
        obtain ⟨n1, hn1⟩ : ∃ z, Hid (n - 1 = z) := ⟨_, rfl⟩
        rw [hn1.out] at KV j4 i4
        have hy6H := hy6
        rw [hn1.out] at hy6H hs1
        obtain ⟨z, hz⟩ : ∃ z, Hid (m.getD n1 0 = z) := ⟨_, rfl⟩
        rw [hz.out] at KV hy6H hs1
        have HZ := fun W => mLZ64 z W hy6H
        rw [hs1] at HZ
        clear hs1
        have hsw : IntKind.u8.wrap (s : Int) = (s : Int) := by rw [IntKind.wrap_u8]; omega
        go_upto_region 23 with (first | ((with_reducible (refine Veil.out ?_; apply wl_loadC onet26k)); (case hw => rfl); (case hx => rfl); (case hc => exact KV)) | (go_at_call 410; refine (HZ _).mono ?_; rintro e w1 ⟨rfl, hww⟩; replace hww := hww.symm; subst hww))
        have HU := uShiftUp17 U s 17 456 (x ++ [0]) W11 (by simp [lx]) (dx.snoc (by decide)) hs64 (by decide) uU11
        go_upto_region 24 with (first | (go_at_call 411; refine HU.mono ?_; rintro e W12 ⟨u', cu, rfl, lu, du, eu, uU12, mU⟩; replace mU := mU.mod))
        have uV12 : UB W12 V 345 m := uV11.mod mU (fun q => hUV q.symm)
        have bR12 := bR11.mod mU (fun q => hUR q.symm)
        have bP12 := bP11.mod mU (fun q => hUP q.symm)
        have hE12 : Ext w W12 := Ext.trans_mod hE11 mU (fun q hq => by have hq2 : q = U := hq; rw [hq2]; exact gUw)
        clear uV11 bR11 bP11 hE11 uU11 HU mU KV
        have HV := uShiftUp V s 8 345 m W12 lm dm hs64 (by decide) uV12
        go_upto_region 25 with (first | (go_at_call 411; refine HV.mono ?_; rintro e W13 ⟨v', cv, rfl, lv', dv', ev, uV13, mV⟩; replace mV := mV.mod))
        have uU13 : UB W13 U 456 u' := UB.mod (l := u') uU12 mV hUV
        have bR13 := bR12.mod mV (fun q => hVR q.symm)
        have bP13 := bP12.mod mV (fun q => hVP q.symm)
        have hE13 : Ext w W13 := Ext.trans_mod hE12 mV (fun q hq => by have hq2 : q = V := hq; rw [hq2]; exact gVw)
        clear uV12 bR12 bP12 hE12 uU12 HV mV
        obtain ⟨q1, q2, q3, q4, q5, q6, q7⟩ := d_start (M := 16) (K := 8) (n := n) (top := top) (s := s) lx dx hxz ht lm dm (by omega) hn hmz (by omega) rfl hs2 hs3 hs64 lu du eu.out lv' dv' ev.out
        clear eu ev hs2 hs3 HZ hy6 hy6H
        rw [hd0.out, hrd.out] at q7
        have hub : Hid (lv u' = lv x * 2 ^ s) := q1
        have hvb : Hid (lv v' = lv m * 2 ^ s) := q2
        have hvt : Hid (lv (v'.take n) = lv v') := q3
        have hVn : Hid (lv v' ≤ Bn n) := q4
        clear q1 q2 q3 q4
        go_upto_region 26 with (first | ((with_reducible (refine Veil.out ?_; apply wl_loadC onet5k)); (case hw => rfl); (case hx => rfl); (case hc => exact bP13.cellE (v := .int .u8 (rd : Nat)) (by decide) rfl)))
        try simp only [Act.put]
        go_loopw [16] (fun iv wr => ∃ (j : Nat) (u : List Nat) (a1 a2 : Int), iv = .int .u8 (j : Nat) ∧ j ≤ rd ∧ DInv 17 n (lv v') j u ∧ Hid (∃ q, lv u + lv v' * q = lv x * 2 ^ s) ∧ UB wr U 456 u ∧ UB wr V 345 v' ∧ Blk wr R 8 345 (fun _ => Value.int .u64 0) ∧ Blk wr P 3 416 (pc rd a1 a2) ∧ Ext w wr) (fun iv _ => (intOf iv).toNat)
        case atStart => exact ⟨rd, u', 0, 0, rfl, Nat.le_refl _, q7, (⟨0, by rw [hub.out]; rfl⟩ : ∃ q, lv u' + lv v' * q = lv x * 2 ^ s), uU13, uV13, bR13, bP13, hE13⟩
        case round =>
          clear uU13 uV13 bR13 bP13 hE13 q7 lu du hub
          obtain ⟨j, u, a1, a2, rfl, hjr, dinv, hQ, uU, uV, bR, bP, hE⟩ := hrel
          rcases Nat.eq_zero_or_pos j with hj0 | hj0
          · subst hj0
            go_upto_region 33 with (first | ((with_reducible (refine Veil.out ?_; apply wl_loadRow rt337d)); (case hx => rfl); (case hB => exact uU.toB dinv.len); (case hi => decide)) | ((with_reducible (refine Veil.out ?_; apply wl_storeRow rt337d)); (case hx => rfl); (case hy => rfl); (case hr => exact rowOf_size _ _ _); (case h1 => exact ones_lf _ _ _); (case hB => exact bR); (case hi => decide); rintro W14 b14 m14))
            have uR14 : UB W14 R 345 (u.take 8) := b14.toUB (by simp [dinv.len]) (fun i hi => by rw [getD_take_lt _ _ _ hi]; exact lay_over2 _ (lf u) 8 i hi)
            have bP14 := bP.mod m14 (fun q => hRP q.symm)
            have hE14 : Ext w W14 := Ext.trans_mod hE m14 (fun q hq => by have hq2 : q = R := hq; rw [hq2]; exact gR)
            have HS := uShiftDown R s 8 345 (u.take 8) W14 (by simp [dinv.len]) (dinv.l64.take 8) hs64 (by decide) uR14
            go_upto_region 34 with (first | (go_at_call 413; refine HS.mono ?_; rintro e W15 ⟨l', mr, rfl, ll, dl', hmr, el, uR15, mR⟩; replace mR := mR.mod))
            have hE15 : Ext w W15 := Ext.trans_mod hE14 mR (fun q hq => by have hq2 : q = R := hq; rw [hq2]; exact gR)
            clear bR b14 HS
            refine w_ext ?_
            rintro W0 hW0
            have hq0 : Ext W15 W0 := by (repeat (first | with_reducible exact Ext.refl _ | with_reducible assumption | refine Ext.trans ?_ (by with_reducible assumption) | refine Ext.alloc ?_ _ _ | refine Ext.drew ?_ | refine Ext.drewN ?_ _))
            refine wp_region_held_drew (S := fun w' => (Ext w (w') ∧ Blk (w') R 8 345 (lf l') ∧ Blk (w') P 3 416 (pc rd a1 a2))) (by kernel_rfl) ⟨(hE15.trans hq0).drew, ((UB.toB (l := l') uR15 ll).ext hq0).drew, ((bP14.mod mR (fun q => hRP q.symm)).ext hq0).drew⟩ (fun hHeld => ?_)
            have HH : Hid ((Ext w (_) ∧ Blk (_) R 8 345 (lf l') ∧ Blk (_) P 3 416 (pc rd a1 a2))) := hHeld
            clear hHeld
            refine wpAnyH_take (i := 0) rfl (by kernel_rfl) (by kernel_rfl) (by kernel_rfl) (fun _ _ _ h => h) (yields_row rt337d (by rfl) rfl rfl (fun W hW => hW.2.1) (by decide)) HH.out ?_
            change wpAnyH _ _ _ _ _ _ _ (Act.put _ (some 131) _) _
            simp only [Act.put, List.setIfInBounds_toArray, List.set_cons_zero, List.set_cons_succ]
            refine wpAnyH_take (i := 1) rfl (by kernel_rfl) (by kernel_rfl) (by kernel_rfl) (fun _ _ _ h => h) (yields_row rt408 (by rfl) rfl rfl (fun W hW => hW.2.2) (by decide)) HH.out ?_
            change wpAnyH _ _ _ _ _ _ _ (Act.put _ (some 132) _) _
            simp only [Act.put, List.setIfInBounds_toArray, List.set_cons_zero, List.set_cons_succ]
            refine wpAnyH_ready (rs := [2]) (by kernel_rfl) (by simp) ?_
            refine AllReadyH.cons rfl (fun K hK => ?_) AllReadyH.nil
            refine step_any rfl (op_storeRow rfl rt337d rfl rfl (rowOf_size _ _ _) (ones_lf _ _ _) HH.out.2.1 (by decide) ?_)
            rintro W5 b5 m5
            refine hK.out _ _ ⟨Ext.trans_mod HH.out.1 m5 (fun q hq => by have hq2 : q = R := hq; rw [hq2]; exact gR), b5.laySelf, HH.out.2.2.mod m5 (fun q => hRP q.symm)⟩ (fun hHeld => ?_)
            clear hK K HH
            have HH : Hid ((Ext w (_) ∧ Blk (_) R 8 345 (lf l') ∧ Blk (_) P 3 416 (pc rd a1 a2))) := hHeld
            clear hHeld
            change wpAnyH _ _ _ _ _ _ _ (Act.put _ none _) _
            simp only [Act.put, List.setIfInBounds_toArray, List.set_cons_zero, List.set_cons_succ]
            refine wpAnyH_ready (rs := [3]) (by kernel_rfl) (by simp) ?_
            refine AllReadyH.cons rfl (fun K hK => ?_) AllReadyH.nil
            refine step_any rfl (op_storeRow rfl rt408 rfl rfl (rowOf_size _ _ _) (pc_ones _ _ _ _ _) HH.out.2.2 (by decide) ?_)
            rintro W6 b6 m6
            refine hK.out _ _ ⟨Ext.trans_mod HH.out.1 m6 (fun q hq => by have hq2 : q = P := hq; rw [hq2]; exact gPw), HH.out.2.1.mod m6 hRP, b6.laySelf⟩ (fun hHeld => ?_)
            clear hK K HH
            have HH : Hid ((Ext w (_) ∧ Blk (_) R 8 345 (lf l') ∧ Blk (_) P 3 416 (pc rd a1 a2))) := hHeld
            clear hHeld
            change wpAnyH _ _ _ _ _ _ _ (Act.put _ none _) _
            simp only [Act.put, List.setIfInBounds_toArray, List.set_cons_zero, List.set_cons_succ]
            refine wpAnyH_done (by kernel_rfl) ?_ _
            go_wp2
            obtain ⟨hEf, bRf, bPf⟩ := HH.out
            refine post_rr rt337d rt408 (rowOf (lf l') 0 8) (rowOf (pc rd a1 a2) 0 3) (rowOf_size _ _ _) (rowOf_size _ _ _) rfl rfl rfl (bRf.rowIn (by decide)) (bPf.rowIn (by decide)) rfl ?_
            rw [rowOf_lf l' 8 (by omega), List.take_of_length_le (by omega)]
            refine ⟨l', _, rfl, ll, dl', rowOf_size _ _ _, pc_ones _ _ _ _ _, ?_, hEf⟩
            have e1 : lv (u.take 8) = lv u := (lv_of_zeros u 8 (by have := dinv.len; omega) (fun i h1 h2 => dinv.hz i (by omega) (by have := dinv.len; omega))).symm
            have e2 := el.out
            rw [e1] at e2
            obtain ⟨q, hq⟩ := hQ.out
            have htp := dinv.top
            rw [List.drop_zero, hvb.out] at htp
            rw [hvb.out] at hq
            obtain ⟨e3, _⟩ := d_end hq htp e2 hmr
            rw [e3]
            unfold dmod
            rw [if_neg]
            have := hne2.out
            exact this
          · have hb0 := hd0.out
            have hb1 := hrd.out
            have k1 : (0 : Int) < j := by omega
            have j2 : IntKind.u8.wrap ((j : Int) - 1) = ((j - 1 : Nat) : Int) := by rw [IntKind.wrap_u8]; omega
            obtain ⟨q, hq⟩ : ∃ q, Hid (j - 1 = q) := ⟨_, rfl⟩
            rw [hq.out] at j2
            have hjq : j = q + 1 := by have h1 := hq.out; omega
            rw [hjq] at dinv
            have HR := uRoundWide U V n q 456 345 u v' wr hUV uU uV dinv.len lv' dv' (by omega) hn (by omega) q5 q6 (fun i h1 h2 => dinv.hz i (by omega) h2) (by rw [hvt.out]; exact dinv.lt (by omega)) dinv.l64
            rw [hvt.out] at HR
            have hq17 : q + 1 + n ≤ 17 := by omega
            clear hjq hb0 hb1
            go_upto_region 29 with (first | (go_at_call 412; refine HR.mono ?_; rintro e W5 ⟨f, bk, a', rfl, la, da, ha, uU5, m5⟩))
            cases bk
            · go_upto_region 30 with (first | ((with_reducible (refine Veil.out ?_; apply wl_loadC onet5k)); (case hw => rfl); (case hx => rfl); (case hc => exact (bP.mod m5 (fun q => hUP q.symm)).cellE (v := .int .u8 a1) (by decide) rfl)) | ((with_reducible (refine Veil.out ?_; apply wl_storeC onet5k (v := .int .u8 (IntKind.u8.wrap (a1 + f))))); (case hx => rfl); (case hy => rfl); (case h1 => rfl); (case hB => exact bP.mod m5 (fun q => hUP q.symm)); (case hi => decide); rintro W6 b6 m6))
              go_wp2
              go_roundw
              case rel =>
                have hq2 := hq.out
                have mP : Mod (· = P) W5 W6 := m6
                obtain ⟨d1, d2, d3⟩ := dinv.step hq17 hVn.out la da ha
                refine ⟨q, _, _, _, int_eq (by omega), ?_, d1, ?_, uU5.mod mP (fun z => hUP z), (uV.mod m5 (fun z => hUV z.symm)).mod mP hVP, (bR.mod m5 (fun z => hUR z.symm)).mod mP hRP, pc_1 b6, Ext.trans_mod (Ext.trans_mod hE m5 (fun q hq => by have hq2 : q = U := hq; rw [hq2]; exact gUw)) mP (fun q hq => by have hq2 : q = P := hq; rw [hq2]; exact gPw)⟩
                · omega
                · obtain ⟨z, hz⟩ := hQ.out
                  exact ⟨Bn q * (lv ((u.drop q).take (n + 1)) / lv v') + z, by rw [Nat.mul_add, ← Nat.add_assoc, d2]; exact hz⟩
              case measure => have hq2 := hq.out; simp [intOf]; omega
            · go_upto_region 30 with (first | ((with_reducible (refine Veil.out ?_; apply wl_loadC onet5k)); (case hw => rfl); (case hx => rfl); (case hc => exact (bP.mod m5 (fun q => hUP q.symm)).cellE (v := .int .u8 a1) (by decide) rfl)) | ((with_reducible (refine Veil.out ?_; apply wl_storeC onet5k (v := .int .u8 (IntKind.u8.wrap (a1 + f))))); (case hx => rfl); (case hy => rfl); (case h1 => rfl); (case hB => exact bP.mod m5 (fun q => hUP q.symm)); (case hi => decide); rintro W6 b6 m6))
              go_wp2_with (first | ((with_reducible (refine Veil.out ?_; apply wl_loadC onet5k)); (case hw => rfl); (case hx => rfl); (case hc => exact (pc_1 b6).cellE (v := .int .u8 a2) (by decide) rfl)) | ((with_reducible (refine Veil.out ?_; apply wl_storeC onet5k (v := .int .u8 (IntKind.u8.wrap (a2 + 1))))); (case hx => rfl); (case hy => rfl); (case h1 => rfl); (case hB => exact pc_1 b6); (case hi => decide); rintro W7 b7 m7))
              go_roundw
              case rel =>
                have hq2 := hq.out
                have mP : Mod (· = P) W5 W7 := (m6.trans m7)
                obtain ⟨d1, d2, d3⟩ := dinv.step hq17 hVn.out la da ha
                refine ⟨q, _, _, _, int_eq (by omega), ?_, d1, ?_, uU5.mod mP (fun z => hUP z), (uV.mod m5 (fun z => hUV z.symm)).mod mP hVP, (bR.mod m5 (fun z => hUR z.symm)).mod mP hRP, pc_2 b7, Ext.trans_mod (Ext.trans_mod hE m5 (fun q hq => by have hq2 : q = U := hq; rw [hq2]; exact gUw)) mP (fun q hq => by have hq2 : q = P := hq; rw [hq2]; exact gPw)⟩
                · omega
                · obtain ⟨z, hz⟩ := hQ.out
                  exact ⟨Bn q * (lv ((u.drop q).take (n + 1)) / lv v') + z, by rw [Nat.mul_add, ← Nat.add_assoc, d2]; exact hz⟩
              case measure => have hq2 := hq.out; simp [intOf]; omega
end Go.Proofs.YgvahwGreat
