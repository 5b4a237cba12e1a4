import Derived.Test.YgvahwGreatDy0
import Derived.Test.YgvahwGreatDsD
namespace Go.Proofs.YgvahwGreat
open Go.RowKit
set_option linter.unusedSimpArgs false
set_option maxRecDepth 100000 in
set_option maxHeartbeats 6400000 in
theorem uDivD (g b n top : Nat) (t : TypeId) (x : List Nat) (w : World) (hx : UB w g t x) (hb : b < 2 ^ 256) (lx : x.length = 8) (dx : L64 x) (hn : n ≤ 4) (hbz : ∀ i, n ≤ i → i < 4 → (limbs b).getD i 0 = 0) (hbt : 0 < n → (limbs b).getD (n - 1) 0 ≠ 0) (ht : top ≤ 8) (hxz : ∀ i, top ≤ i → i < 8 → x.getD i 0 = 0) (hxt : 0 < top → x.getD (top - 1) 0 ≠ 0) (hn2 : 2 ≤ n) (htn : n ≤ top) : Calls Hvah.prog 417 #[.pointer (some ⟨g, 0, none⟩), wv b] w fun e w' => ∃ ql pv, e = .returned (.tuple #[wv (dmod (lv x) b), .agg pv]) ∧ ql.length = 8 ∧ L64 ql ∧ pv.size = 3 ∧ Ones pv ∧ lv ql = lv x / b ∧ UB w' g t ql ∧ Mod (fun q => q = g) w w' := by
  have hnl : nlim b = n := by have h9 := nlim_top (v := limbs b) rfl (limbs_l64 b) (show 1 ≤ n by omega) hn (hbt (by omega)) hbz; rwa [lv_limbs hb] at h9
  have c1 : ((n : Int) == 0) = false := by simp; omega
  have HL := fun W => uLimbs b W
  rw [hnl] at HL
  have hgl := hx.lt
  go_enter Hvah.func417, Hvah.ntmps417
  go_upto_region 2 with (first | ((with_reducible (refine Veil.out ?_; apply wl_boxW)); (case hx => rfl); rintro V Wv cv ev bV hW gV) | ((with_reducible (refine Veil.out ?_; apply wl_allocF z66f)); rintro R W1 e1 bR gR) | ((with_reducible (refine Veil.out ?_; apply wl_allocF z408)); rintro P W2 e2 bP gP) | ((with_reducible (refine Veil.out ?_; apply wl_loadWB)); (case hx => rfl); (case hB => exact bV.ext (by (repeat (first | with_reducible exact Ext.refl _ | with_reducible assumption | refine Ext.trans ?_ (by with_reducible assumption) | refine Ext.alloc ?_ _ _ | refine Ext.drew ?_ | refine Ext.drewN ?_ _)))); (case hW => exact hW); (case hi => decide)) | (go_at_call 261; refine (HL _).mono ?_; rintro e w3 ⟨rfl, he3⟩))
  have gRw : w.heap.size ≤ R := Nat.le_trans ev.size gR
  have gPw : w.heap.size ≤ P := Nat.le_trans (ev.trans e1).size gP
  have hVR : ¬ V = R := fun q => by have := bV.lt; omega
  have hVP : ¬ V = P := fun q => by have := (bV.ext e1).lt; omega
  have hRP : ¬ R = P := fun q => by have := bR.lt; omega
  have hgV : ¬ g = V := fun q => by omega
  have hgR : ¬ g = R := fun q => by omega
  have hgP : ¬ g = P := fun q => by omega
  have hE3 : Ext w w3 := ((ev.trans e1).trans e2).trans he3
  have uV3 : UB w3 V 79 (limbs b) := wat_ub (bV.ext ((e1.trans e2).trans he3)) hW
  have bR3 := bR.ext (e2.trans he3)
  have bP3 := bP.ext he3
  have ux3 : UB w3 g t x := hx.ext hE3
  have hM3 : Mod (fun q => q = g) w w3 := hE3.mod _
  clear bR bP bV hW ev e1 e2 he3 gR gP
  go_upto_region 6 with (fail)
  try simp only [Act.put]
  go_loopw [7] (fun iv wr => ∃ k : Nat, iv = .int .u8 (k : Nat) ∧ top ≤ k ∧ k ≤ 8 ∧ wr = w3) (fun iv _ => (intOf iv).toNat)
  case atStart => exact ⟨8, rfl, ht, by decide, rfl⟩
  case round =>
    obtain ⟨k, rfl, hk1, hk2, hww⟩ := hrel
    replace hww := hww.symm
    subst hww
    rcases Nat.eq_zero_or_pos k with hk0 | hk0
    · subst hk0
      obtain rfl : top = 0 := by omega
      exact absurd htn (by omega)
    · have k0 : (0 : Int) < k := by omega
      have j1 : IntKind.u8.wrap ((k : Int) - 1) = ((k - 1 : Nat) : Int) := by rw [IntKind.wrap_u8]; omega
      have i1 : ((k - 1 : Nat) : Int) < 8 := by omega
      have K1 := ux3.atD (i := k - 1) (by omega)
      rcases Nat.lt_or_ge top k with hlt | hge
      · rw [hxz (k - 1) (by omega) (by omega)] at K1
        obtain ⟨p, hp⟩ : ∃ p, Hid (k - 1 = p) := ⟨_, rfl⟩
        rw [hp.out] at K1 j1 i1
        go_wp2_with ((with_reducible (refine Veil.out ?_; apply wl_loadC onet26k)); (case hw => first | rfl | go_simp); (case hx => rfl); (case hc => exact K1))
        go_roundw
        case rel => have hp2 := hp.out; exact ⟨p, int_eq (by omega), by omega, by omega, trivial⟩
        case measure => have hp2 := hp.out; simp [intOf]; omega
      · obtain rfl : top = k := by omega
        have hne := hxt hk0
        obtain ⟨p, hp⟩ : ∃ p, Hid (top - 1 = p) := ⟨_, rfl⟩
        rw [hp.out] at K1 j1 i1 hne
        obtain ⟨y, hy⟩ : ∃ y, Hid (x.getD p 0 = y) := ⟨_, rfl⟩
        rw [hy.out] at K1 hne
        have hb' : ((y : Int) == 0) = false := by simp; omega
        have c2 : ¬ (top : Int) < n := by omega
        have c3 : ((n : Int) == 1) = false := by simp; omega
        have HPA := fun W U => run_arrayAt W 79 24 4 4 9 (some ⟨U, 0, none⟩) under66d (Nat.le_refl _)
        obtain ⟨d0, hd0⟩ : ∃ d, Hid (top - n = d) := ⟨_, rfl⟩
        obtain ⟨rd, hrd⟩ : ∃ d, Hid (d0 + 1 = d) := ⟨_, rfl⟩
        have s1 : IntKind.u8.wrap ((top : Int) - n) = (d0 : Int) := by have h1 := hd0.out; rw [IntKind.wrap_u8]; omega
        have s2 : IntKind.u8.wrap ((d0 : Int) + 1) = (rd : Int) := by have h1 := hd0.out; have h2 := hrd.out; rw [IntKind.wrap_u8]; omega
        go_upto_region 16 with (first | ((with_reducible (refine Veil.out ?_; apply wl_loadC onet26k)); (case hw => first | rfl | go_simp); (case hx => rfl); (case hc => exact K1)) | ((with_reducible (refine Veil.out ?_; apply wl_storeC onet5k (v := .int .u8 (rd : Nat)))); (case hx => rfl); (case hy => rfl); (case h1 => rfl); (case hB => exact bP3); (case hi => decide); rintro W6 b6 m6))
        have hM6 := hM3.fresh m6 gPw
        have bR6 := bR3.mod m6 hRP
        have ux6 := ux3.mod m6 hgP
        have uV6 := uV3.mod m6 hVP
        have bP6 := pc_0 b6
        have s6 : w.heap.size ≤ W6.heap.size := hM6.size
        clear b6 m6 bR3 bP3 ux3 uV3 hM3 K1
        go_upto_region 17 with (first | ((with_reducible (refine Veil.out ?_; apply wl_allocF z469)); rintro U W8 e8 bU gU))
        have gUw : w.heap.size ≤ U := Nat.le_trans s6 gU
        have hgU : ¬ g = U := fun q => by omega
        have hUg : ¬ U = g := fun q => by omega
        have hUR : ¬ U = R := fun q => by have := bR6.lt; omega
        have hUP : ¬ U = P := fun q => by have := bP6.lt; omega
        have hUV : ¬ U = V := fun q => by have := uV6.lt; omega
        have ux8 := ux6.ext e8
        refine w_ext ?_
        rintro W0 hW0
        refine wp_region_held_drew (S := fun w' => (0 ≤ (w' : World).heap.size)) (by kernel_rfl) (Nat.zero_le _) (fun hHeld => ?_)
        have HH : Hid ((0 ≤ (_ : World).heap.size)) := hHeld
        clear hHeld
        refine wpAnyH_take (i := 0) (v := ?_) rfl (by kernel_rfl) (by kernel_rfl) (by kernel_rfl) (fun _ _ _ h => h) (Or.inl ⟨by rfl, ?_⟩) HH.out ?_
        rotate_left
        · intro w hSw; go_simp; try with_reducible rfl
        change wpAnyH _ _ _ _ _ _ _ (Act.put _ (some 64) _) _
        simp only [Act.put, List.setIfInBounds_toArray, List.set_cons_zero, List.set_cons_succ]
        refine wpAnyH_take (i := 1) (v := ?_) rfl (by kernel_rfl) (by kernel_rfl) (by kernel_rfl) (fun _ _ _ h => h) (Or.inl ⟨by rfl, ?_⟩) HH.out ?_
        rotate_left
        · intro w hSw; go_simp; try with_reducible rfl
        change wpAnyH _ _ _ _ _ _ _ (Act.put _ (some 65) _) _
        simp only [Act.put, List.setIfInBounds_toArray, List.set_cons_zero, List.set_cons_succ]
        refine wpAnyH_take (i := 2) (v := ?_) rfl (by kernel_rfl) (by kernel_rfl) (by kernel_rfl) (fun _ _ _ h => h) (Or.inl ⟨by rfl, ?_⟩) HH.out ?_
        rotate_left
        · intro w hSw; go_simp; try with_reducible rfl
        change wpAnyH _ _ _ _ _ _ _ (Act.put _ (some 66) _) _
        simp only [Act.put, List.setIfInBounds_toArray, List.set_cons_zero, List.set_cons_succ]
        refine wpAnyH_take (i := 3) (v := ?_) rfl (by kernel_rfl) (by kernel_rfl) (by kernel_rfl) (fun _ _ _ h => h) (Or.inl ⟨by rfl, ?_⟩) HH.out ?_
        rotate_left
        · intro w hSw; go_simp; try with_reducible rfl
        change wpAnyH _ _ _ _ _ _ _ (Act.put _ (some 67) _) _
        simp only [Act.put, List.setIfInBounds_toArray, List.set_cons_zero, List.set_cons_succ]
        refine wpAnyH_ready (rs := [4]) (by kernel_rfl) (by simp) ?_
        refine AllReadyH.cons rfl (fun K hK => ?_) AllReadyH.nil
        refine step_any rfl (op_copyR (e := 24) (k := 8) (sz := 1) rfl (by kernel_rfl) (by kernel_rfl) rfl rfl (bU.ext (by (repeat (first | with_reducible exact Ext.refl _ | with_reducible assumption | refine Ext.trans ?_ (by with_reducible assumption) | refine Ext.alloc ?_ _ _ | refine Ext.drew ?_ | refine Ext.drewN ?_ _)))) ((ux8.toB lx).ext (by (repeat (first | with_reducible exact Ext.refl _ | with_reducible assumption | refine Ext.trans ?_ (by with_reducible assumption) | refine Ext.alloc ?_ _ _ | refine Ext.drew ?_ | refine Ext.drewN ?_ _)))) rfl (by decide) (by decide) (fun j hj => rfl) ?_)
        rintro W9 b9 m9
        refine hK.out _ _ (Nat.zero_le _) (fun hHeld => ?_)
        clear hK K HH
        have HH : Hid ((0 ≤ (_ : World).heap.size)) := hHeld
        clear hHeld
        change wpAnyH _ _ _ _ _ _ _ (Act.put _ (some 68) _) _
        simp only [Act.put, List.setIfInBounds_toArray, List.set_cons_zero, List.set_cons_succ]
        refine wpAnyH_done (by kernel_rfl) ?_ _
        have hW8 : Ext W8 W0 := by (repeat (first | with_reducible exact Ext.refl _ | with_reducible assumption | refine Ext.trans ?_ (by with_reducible assumption) | refine Ext.alloc ?_ _ _ | refine Ext.drew ?_ | refine Ext.drewN ?_ _))
        have hM9 := (hM6.trans_ext (e8.trans hW8.drew)).fresh m9 gUw
        have uU9 : UB W9 U 477 (x ++ [0]) := b9.toUB (by simp [lx]) (fun i hi => by
          rw [getD_snoc0]
          by_cases h16 : i < 8
          · exact lay_over2 _ (lf x) 8 i h16
          · unfold layv
            rw [if_neg (by rw [rowOf_size]; omega)]
            simp [List.getD_eq_getElem?_getD, List.getElem?_eq_none, show x.length ≤ i by omega])
        have bR9 := (bR6.ext (e8.trans hW8.drew)).mod m9 (fun q => hUR q.symm)
        have bP9 := (bP6.ext (e8.trans hW8.drew)).mod m9 (fun q => hUP q.symm)
        have ux9 := (ux8.ext hW8.drew).mod m9 hgU
        have uV9 := (uV6.ext (e8.trans hW8.drew)).mod m9 (fun q => hUV q.symm)
        clear bR6 bP6 bU b9 m9 HH hM6 hW0 e8 ux8 ux6 uV6 hW8
        have KV := uV9.atD (i := n - 1) (by show n - 1 < 4; omega)
        have hy6 := (limbs_l64 b).getD (n - 1)
        have j4 : IntKind.u8.wrap ((n : Int) - 1) = ((n - 1 : Nat) : Int) := by rw [IntKind.wrap_u8]; omega
        have i4 : ((n - 1 : Nat) : Int) < 4 := by omega
        obtain ⟨s, hs64, hs1, hs2, hs3⟩ := lz_of ((limbs b).getD (n - 1) 0) (hbt (by omega)) hy6
        obtain ⟨n1, hn1⟩ : ∃ z, Hid (n - 1 = z) := ⟨_, rfl⟩
        rw [hn1.out] at KV j4 i4
        have hy6H := hy6
        rw [hn1.out] at hy6H hs1
        obtain ⟨z, hz⟩ : ∃ z, Hid ((limbs b).getD n1 0 = z) := ⟨_, rfl⟩
        rw [hz.out] at KV hy6H hs1
        have HZ := fun W => mLZ64 z W hy6H
        rw [hs1] at HZ
        clear hs1
        have hsw : IntKind.u8.wrap (s : Int) = (s : Int) := by rw [IntKind.wrap_u8]; omega
        go_upto_region 19 with (first | ((with_reducible (refine Veil.out ?_; apply wl_loadC onet26k)); (case hw => rfl); (case hx => rfl); (case hc => exact KV)) | (go_at_call 410; refine (HZ _).mono ?_; rintro e w1 ⟨rfl, hww⟩; replace hww := hww.symm; subst hww))
        have HU := uShiftUp17 U s 9 477 (x ++ [0]) W9 (by simp [lx]) (dx.snoc (by decide)) hs64 (by decide) uU9
        go_upto_region 20 with (first | (go_at_call 411; refine HU.mono ?_; rintro e W12 ⟨u', cu, rfl, lu, du, eu, uU12, mU⟩; replace mU := mU.mod))
        have uV12 : UB W12 V 79 (limbs b) := uV9.mod mU (fun q => hUV q.symm)
        have bR12 := bR9.mod mU (fun q => hUR q.symm)
        have bP12 := bP9.mod mU (fun q => hUP q.symm)
        have ux12 := ux9.mod mU hgU
        have hM12 := hM9.fresh mU gUw
        clear uV9 bR9 bP9 hM9 uU9 HU mU KV ux9
        have HV := uShiftUp V s 4 79 (limbs b) W12 rfl (limbs_l64 b) hs64 (by decide) uV12
        go_upto_region 21 with (first | (go_at_call 411; refine HV.mono ?_; rintro e W13 ⟨v', cv', rfl, lv', dv', ev', uV13, mV⟩; replace mV := mV.mod))
        have uU13 : UB W13 U 477 u' := UB.mod (l := u') uU12 mV hUV
        have bR13 := bR12.mod mV (fun q => hVR q.symm)
        have bP13 := bP12.mod mV (fun q => hVP q.symm)
        have ux13 := ux12.mod mV hgV
        have hM13 := hM12.fresh mV gV
        clear uV12 bR12 bP12 hM12 uU12 HV mV ux12
        obtain ⟨q1, q2, q3, q4, q5, q6, q7⟩ := d_start (M := 8) (K := 4) (n := n) (top := top) (s := s) lx dx hxz ht rfl (limbs_l64 b) (by omega) hn hbz (by omega) rfl hs2 hs3 hs64 lu du eu.out lv' dv' ev'.out
        rw [lv_limbs hb] at q2
        clear eu ev' hs2 hs3 HZ hy6 hy6H
        rw [hd0.out, hrd.out] at q7
        have hub : Hid (lv u' = lv x * 2 ^ s) := q1
        have hvb : Hid (lv v' = b * 2 ^ s) := q2
        have hvt : Hid (lv (v'.take n) = lv v') := q3
        have hVn : Hid (lv v' ≤ Bn n) := q4
        clear q1 q2 q3 q4
        go_upto_region 22 with (first | ((with_reducible (refine Veil.out ?_; apply wl_clear64 (by kernel_rfl))); (case hd => rfl); (case hn => decide); (case hB => exact ux13.toB lx); rintro W14 u14 m14))
        have uU14 := uU13.mod m14 hUg
        have uV14 : UB W14 V 79 v' := UB.mod (l := v') uV13 m14 (fun q => hgV q.symm)
        have bR14 := bR13.mod m14 (fun q => hgR q.symm)
        have bP14 := bP13.mod m14 (fun q => hgP q.symm)
        have hM14 := hM13.trans m14
        clear uU13 uV13 bR13 bP13 hM13 m14 ux13
        go_upto_region 23 with (first | ((with_reducible (refine Veil.out ?_; apply wl_loadC onet5k)); (case hw => rfl); (case hx => rfl); (case hc => exact bP14.cellE (v := .int .u8 (rd : Nat)) (by decide) rfl)))
        try simp only [Act.put]
        go_loopw [10] (fun iv wr => ∃ (j : Nat) (u xl : List Nat) (a1 a2 : Int), iv = .int .u8 (j : Nat) ∧ j ≤ rd ∧ DInv 9 n (lv v') j u ∧ Hid (lv u + lv v' * lv xl = lv x * 2 ^ s) ∧ xl.length = 8 ∧ L64 xl ∧ (∀ i, i < j → xl.getD i 0 = 0) ∧ UB wr U 477 u ∧ UB wr V 79 v' ∧ Blk wr R 4 79 (fun _ => Value.int .u64 0) ∧ Blk wr P 3 416 (pc rd a1 a2) ∧ UB wr g t xl ∧ Mod (fun q => q = g) w wr) (fun iv _ => (intOf iv).toNat)
        case atStart => exact ⟨rd, u', List.replicate 8 0, 0, 0, rfl, Nat.le_refl _, q7, (by rw [rep_zero, hub.out]; rfl : lv u' + lv v' * lv (List.replicate 8 0) = lv x * 2 ^ s), by simp, rep_l64 8, fun i _ => by rw [List.getD_eq_getElem?_getD, List.getElem?_replicate]; split <;> rfl, uU14, uV14, bR14, bP14, u14, hM14⟩
        case round =>
          clear uU14 uV14 bR14 bP14 hM14 q7 lu du hub u14
          obtain ⟨j, u, xl, a1, a2, rfl, hjr, dinv, hQ, lxl, dxl, hx0, uU, uV, bR, bP, ux, hM⟩ := hrel
          rcases Nat.eq_zero_or_pos j with hj0 | hj0
          · subst hj0
            go_upto_region 31 with (first | ((with_reducible (refine Veil.out ?_; apply wl_loadRow rt66)); (case hx => rfl); (case hB => exact uU.toB dinv.len); (case hi => decide)) | ((with_reducible (refine Veil.out ?_; apply wl_storeRow rt66)); (case hx => rfl); (case hy => rfl); (case hr => exact rowOf_size _ _ _); (case h1 => exact ones_lf _ _ _); (case hB => exact bR); (case hi => decide); rintro W14 b14 m14))
            have uR14 : UB W14 R 79 (u.take 4) := b14.toUB (by simp [dinv.len]) (fun i hi => by rw [getD_take_lt _ _ _ hi]; exact lay_over2 _ (lf u) 4 i hi)
            have bP14 := bP.mod m14 (fun q => hRP q.symm)
            have ux14 := ux.mod m14 hgR
            have hM14 := hM.fresh m14 gRw
            have HS := uShiftDown R s 4 79 (u.take 4) W14 (by simp [dinv.len]) (dinv.l64.take 4) hs64 (by decide) uR14
            go_upto_region 32 with (first | (go_at_call 413; refine HS.mono ?_; rintro e W15 ⟨l', mr, rfl, ll, dl', hmr, el, uR15, mR⟩; replace mR := mR.mod))
            have hM15 := hM14.fresh mR gRw
            have ux15 := ux14.mod mR hgR
            have bP15 := bP14.mod mR (fun q => hRP q.symm)
            have bR15 := UB.toB (l := l') uR15 ll
            clear bR b14 HS bP bP14 ux ux14 hM hM14 uU uV
            refine w_ext ?_
            rintro W0 hW0
            have hq0 : Ext _ W0 := hW0
            refine wp_region_held_drew (S := fun w' => (Mod (fun q => q = g) w (w') ∧ UB (w') g t xl ∧ Blk (w') R 4 79 (lf l') ∧ Blk (w') P 3 416 (pc rd a1 a2))) (by kernel_rfl) ⟨(hM15).trans_ext hq0.drew, (ux15).ext hq0.drew, (bR15).ext hq0.drew, (bP15).ext hq0.drew⟩ (fun hHeld => ?_)
            have HH : Hid ((Mod (fun q => q = g) w (_) ∧ UB (_) g t xl ∧ Blk (_) R 4 79 (lf l') ∧ Blk (_) P 3 416 (pc rd a1 a2))) := hHeld
            clear hHeld
            refine wpAnyH_take (i := 0) rfl (by kernel_rfl) (by kernel_rfl) (by kernel_rfl) (fun _ _ _ h => h) (yields_row rt66 (by rfl) rfl rfl (fun W hW => hW.2.2.1) (by decide)) HH.out ?_
            change wpAnyH _ _ _ _ _ _ _ (Act.put _ (some 120) _) _
            simp only [Act.put, List.setIfInBounds_toArray, List.set_cons_zero, List.set_cons_succ]
            refine wpAnyH_take (i := 1) rfl (by kernel_rfl) (by kernel_rfl) (by kernel_rfl) (fun _ _ _ h => h) (yields_row rt408 (by rfl) rfl rfl (fun W hW => hW.2.2.2) (by decide)) HH.out ?_
            change wpAnyH _ _ _ _ _ _ _ (Act.put _ (some 121) _) _
            simp only [Act.put, List.setIfInBounds_toArray, List.set_cons_zero, List.set_cons_succ]
            refine wpAnyH_ready (rs := [2]) (by kernel_rfl) (by simp) ?_
            refine AllReadyH.cons rfl (fun K hK => ?_) AllReadyH.nil
            refine step_any rfl (op_storeRow rfl rt66 rfl rfl (rowOf_size _ _ _) (ones_lf _ _ _) HH.out.2.2.1 (by decide) ?_)
            rintro Wa ba ma
            refine hK.out _ _ ⟨HH.out.1.fresh ma gRw, HH.out.2.1.mod ma hgR, ba.laySelf, HH.out.2.2.2.mod ma (fun q => hRP q.symm)⟩ (fun hHeld => ?_)
            clear hK K HH
            have HH : Hid ((Mod (fun q => q = g) w (_) ∧ UB (_) g t xl ∧ Blk (_) R 4 79 (lf l') ∧ Blk (_) P 3 416 (pc rd a1 a2))) := hHeld
            clear hHeld
            change wpAnyH _ _ _ _ _ _ _ (Act.put _ none _) _
            simp only [Act.put, List.setIfInBounds_toArray, List.set_cons_zero, List.set_cons_succ]
            refine wpAnyH_ready (rs := [3]) (by kernel_rfl) (by simp) ?_
            refine AllReadyH.cons rfl (fun K hK => ?_) AllReadyH.nil
            refine step_any rfl (op_storeRow rfl rt408 rfl rfl (rowOf_size _ _ _) (pc_ones _ _ _ _ _) HH.out.2.2.2 (by decide) ?_)
            rintro Wb bb mb
            refine hK.out _ _ ⟨HH.out.1.fresh mb gPw, HH.out.2.1.mod mb hgP, HH.out.2.2.1.mod mb hRP, bb.laySelf⟩ (fun hHeld => ?_)
            clear hK K HH
            have HH : Hid ((Mod (fun q => q = g) w (_) ∧ UB (_) g t xl ∧ Blk (_) R 4 79 (lf l') ∧ Blk (_) P 3 416 (pc rd a1 a2))) := hHeld
            clear hHeld
            change wpAnyH _ _ _ _ _ _ _ (Act.put _ none _) _
            simp only [Act.put, List.setIfInBounds_toArray, List.set_cons_zero, List.set_cons_succ]
            refine wpAnyH_done (by kernel_rfl) ?_ _
            go_wp2
            obtain ⟨hMf, uXf, bRf, bPf⟩ := HH.out
            refine post_rr rt66 rt408 (rowOf (lf l') 0 4) (rowOf (pc rd a1 a2) 0 3) (rowOf_size _ _ _) (rowOf_size _ _ _) rfl rfl rfl (bRf.rowIn (by decide)) (bPf.rowIn (by decide)) rfl ?_
            rw [rowOf_lf l' 4 (by omega), List.take_of_length_le (by omega), wv_lv ll dl']
            have e1 : lv (u.take 4) = lv u := (lv_of_zeros u 4 (by have := dinv.len; omega) (fun i h1 h2 => dinv.hz i (by omega) (by have := dinv.len; omega))).symm
            have e2 := el.out
            rw [e1] at e2
            have htp := dinv.top
            rw [List.drop_zero, hvb.out] at htp
            have hq := hQ.out
            rw [hvb.out] at hq
            obtain ⟨e3, e4⟩ := d_end hq htp e2 hmr
            have hbne : b ≠ 0 := by
              intro h0
              rw [h0, Nat.zero_mul] at htp
              omega
            have e5 : dmod (lv x) b = lv l' := by
              unfold dmod
              rw [if_neg hbne, e3]
            rw [e5]
            exact ⟨xl, _, rfl, lxl, dxl, rowOf_size _ _ _, pc_ones _ _ _ _ _, e4, uXf, hMf⟩
          · have hb0 := hd0.out
            have hb1 := hrd.out
            have k1 : (0 : Int) < j := by omega
            have j2 : IntKind.u8.wrap ((j : Int) - 1) = ((j - 1 : Nat) : Int) := by rw [IntKind.wrap_u8]; omega
            obtain ⟨q, hq⟩ : ∃ q, Hid (j - 1 = q) := ⟨_, rfl⟩
            rw [hq.out] at j2
            have hjq : j = q + 1 := by have h1 := hq.out; omega
            rw [hjq] at dinv
            have HR := uRound U V n q 477 79 u v' wr hUV uU uV dinv.len lv' dv' (by omega) hn (by omega) q5 q6 (fun i h1 h2 => dinv.hz i (by omega) h2) (by rw [hvt.out]; exact dinv.lt (by omega)) dinv.l64
            rw [hvt.out] at HR
            have hq17 : q + 1 + n ≤ 9 := by omega
            have hq8 : q < 8 := by omega
            have iq8 : (q : Int) < 8 := by omega
            clear hjq hb0 hb1
            obtain ⟨Qd, hQd⟩ : ∃ v, Hid (lv ((u.drop q).take (n + 1)) / lv v' = v) := ⟨_, rfl⟩
            rw [hQd.out] at HR
            go_upto_region 26 with (first | (go_at_call 430; refine HR.mono ?_; rintro e W5 ⟨f, bk, a', rfl, la, da, ha, uU5, m5⟩))
            obtain ⟨d1, d2, hQ64⟩ := dinv.step hq17 hVn.out la da ha
            rw [hQd.out] at hQ64
            have hd1 : Hid (DInv _ _ _ _ _) := d1
            have hd2 : Hid (_ = _) := d2
            clear d1 d2
            go_upto_region 27 with (first | ((with_reducible (refine Veil.out ?_; apply wl_storeC onet26k (v := .int .u64 (Qd : Nat)))); (case hx => rfl); (case hy => rfl); (case h1 => rfl); (case hB => exact (ux.mod m5 hgU).toB lxl); (case hi => omega); rintro Wx bx mx))
            have uxx : UB Wx g t (xl.set q Qd) := bx.toUB (by simp [lxl]) (fun i hi => by
              unfold updv lf
              by_cases e : i = q
              · subst e; simp [List.getD_eq_getElem?_getD, show i < xl.length by omega]
              · rw [if_neg e, List.getD_eq_getElem?_getD, List.getD_eq_getElem?_getD, List.getElem?_set_ne (fun h => e h.symm)])
            have bPx := (bP.mod m5 (fun z => hUP z.symm)).mod mx (fun z => hgP z.symm)
            cases bk
            · go_upto_region 28 with (first | ((with_reducible (refine Veil.out ?_; apply wl_loadC onet5k)); (case hw => rfl); (case hx => rfl); (case hc => exact bPx.cellE (v := .int .u8 a1) (by decide) rfl)) | ((with_reducible (refine Veil.out ?_; apply wl_storeC onet5k (v := .int .u8 (IntKind.u8.wrap (a1 + f))))); (case hx => rfl); (case hy => rfl); (case h1 => rfl); (case hB => exact bPx); (case hi => decide); rintro W6 b6 m6))
              go_wp2
              go_roundw
              case rel =>
                have hq2 := hq.out
                have mP : Mod (· = P) Wx W6 := m6
                have d1 := hd1.out
                have d2 := hd2.out
                rw [hQd.out] at d2
                refine ⟨q, _, xl.set q Qd, _, _, int_eq (by omega), ?_, d1, ?_, by simp [lxl], dxl.set hQ64, fun i hi => ?_, (uU5.mod mx hUg).mod mP hUP, ((uV.mod m5 (fun z => hUV z.symm)).mod mx (fun z => hgV z.symm)).mod mP hVP, ((bR.mod m5 (fun z => hUR z.symm)).mod mx (fun z => hgR z.symm)).mod mP hRP, pc_1 b6, uxx.mod mP hgP, ((hM.fresh m5 gUw).trans mx).fresh mP gPw⟩
                · omega
                · show lv _ + lv v' * lv (xl.set q Qd) = lv x * 2 ^ s
                  rw [lv_set0 xl q Qd (by omega) (hx0 q (by omega)), Nat.mul_add, ← hQ.out]
                  omega
                · rw [List.getD_eq_getElem?_getD, List.getElem?_set_ne (by omega), ← List.getD_eq_getElem?_getD]
                  exact hx0 i (by omega)
              case measure => have hq2 := hq.out; simp [intOf]; omega
            · go_upto_region 28 with (first | ((with_reducible (refine Veil.out ?_; apply wl_loadC onet5k)); (case hw => rfl); (case hx => rfl); (case hc => exact bPx.cellE (v := .int .u8 a1) (by decide) rfl)) | ((with_reducible (refine Veil.out ?_; apply wl_storeC onet5k (v := .int .u8 (IntKind.u8.wrap (a1 + f))))); (case hx => rfl); (case hy => rfl); (case h1 => rfl); (case hB => exact bPx); (case hi => decide); rintro W6 b6 m6))
              go_wp2_with (first | ((with_reducible (refine Veil.out ?_; apply wl_loadC onet5k)); (case hw => rfl); (case hx => rfl); (case hc => exact (pc_1 b6).cellE (v := .int .u8 a2) (by decide) rfl)) | ((with_reducible (refine Veil.out ?_; apply wl_storeC onet5k (v := .int .u8 (IntKind.u8.wrap (a2 + 1))))); (case hx => rfl); (case hy => rfl); (case h1 => rfl); (case hB => exact pc_1 b6); (case hi => decide); rintro W7 b7 m7))
              go_roundw
              case rel =>
                have hq2 := hq.out
                have mP : Mod (· = P) Wx W7 := (m6.trans m7)
                have d1 := hd1.out
                have d2 := hd2.out
                rw [hQd.out] at d2
                refine ⟨q, _, xl.set q Qd, _, _, int_eq (by omega), ?_, d1, ?_, by simp [lxl], dxl.set hQ64, fun i hi => ?_, (uU5.mod mx hUg).mod mP hUP, ((uV.mod m5 (fun z => hUV z.symm)).mod mx (fun z => hgV z.symm)).mod mP hVP, ((bR.mod m5 (fun z => hUR z.symm)).mod mx (fun z => hgR z.symm)).mod mP hRP, pc_2 b7, uxx.mod mP hgP, ((hM.fresh m5 gUw).trans mx).fresh mP gPw⟩
                · omega
                · show lv _ + lv v' * lv (xl.set q Qd) = lv x * 2 ^ s
                  rw [lv_set0 xl q Qd (by omega) (hx0 q (by omega)), Nat.mul_add, ← hQ.out]
                  omega
                · rw [List.getD_eq_getElem?_getD, List.getElem?_set_ne (by omega), ← List.getD_eq_getElem?_getD]
                  exact hx0 i (by omega)
              case measure => have hq2 := hq.out; simp [intOf]; omega
end Go.Proofs.YgvahwGreat
