import Derived.Test.YgvahwGreatDy0
namespace Go.Proofs.YgvahwGreat
open Go.RowKit
set_option linter.unusedSimpArgs false
set_option maxRecDepth 100000 in
set_option maxHeartbeats 6400000 in
theorem uDivC (g b top : Nat) (t : TypeId) (x : List Nat) (w : World) (hx : UB w g t x) (hb : b < 2 ^ 256) (lx : x.length = 8) (dx : L64 x) (hbz : ∀ i, 1 ≤ i → i < 4 → (limbs b).getD i 0 = 0) (hbt : 0 < 1 → (limbs b).getD (1 - 1) 0 ≠ 0) (ht : top ≤ 8) (hxz : ∀ i, top ≤ i → i < 8 → x.getD i 0 = 0) (hxt : 0 < top → x.getD (top - 1) 0 ≠ 0) (htn : 1 ≤ top) : Calls Hvah.prog 417 #[.pointer (some ⟨g, 0, none⟩), wv b] w fun e w' => ∃ ql pv, e = .returned (.tuple #[wv (dmod (lv x) b), .agg pv]) ∧ ql.length = 8 ∧ L64 ql ∧ pv.size = 3 ∧ Ones pv ∧ lv ql = lv x / b ∧ UB w' g t ql ∧ Mod (fun q => q = g) w w' := by
  have hnl : nlim b = 1 := by have h9 := nlim_top (v := limbs b) (n := 1) rfl (limbs_l64 b) (by decide) (by decide) (hbt (by decide)) hbz; rwa [lv_limbs hb] at h9
  have HL := fun W => uLimbs b W
  rw [hnl] at HL
  have hgl := hx.lt
  go_enter Hvah.func417, Hvah.ntmps417
  go_upto_region 2 with (first | ((with_reducible (refine Veil.out ?_; apply wl_boxW)); (case hx => rfl); rintro V Wv cv ev bV hW gV) | ((with_reducible (refine Veil.out ?_; apply wl_allocF z66f)); rintro R W1 e1 bR gR) | ((with_reducible (refine Veil.out ?_; apply wl_allocF z408)); rintro P W2 e2 bP gP) | ((with_reducible (refine Veil.out ?_; apply wl_loadWB)); (case hx => rfl); (case hB => exact bV.ext (by (repeat (first | with_reducible exact Ext.refl _ | with_reducible assumption | refine Ext.trans ?_ (by with_reducible assumption) | refine Ext.alloc ?_ _ _ | refine Ext.drew ?_ | refine Ext.drewN ?_ _)))); (case hW => exact hW); (case hi => decide)) | (go_at_call 261; refine (HL _).mono ?_; rintro e w3 ⟨rfl, he3⟩))
  have gRw : w.heap.size ≤ R := Nat.le_trans ev.size gR
  have gPw : w.heap.size ≤ P := Nat.le_trans (ev.trans e1).size gP
  have hVR : ¬ V = R := fun q => by have := bV.lt; omega
  have hVP : ¬ V = P := fun q => by have := (bV.ext e1).lt; omega
  have hRP : ¬ R = P := fun q => by have := bR.lt; omega
  have hgV : ¬ g = V := fun q => by omega
  have hgR : ¬ g = R := fun q => by omega
  have hgP : ¬ g = P := fun q => by omega
  have hE3 : Ext w w3 := ((ev.trans e1).trans e2).trans he3
  have uV3 : UB w3 V 79 (limbs b) := wat_ub (bV.ext ((e1.trans e2).trans he3)) hW
  have bR3 := bR.ext (e2.trans he3)
  have bP3 := bP.ext he3
  have ux3 : UB w3 g t x := hx.ext hE3
  have hM3 : Mod (fun q => q = g) w w3 := hE3.mod _
  clear bR bP bV hW ev e1 e2 he3 gR gP
  go_upto_region 6 with (fail)
  try simp only [Act.put]
  go_loopw [7] (fun iv wr => ∃ k : Nat, iv = .int .u8 (k : Nat) ∧ top ≤ k ∧ k ≤ 8 ∧ wr = w3) (fun iv _ => (intOf iv).toNat)
  case atStart => exact ⟨8, rfl, ht, by decide, rfl⟩
  case round =>
    obtain ⟨k, rfl, hk1, hk2, hww⟩ := hrel
    replace hww := hww.symm
    subst hww
    rcases Nat.eq_zero_or_pos k with hk0 | hk0
    · subst hk0
      obtain rfl : top = 0 := by omega
      exact absurd htn (by decide)
    · have k0 : (0 : Int) < k := by omega
      have j1 : IntKind.u8.wrap ((k : Int) - 1) = ((k - 1 : Nat) : Int) := by rw [IntKind.wrap_u8]; omega
      have i1 : ((k - 1 : Nat) : Int) < 8 := by omega
      have K1 := ux3.atD (i := k - 1) (by omega)
      rcases Nat.lt_or_ge top k with hlt | hge
      · rw [hxz (k - 1) (by omega) (by omega)] at K1
        obtain ⟨p, hp⟩ : ∃ p, Hid (k - 1 = p) := ⟨_, rfl⟩
        rw [hp.out] at K1 j1 i1
        go_wp2_with ((with_reducible (refine Veil.out ?_; apply wl_loadC onet26k)); (case hw => first | rfl | go_simp); (case hx => rfl); (case hc => exact K1))
        go_roundw
        case rel => have hp2 := hp.out; exact ⟨p, int_eq (by omega), by omega, by omega, trivial⟩
        case measure => have hp2 := hp.out; simp [intOf]; omega
      · obtain rfl : top = k := by omega
        have hne := hxt hk0
        obtain ⟨p, hp⟩ : ∃ p, Hid (top - 1 = p) := ⟨_, rfl⟩
        rw [hp.out] at K1 j1 i1 hne
        obtain ⟨y, hy⟩ : ∃ y, Hid (x.getD p 0 = y) := ⟨_, rfl⟩
        rw [hy.out] at K1 hne
        have hb' : ((y : Int) == 0) = false := by simp; omega
        have hym : b = (limbs b).getD 0 0 := by
          have h9 := lv_of_zeros (limbs b) 1 (by show 1 ≤ 4; decide) (fun i h1 h2 => hbz i h1 h2)
          rw [lv_limbs hb] at h9
          exact h9.trans (by simp [limbs, lv])
        have hy0 : (limbs b).getD 0 0 ≠ 0 := hbt (by decide)
        have hy6 := (limbs_l64 b).getD 0
        have hymH : Hid (b = (limbs b).getD 0 0) := hym
        clear hym
        have c2 : ¬ (top : Int) < 1 := by omega
        have s1 : IntKind.u8.wrap ((top : Int) - 1) = ((top - 1 : Nat) : Int) := by rw [IntKind.wrap_u8]; omega
        rw [hp.out] at s1
        have s2 : IntKind.u8.wrap ((p : Int) + 1) = (top : Int) := by have hp2 := hp.out; rw [IntKind.wrap_u8]; omega
        go_upto_region 14 with (first | ((with_reducible (refine Veil.out ?_; apply wl_loadC onet26k)); (case hw => first | rfl | go_simp); (case hx => rfl); (case hc => exact K1)) | ((with_reducible (refine Veil.out ?_; apply wl_storeC onet5k (v := .int .u8 (top : Nat)))); (case hx => rfl); (case hy => rfl); (case h1 => rfl); (case hB => exact bP3); (case hi => decide); rintro W6 b6 m6))
        have hM6 := hM3.fresh m6 gPw
        have bR6 := bR3.mod m6 hRP
        have ux6 := ux3.mod m6 hgP
        have KV := (uV3.mod m6 hVP).atD (i := 0) (by show 0 < 4; decide)
        obtain ⟨z, hz⟩ : ∃ z, Hid ((limbs b).getD 0 0 = z) := ⟨_, rfl⟩
        rw [hz.out] at hy0 hy6 KV
        have hsp : x = x.take top ++ x.drop top := (List.take_append_drop _ _).symm
        have hux : UB W6 g t (x.take top ++ x.drop top) := by rw [← hsp]; exact ux6
        have HS := uShort g top z t (x.take top) (x.drop top) W6 (by simp; omega) (dx.take top) hy6 (by omega) (by simp; omega) hux
        clear hsp hux ux6 ux3 bR3 bP3 hM3 uV3
        go_upto_region 15 with (first | ((with_reducible (refine Veil.out ?_; apply wl_loadC onet26k)); (case hw => rfl); (case hx => rfl); (case hc => exact KV)) | (go_at_call 429; refine HS.mono ?_; rintro e W8 ⟨qs, r, rfl, lq, dq, hr, hqr, u8, m8⟩) | ((with_reducible (refine Veil.out ?_; apply wl_storeC onet26k (v := .int .u64 (r : Nat)))); (case hx => rfl); (case hy => rfl); (case h1 => rfl); (case hB => exact bR6.mod m8 (fun q => hgR q.symm)); (case hi => decide); rintro W9 b9 m9))
        have bP9 := (b6.mod m8 (fun q => hgP q.symm)).mod m9 (fun q => hRP q.symm)
        have hM9 := (hM6.trans m8).fresh m9 gRw
        have u9 := u8.mod m9 hgR
        clear b6 hM6 u8 bR6 HS KV
        refine w_ext ?_
        rintro W0 hW0
        have hq0 : Ext _ W0 := hW0
        refine wp_region_held_drew (S := fun w' => (Mod (fun q => q = g) w (w') ∧ UB (w') g t (qs ++ x.drop top) ∧ Blk (w') R 4 79 (updv (fun _ => Value.int .u64 0) 0 (.int .u64 (r : Nat))) ∧ Blk (w') P 3 416 (updv (fun _ => Value.int .u8 0) 0 (.int .u8 (top : Nat))))) (by kernel_rfl) ⟨(hM9).trans_ext hq0.drew, (u9).ext hq0.drew, (b9).ext hq0.drew, (bP9).ext hq0.drew⟩ (fun hHeld => ?_)
        have HH : Hid ((Mod (fun q => q = g) w (_) ∧ UB (_) g t (qs ++ x.drop top) ∧ Blk (_) R 4 79 (updv (fun _ => Value.int .u64 0) 0 (.int .u64 (r : Nat))) ∧ Blk (_) P 3 416 (updv (fun _ => Value.int .u8 0) 0 (.int .u8 (top : Nat))))) := hHeld
        clear hHeld
        refine wpAnyH_take (i := 0) rfl (by kernel_rfl) (by kernel_rfl) (by kernel_rfl) (fun _ _ _ h => h) (yields_row rt66 (by rfl) rfl rfl (fun W hW => hW.2.2.1) (by decide)) HH.out ?_
        change wpAnyH _ _ _ _ _ _ _ (Act.put _ (some 62) _) _
        simp only [Act.put, List.setIfInBounds_toArray, List.set_cons_zero, List.set_cons_succ]
        refine wpAnyH_take (i := 1) rfl (by kernel_rfl) (by kernel_rfl) (by kernel_rfl) (fun _ _ _ h => h) (yields_row rt408 (by rfl) rfl rfl (fun W hW => hW.2.2.2) (by decide)) HH.out ?_
        change wpAnyH _ _ _ _ _ _ _ (Act.put _ (some 63) _) _
        simp only [Act.put, List.setIfInBounds_toArray, List.set_cons_zero, List.set_cons_succ]
        refine wpAnyH_ready (rs := [2]) (by kernel_rfl) (by simp) ?_
        refine AllReadyH.cons rfl (fun K hK => ?_) AllReadyH.nil
        refine step_any rfl (op_storeRow rfl rt66 rfl rfl (rowOf_size _ _ _) (ones_u4 _) HH.out.2.2.1 (by decide) ?_)
        rintro Wa ba ma
        refine hK.out _ _ ⟨HH.out.1.fresh ma gRw, HH.out.2.1.mod ma hgR, ba.laySelf, HH.out.2.2.2.mod ma (fun q => hRP q.symm)⟩ (fun hHeld => ?_)
        clear hK K HH
        have HH : Hid ((Mod (fun q => q = g) w (_) ∧ UB (_) g t (qs ++ x.drop top) ∧ Blk (_) R 4 79 (updv (fun _ => Value.int .u64 0) 0 (.int .u64 (r : Nat))) ∧ Blk (_) P 3 416 (updv (fun _ => Value.int .u8 0) 0 (.int .u8 (top : Nat))))) := hHeld
        clear hHeld
        change wpAnyH _ _ _ _ _ _ _ (Act.put _ none _) _
        simp only [Act.put, List.setIfInBounds_toArray, List.set_cons_zero, List.set_cons_succ]
        refine wpAnyH_ready (rs := [3]) (by kernel_rfl) (by simp) ?_
        refine AllReadyH.cons rfl (fun K hK => ?_) AllReadyH.nil
        refine step_any rfl (op_storeRow rfl rt408 rfl rfl (rowOf_size _ _ _) (ones_u8 _) HH.out.2.2.2 (by decide) ?_)
        rintro Wb bb mb
        refine hK.out _ _ ⟨HH.out.1.fresh mb gPw, HH.out.2.1.mod mb hgP, HH.out.2.2.1.mod mb hRP, bb.laySelf⟩ (fun hHeld => ?_)
        clear hK K HH
        have HH : Hid ((Mod (fun q => q = g) w (_) ∧ UB (_) g t (qs ++ x.drop top) ∧ Blk (_) R 4 79 (updv (fun _ => Value.int .u64 0) 0 (.int .u64 (r : Nat))) ∧ Blk (_) P 3 416 (updv (fun _ => Value.int .u8 0) 0 (.int .u8 (top : Nat))))) := hHeld
        clear hHeld
        change wpAnyH _ _ _ _ _ _ _ (Act.put _ none _) _
        simp only [Act.put, List.setIfInBounds_toArray, List.set_cons_zero, List.set_cons_succ]
        refine wpAnyH_done (by kernel_rfl) ?_ _
        go_wp2
        obtain ⟨hMf, uXf, bRf, bPf⟩ := HH.out
        refine post_rr rt66 rt408 (rowOf (updv (fun _ => Value.int .u64 0) 0 (.int .u64 (r : Nat))) 0 4) (rowOf (updv (fun _ => Value.int .u8 0) 0 (.int .u8 (top : Nat))) 0 3) (rowOf_size _ _ _) (rowOf_size _ _ _) rfl rfl rfl (bRf.rowIn (by decide)) (bPf.rowIn (by decide)) rfl ?_
        have hb0 : b = z := hymH.out.trans hz.out
        have e0 : lv x = lv (x.take top) := lv_of_zeros x top (by omega) (fun i h1 h2 => hxz i h1 (by omega))
        have e1 := hqr.out
        rw [← e0] at e1
        have e2 : lv (x.drop top) = 0 := lv_zero _ (fun i hi => by rw [getD_drop]; simp at hi; exact hxz _ (by omega) (by omega))
        have e3 : lv x % z = r := by rw [← e1, Nat.add_comm, Nat.mul_comm, Nat.add_mul_mod_self_left, Nat.mod_eq_of_lt hr]
        have e4 : lv x / z = lv qs := by rw [← e1, Nat.add_comm, Nat.mul_comm, Nat.add_mul_div_left _ _ (by omega), Nat.div_eq_of_lt hr, Nat.zero_add]
        refine ⟨qs ++ x.drop top, _, ?_, by simp [lq]; omega, dq.append (dx.drop top), rowOf_size _ _ _, ones_u8 top, ?_, uXf, hMf⟩
        · have e5 : dmod (lv x) b = r := by
            unfold dmod
            rw [if_neg (by omega), hb0, e3]
          rw [e5]
          have e6 := wv_lv (l := [r, 0, 0, 0]) rfl (fun d hd => by simp at hd; rcases hd with rfl | rfl; omega; decide)
          rw [show lv [r, 0, 0, 0] = r by simp [lv]] at e6
          rw [show wv r = .agg (wvA r) from rfl, ← e6]
          rfl
        · rw [lv_append, e2, hb0, e4]; simp
end Go.Proofs.YgvahwGreat
