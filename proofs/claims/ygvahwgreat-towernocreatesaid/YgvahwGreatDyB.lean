import Derived.Test.YgvahwGreatDy0
import Derived.Test.YgvahwGreatDsB
namespace Go.Proofs.YgvahwGreat
open Go.RowKit
set_option linter.unusedSimpArgs false
set_option maxRecDepth 100000 in
set_option maxHeartbeats 6400000 in
theorem uDivB (g b n top : Nat) (t : TypeId) (x : List Nat) (w : World) (hx : UB w g t x) (hb : b < 2 ^ 256) (lx : x.length = 8) (dx : L64 x) (hn : n ≤ 4) (hbz : ∀ i, n ≤ i → i < 4 → (limbs b).getD i 0 = 0) (hbt : 0 < n → (limbs b).getD (n - 1) 0 ≠ 0) (ht : top ≤ 8) (hxz : ∀ i, top ≤ i → i < 8 → x.getD i 0 = 0) (hxt : 0 < top → x.getD (top - 1) 0 ≠ 0) (htn : top < n) : Calls Hvah.prog 417 #[.pointer (some ⟨g, 0, none⟩), wv b] w fun e w' => ∃ ql pv, e = .returned (.tuple #[wv (dmod (lv x) b), .agg pv]) ∧ ql.length = 8 ∧ L64 ql ∧ pv.size = 3 ∧ Ones pv ∧ lv ql = lv x / b ∧ UB w' g t ql ∧ Mod (fun q => q = g) w w' := by
  have hnl : nlim b = n := by have h9 := nlim_top (v := limbs b) rfl (limbs_l64 b) (show 1 ≤ n by omega) hn (hbt (by omega)) hbz; rwa [lv_limbs hb] at h9
  have c1 : ((n : Int) == 0) = false := by simp; omega
  have HL := fun W => uLimbs b W
  rw [hnl] at HL
  have hgl := hx.lt
  go_enter Hvah.func417, Hvah.ntmps417
  go_upto_region 2 with (first | ((with_reducible (refine Veil.out ?_; apply wl_boxW)); (case hx => rfl); rintro V Wv cv ev bV hW gV) | ((with_reducible (refine Veil.out ?_; apply wl_allocF z66f)); rintro R W1 e1 bR gR) | ((with_reducible (refine Veil.out ?_; apply wl_allocF z408)); rintro P W2 e2 bP gP) | ((with_reducible (refine Veil.out ?_; apply wl_loadWB)); (case hx => rfl); (case hB => exact bV.ext (by (repeat (first | with_reducible exact Ext.refl _ | with_reducible assumption | refine Ext.trans ?_ (by with_reducible assumption) | refine Ext.alloc ?_ _ _ | refine Ext.drew ?_ | refine Ext.drewN ?_ _)))); (case hW => exact hW); (case hi => decide)) | (go_at_call 261; refine (HL _).mono ?_; rintro e w3 ⟨rfl, he3⟩))
  have gRw : w.heap.size ≤ R := Nat.le_trans ev.size gR
  have gPw : w.heap.size ≤ P := Nat.le_trans (ev.trans e1).size gP
  have hVR : ¬ V = R := fun q => by have := bV.lt; omega
  have hVP : ¬ V = P := fun q => by have := (bV.ext e1).lt; omega
  have hRP : ¬ R = P := fun q => by have := bR.lt; omega
  have hgV : ¬ g = V := fun q => by omega
  have hgR : ¬ g = R := fun q => by omega
  have hgP : ¬ g = P := fun q => by omega
  have hE3 : Ext w w3 := ((ev.trans e1).trans e2).trans he3
  have uV3 : UB w3 V 79 (limbs b) := wat_ub (bV.ext ((e1.trans e2).trans he3)) hW
  have bR3 := bR.ext (e2.trans he3)
  have bP3 := bP.ext he3
  have ux3 : UB w3 g t x := hx.ext hE3
  have hM3 : Mod (fun q => q = g) w w3 := hE3.mod _
  clear bR bP bV hW ev e1 e2 he3 gR gP
  go_upto_region 6 with (fail)
  try simp only [Act.put]
  go_loopw [7] (fun iv wr => ∃ k : Nat, iv = .int .u8 (k : Nat) ∧ top ≤ k ∧ k ≤ 8 ∧ wr = w3) (fun iv _ => (intOf iv).toNat)
  case atStart => exact ⟨8, rfl, ht, by decide, rfl⟩
  case round =>
    obtain ⟨k, rfl, hk1, hk2, hww⟩ := hrel
    replace hww := hww.symm
    subst hww
    rcases Nat.eq_zero_or_pos k with hk0 | hk0
    · subst hk0
      obtain rfl : top = 0 := by omega
      have HPA := fun W => run_arrayAt W 79 24 4 4 8 (some ⟨g, 0, none⟩) under66d (Nat.le_refl _)
      have c2 : (0 : Int) < n := by omega
      go_upto_region 10 with (first | ((with_reducible (refine Veil.out ?_; apply wl_loadRow rt66)); (case hx => rfl); (case hB => exact ux3.toB lx); (case hi => decide)) | ((with_reducible (refine Veil.out ?_; apply wl_storeRow rt66)); (case hx => rfl); (case hy => rfl); (case hr => exact rowOf_size _ _ _); (case h1 => exact ones_lf _ _ _); (case hB => exact bR3); (case hi => decide); rintro W4 b4 m4))
      have ux4 := ux3.mod m4 hgR
      have bP4 := bP3.mod m4 (fun q => hRP q.symm)
      have hM4 := hM3.fresh m4 gRw
      have bR4 : Blk W4 R 4 79 (lf x) := b4.same (fun i hi => (lay_over _ (lf x) 4 i hi).symm)
      clear ux3 bP3 hM3 b4 bR3 m4 uV3
      go_upto_region 11 with (first | ((with_reducible (refine Veil.out ?_; apply wl_clear64 (by kernel_rfl))); (case hd => rfl); (case hn => decide); (case hB => exact ux4.toB lx); rintro W5 u5 m5))
      have hM5 := hM4.trans m5
      have bR5 := bR4.mod m5 (fun q => hgR q.symm)
      have bP5 := bP4.mod m5 (fun q => hgP q.symm)
      clear bR4 bP4 hM4 m5 ux4
      refine w_ext ?_
      rintro W0 hW0
      have hq0 : Ext _ W0 := hW0
      refine wp_region_held_drew (S := fun w' => (Mod (fun q => q = g) w (w') ∧ UB (w') g t (List.replicate 8 0) ∧ Blk (w') R 4 79 (lf x) ∧ Blk (w') P 3 416 (fun _ => Value.int .u8 0))) (by kernel_rfl) ⟨(hM5).trans_ext hq0.drew, (u5).ext hq0.drew, (bR5).ext hq0.drew, (bP5).ext hq0.drew⟩ (fun hHeld => ?_)
      have HH : Hid ((Mod (fun q => q = g) w (_) ∧ UB (_) g t (List.replicate 8 0) ∧ Blk (_) R 4 79 (lf x) ∧ Blk (_) P 3 416 (fun _ => Value.int .u8 0))) := hHeld
      clear hHeld
      refine wpAnyH_take (i := 0) rfl (by kernel_rfl) (by kernel_rfl) (by kernel_rfl) (fun _ _ _ h => h) (yields_row rt66 (by rfl) rfl rfl (fun W hW => hW.2.2.1) (by decide)) HH.out ?_
      change wpAnyH _ _ _ _ _ _ _ (Act.put _ (some 47) _) _
      simp only [Act.put, List.setIfInBounds_toArray, List.set_cons_zero, List.set_cons_succ]
      refine wpAnyH_take (i := 1) rfl (by kernel_rfl) (by kernel_rfl) (by kernel_rfl) (fun _ _ _ h => h) (yields_row rt408 (by rfl) rfl rfl (fun W hW => hW.2.2.2) (by decide)) HH.out ?_
      change wpAnyH _ _ _ _ _ _ _ (Act.put _ (some 48) _) _
      simp only [Act.put, List.setIfInBounds_toArray, List.set_cons_zero, List.set_cons_succ]
      refine wpAnyH_ready (rs := [2]) (by kernel_rfl) (by simp) ?_
      refine AllReadyH.cons rfl (fun K hK => ?_) AllReadyH.nil
      refine step_any rfl (op_storeRow rfl rt66 rfl rfl (rowOf_size _ _ _) (ones_lf _ _ _) HH.out.2.2.1 (by decide) ?_)
      rintro Wa ba ma
      refine hK.out _ _ ⟨HH.out.1.fresh ma gRw, HH.out.2.1.mod ma hgR, ba.laySelf, HH.out.2.2.2.mod ma (fun q => hRP q.symm)⟩ (fun hHeld => ?_)
      clear hK K HH
      have HH : Hid ((Mod (fun q => q = g) w (_) ∧ UB (_) g t (List.replicate 8 0) ∧ Blk (_) R 4 79 (lf x) ∧ Blk (_) P 3 416 (fun _ => Value.int .u8 0))) := hHeld
      clear hHeld
      change wpAnyH _ _ _ _ _ _ _ (Act.put _ none _) _
      simp only [Act.put, List.setIfInBounds_toArray, List.set_cons_zero, List.set_cons_succ]
      refine wpAnyH_ready (rs := [3]) (by kernel_rfl) (by simp) ?_
      refine AllReadyH.cons rfl (fun K hK => ?_) AllReadyH.nil
      refine step_any rfl (op_storeRow rfl rt408 rfl rfl (rowOf_size _ _ _) (ones_c8) HH.out.2.2.2 (by decide) ?_)
      rintro Wb bb mb
      refine hK.out _ _ ⟨HH.out.1.fresh mb gPw, HH.out.2.1.mod mb hgP, HH.out.2.2.1.mod mb hRP, bb.laySelf⟩ (fun hHeld => ?_)
      clear hK K HH
      have HH : Hid ((Mod (fun q => q = g) w (_) ∧ UB (_) g t (List.replicate 8 0) ∧ Blk (_) R 4 79 (lf x) ∧ Blk (_) P 3 416 (fun _ => Value.int .u8 0))) := hHeld
      clear hHeld
      change wpAnyH _ _ _ _ _ _ _ (Act.put _ none _) _
      simp only [Act.put, List.setIfInBounds_toArray, List.set_cons_zero, List.set_cons_succ]
      refine wpAnyH_done (by kernel_rfl) ?_ _
      go_wp2
      obtain ⟨hMf, uXf, bRf, bPf⟩ := HH.out
      refine post_rr rt66 rt408 (rowOf (lf x) 0 4) (rowOf (fun _ => Value.int .u8 0) 0 3) (rowOf_size _ _ _) (rowOf_size _ _ _) rfl rfl rfl (bRf.rowIn (by decide)) (bPf.rowIn (by decide)) rfl ?_
      rw [rowOf_lf x 4 (by omega), wv_lv (by simp [lx]) (dx.take 4)]
      have e1 := lv_of_zeros x 4 (by omega) (fun i h1 h2 => hxz i (by omega) (by omega))
      rw [← e1]
      have e2 : lv x < Bn 0 := by
        rw [lv_of_zeros x 0 (by omega) (fun i h1 h2 => hxz i h1 (by omega))]
        have := lv_lt (x.take 0) (dx.take _)
        rwa [List.length_take, show min 0 x.length = 0 by omega] at this
      have e3 := lv_ge (limbs b) (n - 1) (by show n - 1 < 4; omega)
      rw [lv_limbs hb] at e3
      have e4 : Bn 0 ≤ Bn (n - 1) := Bn_le (by omega)
      have e5 : Bn (n - 1) * 1 ≤ Bn (n - 1) * (limbs b).getD (n - 1) 0 := Nat.mul_le_mul_left _ (by have := hbt (by omega); omega)
      have e6 : lv x < b := by omega
      have e7 : dmod (lv x) b = lv x := by
        unfold dmod
        rw [if_neg (by omega), Nat.mod_eq_of_lt e6]
      rw [e7]
      exact ⟨List.replicate 8 0, _, rfl, by simp, rep_l64 8, rowOf_size _ _ _, ones_c8, by rw [rep_zero, Nat.div_eq_of_lt e6], uXf, hMf⟩
    · have k0 : (0 : Int) < k := by omega
      have j1 : IntKind.u8.wrap ((k : Int) - 1) = ((k - 1 : Nat) : Int) := by rw [IntKind.wrap_u8]; omega
      have i1 : ((k - 1 : Nat) : Int) < 8 := by omega
      have K1 := ux3.atD (i := k - 1) (by omega)
      rcases Nat.lt_or_ge top k with hlt | hge
      · rw [hxz (k - 1) (by omega) (by omega)] at K1
        obtain ⟨p, hp⟩ : ∃ p, Hid (k - 1 = p) := ⟨_, rfl⟩
        rw [hp.out] at K1 j1 i1
        go_wp2_with ((with_reducible (refine Veil.out ?_; apply wl_loadC onet26k)); (case hw => first | rfl | go_simp); (case hx => rfl); (case hc => exact K1))
        go_roundw
        case rel => have hp2 := hp.out; exact ⟨p, int_eq (by omega), by omega, by omega, trivial⟩
        case measure => have hp2 := hp.out; simp [intOf]; omega
      · obtain rfl : top = k := by omega
        have hne := hxt hk0
        obtain ⟨p, hp⟩ : ∃ p, Hid (top - 1 = p) := ⟨_, rfl⟩
        rw [hp.out] at K1 j1 i1 hne
        obtain ⟨y, hy⟩ : ∃ y, Hid (x.getD p 0 = y) := ⟨_, rfl⟩
        rw [hy.out] at K1 hne
        have hb' : ((y : Int) == 0) = false := by simp; omega
        have HPA := fun W => run_arrayAt W 79 24 4 4 8 (some ⟨g, 0, none⟩) under66d (Nat.le_refl _)
        have c2 : (top : Int) < n := by omega
        go_upto_region 10 with (first | ((with_reducible (refine Veil.out ?_; apply wl_loadC onet26k)); (case hw => first | rfl | go_simp); (case hx => rfl); (case hc => exact K1)) | ((with_reducible (refine Veil.out ?_; apply wl_loadRow rt66)); (case hx => rfl); (case hB => exact ux3.toB lx); (case hi => decide)) | ((with_reducible (refine Veil.out ?_; apply wl_storeRow rt66)); (case hx => rfl); (case hy => rfl); (case hr => exact rowOf_size _ _ _); (case h1 => exact ones_lf _ _ _); (case hB => exact bR3); (case hi => decide); rintro W4 b4 m4))
        have ux4 := ux3.mod m4 hgR
        have bP4 := bP3.mod m4 (fun q => hRP q.symm)
        have hM4 := hM3.fresh m4 gRw
        have bR4 : Blk W4 R 4 79 (lf x) := b4.same (fun i hi => (lay_over _ (lf x) 4 i hi).symm)
        clear ux3 bP3 hM3 b4 bR3 m4 uV3
        go_upto_region 11 with (first | ((with_reducible (refine Veil.out ?_; apply wl_clear64 (by kernel_rfl))); (case hd => rfl); (case hn => decide); (case hB => exact ux4.toB lx); rintro W5 u5 m5))
        have hM5 := hM4.trans m5
        have bR5 := bR4.mod m5 (fun q => hgR q.symm)
        have bP5 := bP4.mod m5 (fun q => hgP q.symm)
        clear bR4 bP4 hM4 m5 ux4
        refine w_ext ?_
        rintro W0 hW0
        have hq0 : Ext _ W0 := hW0
        refine wp_region_held_drew (S := fun w' => (Mod (fun q => q = g) w (w') ∧ UB (w') g t (List.replicate 8 0) ∧ Blk (w') R 4 79 (lf x) ∧ Blk (w') P 3 416 (fun _ => Value.int .u8 0))) (by kernel_rfl) ⟨(hM5).trans_ext hq0.drew, (u5).ext hq0.drew, (bR5).ext hq0.drew, (bP5).ext hq0.drew⟩ (fun hHeld => ?_)
        have HH : Hid ((Mod (fun q => q = g) w (_) ∧ UB (_) g t (List.replicate 8 0) ∧ Blk (_) R 4 79 (lf x) ∧ Blk (_) P 3 416 (fun _ => Value.int .u8 0))) := hHeld
        clear hHeld
        refine wpAnyH_take (i := 0) rfl (by kernel_rfl) (by kernel_rfl) (by kernel_rfl) (fun _ _ _ h => h) (yields_row rt66 (by rfl) rfl rfl (fun W hW => hW.2.2.1) (by decide)) HH.out ?_
        change wpAnyH _ _ _ _ _ _ _ (Act.put _ (some 47) _) _
        simp only [Act.put, List.setIfInBounds_toArray, List.set_cons_zero, List.set_cons_succ]
        refine wpAnyH_take (i := 1) rfl (by kernel_rfl) (by kernel_rfl) (by kernel_rfl) (fun _ _ _ h => h) (yields_row rt408 (by rfl) rfl rfl (fun W hW => hW.2.2.2) (by decide)) HH.out ?_
        change wpAnyH _ _ _ _ _ _ _ (Act.put _ (some 48) _) _
        simp only [Act.put, List.setIfInBounds_toArray, List.set_cons_zero, List.set_cons_succ]
        refine wpAnyH_ready (rs := [2]) (by kernel_rfl) (by simp) ?_
        refine AllReadyH.cons rfl (fun K hK => ?_) AllReadyH.nil
        refine step_any rfl (op_storeRow rfl rt66 rfl rfl (rowOf_size _ _ _) (ones_lf _ _ _) HH.out.2.2.1 (by decide) ?_)
        rintro Wa ba ma
        refine hK.out _ _ ⟨HH.out.1.fresh ma gRw, HH.out.2.1.mod ma hgR, ba.laySelf, HH.out.2.2.2.mod ma (fun q => hRP q.symm)⟩ (fun hHeld => ?_)
        clear hK K HH
        have HH : Hid ((Mod (fun q => q = g) w (_) ∧ UB (_) g t (List.replicate 8 0) ∧ Blk (_) R 4 79 (lf x) ∧ Blk (_) P 3 416 (fun _ => Value.int .u8 0))) := hHeld
        clear hHeld
        change wpAnyH _ _ _ _ _ _ _ (Act.put _ none _) _
        simp only [Act.put, List.setIfInBounds_toArray, List.set_cons_zero, List.set_cons_succ]
        refine wpAnyH_ready (rs := [3]) (by kernel_rfl) (by simp) ?_
        refine AllReadyH.cons rfl (fun K hK => ?_) AllReadyH.nil
        refine step_any rfl (op_storeRow rfl rt408 rfl rfl (rowOf_size _ _ _) (ones_c8) HH.out.2.2.2 (by decide) ?_)
        rintro Wb bb mb
        refine hK.out _ _ ⟨HH.out.1.fresh mb gPw, HH.out.2.1.mod mb hgP, HH.out.2.2.1.mod mb hRP, bb.laySelf⟩ (fun hHeld => ?_)
        clear hK K HH
        have HH : Hid ((Mod (fun q => q = g) w (_) ∧ UB (_) g t (List.replicate 8 0) ∧ Blk (_) R 4 79 (lf x) ∧ Blk (_) P 3 416 (fun _ => Value.int .u8 0))) := hHeld
        clear hHeld
        change wpAnyH _ _ _ _ _ _ _ (Act.put _ none _) _
        simp only [Act.put, List.setIfInBounds_toArray, List.set_cons_zero, List.set_cons_succ]
        refine wpAnyH_done (by kernel_rfl) ?_ _
        go_wp2
        obtain ⟨hMf, uXf, bRf, bPf⟩ := HH.out
        refine post_rr rt66 rt408 (rowOf (lf x) 0 4) (rowOf (fun _ => Value.int .u8 0) 0 3) (rowOf_size _ _ _) (rowOf_size _ _ _) rfl rfl rfl (bRf.rowIn (by decide)) (bPf.rowIn (by decide)) rfl ?_
        rw [rowOf_lf x 4 (by omega), wv_lv (by simp [lx]) (dx.take 4)]
        have e1 := lv_of_zeros x 4 (by omega) (fun i h1 h2 => hxz i (by omega) (by omega))
        rw [← e1]
        have e2 : lv x < Bn top := by
          rw [lv_of_zeros x top (by omega) (fun i h1 h2 => hxz i h1 (by omega))]
          have := lv_lt (x.take top) (dx.take _)
          rwa [List.length_take, show min top x.length = top by omega] at this
        have e3 := lv_ge (limbs b) (n - 1) (by show n - 1 < 4; omega)
        rw [lv_limbs hb] at e3
        have e4 : Bn top ≤ Bn (n - 1) := Bn_le (by omega)
        have e5 : Bn (n - 1) * 1 ≤ Bn (n - 1) * (limbs b).getD (n - 1) 0 := Nat.mul_le_mul_left _ (by have := hbt (by omega); omega)
        have e6 : lv x < b := by omega
        have e7 : dmod (lv x) b = lv x := by
          unfold dmod
          rw [if_neg (by omega), Nat.mod_eq_of_lt e6]
        rw [e7]
        exact ⟨List.replicate 8 0, _, rfl, by simp, rep_l64 8, rowOf_size _ _ _, ones_c8, by rw [rep_zero, Nat.div_eq_of_lt e6], uXf, hMf⟩
end Go.Proofs.YgvahwGreat
