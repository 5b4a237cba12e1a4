import Derived.Test.YgvahwGreatDy0
namespace Go.Proofs.YgvahwGreat
open Go.RowKit
set_option linter.unusedSimpArgs false
set_option maxRecDepth 100000 in
set_option maxHeartbeats 6400000 in
theorem uDivA (g : Nat) (t : TypeId) (x : List Nat) (w : World) (hx : UB w g t x) (lx : x.length = 8) : Calls Hvah.prog 417 #[.pointer (some ⟨g, 0, none⟩), wv 0] w fun e w' => ∃ ql pv, e = .returned (.tuple #[wv (dmod (lv x) 0), .agg pv]) ∧ ql.length = 8 ∧ L64 ql ∧ pv.size = 3 ∧ Ones pv ∧ lv ql = lv x / 0 ∧ UB w' g t ql ∧ Mod (fun q => q = g) w w' := by
  have HL := fun W => uLimbs 0 W
  rw [show nlim 0 = 0 from rfl] at HL
  have hgl := hx.lt
  go_enter Hvah.func417, Hvah.ntmps417
  go_upto_region 2 with (first | ((with_reducible (refine Veil.out ?_; apply wl_boxW)); (case hx => rfl); rintro V Wv cv ev bV hW gV) | ((with_reducible (refine Veil.out ?_; apply wl_allocF z66f)); rintro R W1 e1 bR gR) | ((with_reducible (refine Veil.out ?_; apply wl_allocF z408)); rintro P W2 e2 bP gP) | ((with_reducible (refine Veil.out ?_; apply wl_loadWB)); (case hx => rfl); (case hB => exact bV.ext (by (repeat (first | with_reducible exact Ext.refl _ | with_reducible assumption | refine Ext.trans ?_ (by with_reducible assumption) | refine Ext.alloc ?_ _ _ | refine Ext.drew ?_ | refine Ext.drewN ?_ _)))); (case hW => exact hW); (case hi => decide)) | (go_at_call 261; refine (HL _).mono ?_; rintro e w3 ⟨rfl, he3⟩))
  have gRw : w.heap.size ≤ R := Nat.le_trans ev.size gR
  have gPw : w.heap.size ≤ P := Nat.le_trans (ev.trans e1).size gP
  have hVR : ¬ V = R := fun q => by have := bV.lt; omega
  have hVP : ¬ V = P := fun q => by have := (bV.ext e1).lt; omega
  have hRP : ¬ R = P := fun q => by have := bR.lt; omega
  have hgV : ¬ g = V := fun q => by omega
  have hgR : ¬ g = R := fun q => by omega
  have hgP : ¬ g = P := fun q => by omega
  have hE3 : Ext w w3 := ((ev.trans e1).trans e2).trans he3
  have uV3 : UB w3 V 79 (limbs 0) := wat_ub (bV.ext ((e1.trans e2).trans he3)) hW
  have bR3 := bR.ext (e2.trans he3)
  have bP3 := bP.ext he3
  have ux3 : UB w3 g t x := hx.ext hE3
  have hM3 : Mod (fun q => q = g) w w3 := hE3.mod _
  clear bR bP bV hW ev e1 e2 he3 gR gP
  go_upto_region 4 with (first | ((with_reducible (refine Veil.out ?_; apply wl_clear64 (by kernel_rfl))); (case hd => rfl); (case hn => decide); (case hB => exact ux3.toB lx); rintro W5 u5 m5))
  have hM5 := hM3.trans m5
  have bR5 := bR3.mod m5 (fun q => hgR q.symm)
  have bP5 := bP3.mod m5 (fun q => hgP q.symm)
  clear bR3 bP3 hM3 m5 ux3 uV3
  refine w_ext ?_
  rintro W0 hW0
  have hq0 : Ext _ W0 := hW0
  refine wp_region_held_drew (S := fun w' => (Mod (fun q => q = g) w (w') ∧ UB (w') g t (List.replicate 8 0) ∧ Blk (w') R 4 79 (fun _ => Value.int .u64 0) ∧ Blk (w') P 3 416 (fun _ => Value.int .u8 0))) (by kernel_rfl) ⟨(hM5).trans_ext hq0.drew, (u5).ext hq0.drew, (bR5).ext hq0.drew, (bP5).ext hq0.drew⟩ (fun hHeld => ?_)
  have HH : Hid ((Mod (fun q => q = g) w (_) ∧ UB (_) g t (List.replicate 8 0) ∧ Blk (_) R 4 79 (fun _ => Value.int .u64 0) ∧ Blk (_) P 3 416 (fun _ => Value.int .u8 0))) := hHeld
  clear hHeld
  refine wpAnyH_take (i := 0) rfl (by kernel_rfl) (by kernel_rfl) (by kernel_rfl) (fun _ _ _ h => h) (yields_row rt66 (by rfl) rfl rfl (fun W hW => hW.2.2.1) (by decide)) HH.out ?_
  change wpAnyH _ _ _ _ _ _ _ (Act.put _ (some 21) _) _
  simp only [Act.put, List.setIfInBounds_toArray, List.set_cons_zero, List.set_cons_succ]
  refine wpAnyH_take (i := 1) rfl (by kernel_rfl) (by kernel_rfl) (by kernel_rfl) (fun _ _ _ h => h) (yields_row rt408 (by rfl) rfl rfl (fun W hW => hW.2.2.2) (by decide)) HH.out ?_
  change wpAnyH _ _ _ _ _ _ _ (Act.put _ (some 22) _) _
  simp only [Act.put, List.setIfInBounds_toArray, List.set_cons_zero, List.set_cons_succ]
  refine wpAnyH_ready (rs := [2]) (by kernel_rfl) (by simp) ?_
  refine AllReadyH.cons rfl (fun K hK => ?_) AllReadyH.nil
  refine step_any rfl (op_storeRow rfl rt66 rfl rfl (rowOf_size _ _ _) (ones_c4) HH.out.2.2.1 (by decide) ?_)
  rintro Wa ba ma
  refine hK.out _ _ ⟨HH.out.1.fresh ma gRw, HH.out.2.1.mod ma hgR, ba.laySelf, HH.out.2.2.2.mod ma (fun q => hRP q.symm)⟩ (fun hHeld => ?_)
  clear hK K HH
  have HH : Hid ((Mod (fun q => q = g) w (_) ∧ UB (_) g t (List.replicate 8 0) ∧ Blk (_) R 4 79 (fun _ => Value.int .u64 0) ∧ Blk (_) P 3 416 (fun _ => Value.int .u8 0))) := hHeld
  clear hHeld
  change wpAnyH _ _ _ _ _ _ _ (Act.put _ none _) _
  simp only [Act.put, List.setIfInBounds_toArray, List.set_cons_zero, List.set_cons_succ]
  refine wpAnyH_ready (rs := [3]) (by kernel_rfl) (by simp) ?_
  refine AllReadyH.cons rfl (fun K hK => ?_) AllReadyH.nil
  refine step_any rfl (op_storeRow rfl rt408 rfl rfl (rowOf_size _ _ _) (ones_c8) HH.out.2.2.2 (by decide) ?_)
  rintro Wb bb mb
  refine hK.out _ _ ⟨HH.out.1.fresh mb gPw, HH.out.2.1.mod mb hgP, HH.out.2.2.1.mod mb hRP, bb.laySelf⟩ (fun hHeld => ?_)
  clear hK K HH
  have HH : Hid ((Mod (fun q => q = g) w (_) ∧ UB (_) g t (List.replicate 8 0) ∧ Blk (_) R 4 79 (fun _ => Value.int .u64 0) ∧ Blk (_) P 3 416 (fun _ => Value.int .u8 0))) := hHeld
  clear hHeld
  change wpAnyH _ _ _ _ _ _ _ (Act.put _ none _) _
  simp only [Act.put, List.setIfInBounds_toArray, List.set_cons_zero, List.set_cons_succ]
  refine wpAnyH_done (by kernel_rfl) ?_ _
  go_wp2
  obtain ⟨hMf, uXf, bRf, bPf⟩ := HH.out
  refine post_rr rt66 rt408 (rowOf (fun _ => Value.int .u64 0) 0 4) (rowOf (fun _ => Value.int .u8 0) 0 3) (rowOf_size _ _ _) (rowOf_size _ _ _) rfl rfl rfl (bRf.rowIn (by decide)) (bPf.rowIn (by decide)) rfl ?_
  refine ⟨List.replicate 8 0, _, ?_, by simp, rep_l64 8, rowOf_size _ _ _, ones_c8, ?_, uXf, hMf⟩
  · rw [show dmod (lv x) 0 = 0 by simp [dmod]]; rfl
  · rw [rep_zero]
end Go.Proofs.YgvahwGreat
