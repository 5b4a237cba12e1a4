import Derived.Test.YgvahwGreatQb
import Derived.Test.YgvahwGreatQh
import Derived.Test.YgvahwGreatQe
import Derived.Test.YgvahwGreatOhB3
namespace Go.Proofs.YgvahwGreat
open Go.RowKit
set_option linter.unusedSimpArgs false
section
variable {own : Nat → Nat} {w : World} {g : Nat} {c : Nat → Value} {V : EV} {st : ASt} {sn stale : List Nat} {s : Nat} {f : AFrame} {rest : List AFrame}
set_option maxRecDepth 100000 in
set_option maxHeartbeats 6400000 in
theorem mCall244_go {t : Nat} (et : Hid (addrA (f.arg 1) = t)) (h : MRep own w g c V st (s :: sn) stale) (hst : st.frames = f :: rest) (hph : st.phase = 1) (ho : f.opcode = 244) (hl : 6 ≤ f.stack.length) (hpc : f.pc ≤ 50000) (hr : Room V 8) (hd6 : rest.length < 6) (_hbl : 0 ≤ st.now.bal f.self) (hrd : f.arg 3 ≠ 0 → f.arg 2 + f.arg 3 ≤ f.mem.length) (hou : f.arg 5 ≠ 0 → f.arg 4 + f.arg 5 ≤ f.mem.length) (hcl : (st.now.code t).length ≤ 256) : Calls Hvah.prog 212 #[.pointer (some ⟨g, 0, none⟩)] w fun e w' => e = .returned (.tuple #[]) ∧ ∃ own' c' V2 sn', MRep own' w' g c' V2.snap (st.enterCall f rest 244) sn' stale ∧ MStep own w own' w' ∧ (V2 = V ∨ V2 = V.warmA t) := by
  obtain ⟨hfr, hr7⟩ := h.frame hst
  have hok := hfr.ok
  have hx1 : f.arg 1 < P256 := hok.argLt 1
  have ht : t < 2 ^ 160 := by rw [← et.out]; exact Nat.mod_lt _ (by decide)
  have HR0 := fun W (hW : Ext w W) => mRun (h.ext hW) hst hph
  have HA1 := fun W (hW : Ext w W) => mArg (h.ext hW) hst 1 (by decide)
  have HAo := fun W => mAddrOf (f.arg 1) hx1 W
  rw [et.out] at HAo
  obtain ⟨r72, hq1, hq2, hq3⟩ := b72 (sb := f.static) ht hok.self
  go_enter Hvah.func212, Hvah.ntmps212
  go_upto_region 3 with (first | (go_at_call 192; refine (HR0 _ (by (repeat (first | with_reducible exact Ext.refl _ | with_reducible assumption | refine Ext.trans ?_ (by with_reducible assumption) | refine Ext.alloc ?_ _ _ | refine Ext.drew ?_ | refine Ext.drewN ?_ _)))).mono ?_; rintro e w1 ⟨rfl, he⟩) | (go_at_call 273; refine (HA1 _ (by (repeat (first | with_reducible exact Ext.refl _ | with_reducible assumption | refine Ext.trans ?_ (by with_reducible assumption) | refine Ext.alloc ?_ _ _ | refine Ext.drew ?_ | refine Ext.drewN ?_ _)))).mono ?_; rintro e w1 ⟨rfl, he⟩) | (go_at_call 302; refine (HAo _).mono ?_; rintro e w1 ⟨rfl, he⟩) | ((with_reducible (refine Veil.out ?_; apply wl_allocA)); rintro B3 W2 cA eA bA aA gA) | ((with_reducible (refine Veil.out ?_; apply wl_storeA)); (case hx => rfl); (case hy => rfl); (case hv => exact ht); (case hB => exact Blk.ext bA (by (repeat (first | with_reducible exact Ext.refl _ | with_reducible assumption | refine Ext.trans ?_ (by with_reducible assumption) | refine Ext.alloc ?_ _ _ | refine Ext.drew ?_ | refine Ext.drewN ?_ _)))); (case hi => decide); rintro W3 c3 b3 a3 _ m3))
  have gB3 : w.heap.size ≤ B3 := Nat.le_trans (Ext.size (by (repeat (first | with_reducible exact Ext.refl _ | with_reducible assumption | refine Ext.trans ?_ (by with_reducible assumption) | refine Ext.alloc ?_ _ _ | refine Ext.drew ?_ | refine Ext.drewN ?_ _)))) gA
  have hE3 : Ext w W3 := Ext.trans_mod (by (repeat (first | with_reducible exact Ext.refl _ | with_reducible assumption | refine Ext.trans ?_ (by with_reducible assumption) | refine Ext.alloc ?_ _ _ | refine Ext.drew ?_ | refine Ext.drewN ?_ _))) m3 (fun i hi => by have hi2 : i = B3 := hi; rw [hi2]; exact gB3)
  clear bA aA
  have hgB3 : B3 ≠ g := fun q => by have := h.v.blk.lt; omega
  go_upto_region 4 with ((with_reducible (refine Veil.out ?_; apply wl_storeC onet32q)); (case hx => rfl); (case hy => rfl); (case h1 => rfl); (case hB => exact h.v.blk.ext hE3); (case hi => decide); rintro W4 b4 m4)
  obtain ⟨h1, s1⟩ := (h.ext hE3).noRet m4 b4
  have b3a := b3.mod m4 hgB3
  have HWm := mWarm h1 t ht (by have := hr.j; omega) (fun _ => by have := hr.a; omega)
  go_upto_region 6 with (first | ((with_reducible (refine Veil.out ?_; apply wl_loadA)); (case hx => rfl); (case hB => exact b3a); (case hA => exact a3); (case hs => exact ht); (case ho => decide)) | (go_at_call 303; refine HWm.mono ?_; rintro e w5 ⟨rfl, own2, c2, V2, h2, k2, hV2⟩))
  have b3b := b3a.mod k2.mod (fun q => q.1.1 (h.v.fresh _ gB3))
  have s2 : MStep own w own2 w5 := (MStep.ext hE3).trans (s1.trans k2.mstep)
  have hfr2 := (h2.frame (f := f) (rest := rest) hst).1
  have eg : g ≠ B3 := fun q => hgB3 q.symm
  clear HWm HR0 HA1 HAo h1 s1 b3a
  refine w_ext ?_
  rintro W0 hW0
  have h20 := h2.ext (show Ext w5 W0 by (repeat (first | with_reducible exact Ext.refl _ | with_reducible assumption | refine Ext.trans ?_ (by with_reducible assumption) | refine Ext.alloc ?_ _ _ | refine Ext.drew ?_ | refine Ext.drewN ?_ _)))
  refine wp_region_held_drew (S := fun w' => Ext W0 w') (by kernel_rfl) (Ext.refl _).drew (fun hHeld => ?_)
  have HH : Hid (Ext W0 _) := hHeld
  clear hHeld
  refine wpAnyH_take (i := 0) (v := ?_) rfl (by kernel_rfl) (by kernel_rfl) (by kernel_rfl) (fun _ _ _ h => h) (Or.inl ⟨by rfl, ?_⟩) HH.out ?_
  rotate_left
  · intro w hSw; go_simp; try with_reducible rfl
  change wpAnyH _ _ _ _ _ _ _ (Act.put _ (some 27) _) _
  simp only [Act.put, List.setIfInBounds_toArray, List.set_cons_zero, List.set_cons_succ]
  refine wpAnyH_take (i := 1) (v := ?_) rfl (by kernel_rfl) (by kernel_rfl) (by kernel_rfl) (fun _ _ _ h => h) (Or.inl ⟨by rfl, ?_⟩) HH.out ?_
  rotate_left
  · intro w hSw; go_simp; try with_reducible rfl
  change wpAnyH _ _ _ _ _ _ _ (Act.put _ (some 28) _) _
  simp only [Act.put, List.setIfInBounds_toArray, List.set_cons_zero, List.set_cons_succ]
  refine wpAnyH_take (i := 2) (v := ?_) rfl (by kernel_rfl) (by kernel_rfl) (by kernel_rfl) (fun _ _ _ h => h) (Or.inl ⟨by rfl, ?_⟩) HH.out ?_
  rotate_left
  · intro w hSw; go_simp; try with_reducible rfl
  change wpAnyH _ _ _ _ _ _ _ (Act.put _ (some 29) _) _
  simp only [Act.put, List.setIfInBounds_toArray, List.set_cons_zero, List.set_cons_succ]
  refine wpAnyH_take (i := 3) rfl (by kernel_rfl) (by kernel_rfl) (by kernel_rfl) (fun _ _ _ h => h) (yieldsIf_load1 (by rfl) _ _ rfl _ _ rfl onet4q _ (fun w hSw => by rw [(h20.v.blk.ext hSw).cell (by omega), hfr2.static])) HH.out ?_
  change wpAnyH _ _ _ _ _ _ _ (Act.put _ (some 30) _) _
  simp only [Act.put, List.setIfInBounds_toArray, List.set_cons_zero, List.set_cons_succ]
  refine wpAnyH_take (i := 4) rfl (by kernel_rfl) (by kernel_rfl) (by kernel_rfl) (fun _ _ _ h => h) (yields_A (by rfl) rfl rfl (fun w hSw => b3b.ext (Ext.trans (by (repeat (first | with_reducible exact Ext.refl _ | with_reducible assumption | refine Ext.trans ?_ (by with_reducible assumption) | refine Ext.alloc ?_ _ _ | refine Ext.drew ?_ | refine Ext.drewN ?_ _))) hSw)) a3 ht (by decide)) HH.out ?_
  change wpAnyH _ _ _ _ _ _ _ (Act.put _ (some 31) _) _
  simp only [Act.put, List.setIfInBounds_toArray, List.set_cons_zero, List.set_cons_succ]
  refine wpAnyH_take (i := 5) (v := ?_) rfl (by kernel_rfl) (by kernel_rfl) (by kernel_rfl) (fun _ _ _ h => h) (Or.inl ⟨by rfl, ?_⟩) HH.out ?_
  rotate_left
  · intro w hSw; go_simp; try with_reducible rfl
  change wpAnyH _ _ _ _ _ _ _ (Act.put _ (some 32) _) _
  simp only [Act.put, List.setIfInBounds_toArray, List.set_cons_zero, List.set_cons_succ]
  refine wpAnyH_take (i := 6) (v := ?_) rfl (by kernel_rfl) (by kernel_rfl) (by kernel_rfl) (fun _ _ _ h => h) (Or.inl ⟨by rfl, ?_⟩) HH.out ?_
  rotate_left
  · intro w hSw; go_simp; try with_reducible rfl
  change wpAnyH _ _ _ _ _ _ _ (Act.put _ (some 33) _) _
  simp only [Act.put, List.setIfInBounds_toArray, List.set_cons_zero, List.set_cons_succ]
  refine wpAnyH_take (i := 7) (v := ?_) rfl (by kernel_rfl) (by kernel_rfl) (by kernel_rfl) (fun _ _ _ h => h) (Or.inl ⟨by rfl, ?_⟩) HH.out ?_
  rotate_left
  · intro w hSw; go_simp; try with_reducible rfl
  change wpAnyH _ _ _ _ _ _ _ (Act.put _ (some 34) _) _
  simp only [Act.put, List.setIfInBounds_toArray, List.set_cons_zero, List.set_cons_succ]
  refine wpAnyH_take (i := 8) rfl (by kernel_rfl) (by kernel_rfl) (by kernel_rfl) (fun _ _ _ h => h) (yields_A (by rfl) rfl rfl (fun w hSw => h20.v.blk.ext hSw) hfr2.self hok.self (by omega)) HH.out ?_
  change wpAnyH _ _ _ _ _ _ _ (Act.put _ (some 35) _) _
  simp only [Act.put, List.setIfInBounds_toArray, List.set_cons_zero, List.set_cons_succ]
  refine wpAnyH_take (i := 9) rfl (by kernel_rfl) (by kernel_rfl) (by kernel_rfl) (fun _ _ _ h => h) (yields_build (by rfl) rfl hq3 (by simp [Act.eval])) HH.out ?_
  change wpAnyH _ _ _ _ _ _ _ (Act.put _ (some 36) _) _
  simp only [Act.put, List.setIfInBounds_toArray, List.set_cons_zero, List.set_cons_succ]
  refine wpAnyH_ready (rs := [10]) (by kernel_rfl) (by simp) ?_
  refine AllReadyH.cons rfl (fun K hK => ?_) AllReadyH.nil
  refine step_any rfl (op_alloc rfl z72 z72s ?_)
  rintro B4 W6 e6 b6 g6
  refine hK.out _ _ ?_ (fun hHeld => ?_)
  · exact HH.out.trans e6
  clear hK K HH
  have HH : Hid (Ext W0 _) := hHeld
  clear hHeld
  change wpAnyH _ _ _ _ _ _ _ (Act.put _ (some 4) _) _
  simp only [Act.put, List.setIfInBounds_toArray, List.set_cons_zero, List.set_cons_succ]
  refine wpAnyH_ready (rs := [11]) (by kernel_rfl) (by simp) ?_
  refine AllReadyH.cons rfl (fun K hK => ?_) AllReadyH.nil
  refine step_any rfl (op_storeRow rfl rt72 rfl rfl hq1 (ones_of (fun i hi => by rw [hq1] at hi; rw [hq2 i hi]; exact (kc0_ok (O := fun _ => True) (w := w) ht hok.self (fun _ _ => rfl)).ones i hi)) (b6.ext (by (repeat (first | with_reducible exact Ext.refl _ | with_reducible assumption | refine Ext.trans ?_ (by with_reducible assumption) | refine Ext.alloc ?_ _ _ | refine Ext.drew ?_ | refine Ext.drewN ?_ _)))) (by decide) ?_)
  rintro W7 b7 m7
  refine hK.out _ _ ?_ (fun hHeld => ?_)
  · exact Ext.trans_mod HH.out m7 (fun q hq => by have hq2 : q = B4 := hq; rw [hq2]; exact Nat.le_trans (Ext.size (by (repeat (first | with_reducible exact Ext.refl _ | with_reducible assumption | refine Ext.trans ?_ (by with_reducible assumption) | refine Ext.alloc ?_ _ _ | refine Ext.drew ?_ | refine Ext.drewN ?_ _)))) g6)
  clear hK K HH
  have HH : Hid (Ext W0 _) := hHeld
  clear hHeld
  change wpAnyH _ _ _ _ _ _ _ (Act.put _ none _) _
  simp only [Act.put, List.setIfInBounds_toArray, List.set_cons_zero, List.set_cons_succ]
  refine wpAnyH_done (by kernel_rfl) ?_ _
  have gB4 : w5.heap.size ≤ B4 := Nat.le_trans (Ext.size (by (repeat (first | with_reducible exact Ext.refl _ | with_reducible assumption | refine Ext.trans ?_ (by with_reducible assumption) | refine Ext.alloc ?_ _ _ | refine Ext.drew ?_ | refine Ext.drewN ?_ _)))) g6
  have hE7 : Ext w5 W7 := (show Ext w5 W0 by (repeat (first | with_reducible exact Ext.refl _ | with_reducible assumption | refine Ext.trans ?_ (by with_reducible assumption) | refine Ext.alloc ?_ _ _ | refine Ext.drew ?_ | refine Ext.drewN ?_ _))).trans HH.out
  clear HH
  obtain ⟨d0, hd0⟩ : ∃ d, Hid (layv (cf z72a) 0 r72 = d) := ⟨_, rfl⟩
  rw [hd0.out] at b7
  have C0 : ChC (Mu own2) W7 d0 2 0 0 t f.self 0 f.static [] [] := kc0_ok ht hok.self (fun i hi => by
    rw [← hd0.out, ← hq2 i hi]
    have := layv_in (cf z72a) 0 r72 (j := i) (by rw [hq1]; exact hi)
    rw [Nat.zero_add] at this; exact this)
  have hgB4 : B4 ≠ g := fun q => by have := h2.v.blk.lt; omega
  have h43 : B4 ≠ B3 := fun q => by have := b3b.lt; omega
  clear b6 hq1 hq2 hq3 hd0
  have HO2 := fun W (hW : Ext w5 W) => mOp (h2.ext hW) hst hph
  rw [ho] at HO2
  have HA2 := fun W (hW : Ext w5 W) => mArg (h2.ext hW) hst 2 (by decide)
  have HA0 := fun W (hW : Ext w5 W) => mArg (h2.ext hW) hst 0 (by decide)
  have hv2 : f.arg 2 < P256 := hok.argLt 2
  go_upto_region 9 with (first | ((with_reducible (refine Veil.out ?_; apply wl_allocW)); rintro B6 W8 c8 e8 b8 a8 g8) | ((with_reducible (refine Veil.out ?_; apply wl_storeWB)); (case hx => rfl); (case hy => first | rfl | exact wv0.symm); (case hB => exact Blk.ext b8 (by (repeat (first | with_reducible exact Ext.refl _ | with_reducible assumption | refine Ext.trans ?_ (by with_reducible assumption) | refine Ext.alloc ?_ _ _ | refine Ext.drew ?_ | refine Ext.drewN ?_ _)))); (case hi => decide); rintro W9 c9 b9 a9 _ m9))
  have gB6 : W7.heap.size ≤ B6 := Nat.le_trans (Ext.size (by (repeat (first | with_reducible exact Ext.refl _ | with_reducible assumption | refine Ext.trans ?_ (by with_reducible assumption) | refine Ext.alloc ?_ _ _ | refine Ext.drew ?_ | refine Ext.drewN ?_ _)))) g8
  have h46 : B4 ≠ B6 := fun q => by have := b7.lt; omega
  have h36 : B3 ≠ B6 := fun q => by have := b3b.lt; have := hE7.size; omega
  have hgB6 : B6 ≠ g := fun q => by have := h2.v.blk.lt; have := hE7.size; omega
  have hE79 : Ext W7 W9 := Ext.trans_mod (by (repeat (first | with_reducible exact Ext.refl _ | with_reducible assumption | refine Ext.trans ?_ (by with_reducible assumption) | refine Ext.alloc ?_ _ _ | refine Ext.drew ?_ | refine Ext.drewN ?_ _))) m9 (fun i hi => by have hi2 : i = B6 := hi; rw [hi2]; exact gB6)
  have b79 : Blk W9 B4 65 85 d0 := b7.ext hE79
  have hE9 : Ext w5 W9 := hE7.trans hE79
  have gB6w : w5.heap.size ≤ B6 := Nat.le_trans hE7.size gB6
  clear b7 b8 a8 m9 e8
  go_upto_region 28 with (first | (go_at_call 117; refine (HO2 _ (by (repeat (first | with_reducible exact Ext.refl _ | with_reducible assumption | refine Ext.trans ?_ (by with_reducible assumption) | refine Ext.alloc ?_ _ _ | refine Ext.drew ?_ | refine Ext.drewN ?_ _)))).mono ?_; rintro e w1 ⟨rfl, he⟩) | ((with_reducible (refine Veil.out ?_; apply wl_loadA)); (case hx => rfl); (case hB => exact h2.v.blk.ext (by (repeat (first | with_reducible exact Ext.refl _ | with_reducible assumption | refine Ext.trans ?_ (by with_reducible assumption) | refine Ext.alloc ?_ _ _ | refine Ext.drew ?_ | refine Ext.drewN ?_ _)))); (case hA => exact hfr2.self); (case hs => exact hok.self); (case ho => omega)) | ((with_reducible (refine Veil.out ?_; apply wl_loadA)); (case hx => rfl); (case hB => exact h2.v.blk.ext (by (repeat (first | with_reducible exact Ext.refl _ | with_reducible assumption | refine Ext.trans ?_ (by with_reducible assumption) | refine Ext.alloc ?_ _ _ | refine Ext.drew ?_ | refine Ext.drewN ?_ _)))); (case hA => exact hfr2.caller); (case hs => exact hok.caller); (case ho => omega)) | ((with_reducible (refine Veil.out ?_; apply wl_loadWB)); (case hx => rfl); (case hB => exact h2.v.blk.ext (by (repeat (first | with_reducible exact Ext.refl _ | with_reducible assumption | refine Ext.trans ?_ (by with_reducible assumption) | refine Ext.alloc ?_ _ _ | refine Ext.drew ?_ | refine Ext.drewN ?_ _)))); (case hW => exact hfr2.value); (case hi => omega)) | ((with_reducible (refine Veil.out ?_; apply wl_storeC onet5q)); (case hx => rfl); (case hy => rfl); (case h1 => rfl); (case hB => exact b79.ext (by (repeat (first | with_reducible exact Ext.refl _ | with_reducible assumption | refine Ext.trans ?_ (by with_reducible assumption) | refine Ext.alloc ?_ _ _ | refine Ext.drew ?_ | refine Ext.drewN ?_ _)))); (case hi => decide); rintro W21 b21 m21; have hE21 : Ext w5 W21 := Ext.trans_mod (by (repeat (first | with_reducible exact Ext.refl _ | with_reducible assumption | refine Ext.trans ?_ (by with_reducible assumption) | refine Ext.alloc ?_ _ _ | refine Ext.drew ?_ | refine Ext.drewN ?_ _))) m21 (fun i hi => by have hi2 : i = B4 := hi; rw [hi2]; exact gB4)) | ((with_reducible (refine Veil.out ?_; apply wl_storeRow rt25)); (case hx => rfl); (case hy => rfl); (case hr => exact av_size hok.self); (case h1 => exact av_one _); (case hB => exact b21.ext (by (repeat (first | with_reducible exact Ext.refl _ | with_reducible assumption | refine Ext.trans ?_ (by with_reducible assumption) | refine Ext.alloc ?_ _ _ | refine Ext.drew ?_ | refine Ext.drewN ?_ _)))); (case hi => decide); rintro W22 b22 m22; have hE22 : Ext w5 W22 := Ext.trans_mod (by (repeat (first | with_reducible exact Ext.refl _ | with_reducible assumption | refine Ext.trans ?_ (by with_reducible assumption) | refine Ext.alloc ?_ _ _ | refine Ext.drew ?_ | refine Ext.drewN ?_ _))) m22 (fun i hi => by have hi2 : i = B4 := hi; rw [hi2]; exact gB4)) | ((with_reducible (refine Veil.out ?_; apply wl_storeRow rt25)); (case hx => rfl); (case hy => rfl); (case hr => exact av_size hok.caller); (case h1 => exact av_one _); (case hB => exact b22.ext (by (repeat (first | with_reducible exact Ext.refl _ | with_reducible assumption | refine Ext.trans ?_ (by with_reducible assumption) | refine Ext.alloc ?_ _ _ | refine Ext.drew ?_ | refine Ext.drewN ?_ _)))); (case hi => decide); rintro W23 b23 m23; have hE23 : Ext w5 W23 := Ext.trans_mod (by (repeat (first | with_reducible exact Ext.refl _ | with_reducible assumption | refine Ext.trans ?_ (by with_reducible assumption) | refine Ext.alloc ?_ _ _ | refine Ext.drew ?_ | refine Ext.drewN ?_ _))) m23 (fun i hi => by have hi2 : i = B4 := hi; rw [hi2]; exact gB4)) | ((with_reducible (refine Veil.out ?_; apply wl_storeRow rt66)); (case hx => rfl); (case hy => rfl); (case hr => exact rfl); (case h1 => exact wvA_one _); (case hB => exact b23.ext (by (repeat (first | with_reducible exact Ext.refl _ | with_reducible assumption | refine Ext.trans ?_ (by with_reducible assumption) | refine Ext.alloc ?_ _ _ | refine Ext.drew ?_ | refine Ext.drewN ?_ _)))); (case hi => decide); rintro W24 b24 m24; have hE24 : Ext w5 W24 := Ext.trans_mod (by (repeat (first | with_reducible exact Ext.refl _ | with_reducible assumption | refine Ext.trans ?_ (by with_reducible assumption) | refine Ext.alloc ?_ _ _ | refine Ext.drew ?_ | refine Ext.drewN ?_ _))) m24 (fun i hi => by have hi2 : i = B4 := hi; rw [hi2]; exact gB4)))
  have C27 : ChC (Mu own2) W24 _ 3 0 0 f.self f.caller f.value f.static [] [] := ((((C0.setKind 3).setSelf f.self hok.self).setCaller f.caller hok.caller).setValue f.value).any
  obtain ⟨cv, bV, aV⟩ : ∃ cv, Blk W24 B6 4 79 cv ∧ WAt cv 0 (0) := ⟨_, (((((b9.ext (by (repeat (first | with_reducible exact Ext.refl _ | with_reducible assumption | refine Ext.trans ?_ (by with_reducible assumption) | refine Ext.alloc ?_ _ _ | refine Ext.drew ?_ | refine Ext.drewN ?_ _)))).mod m21 (fun q => h46 q.symm)).mod m22 (fun q => h46 q.symm)).mod m23 (fun q => h46 q.symm)).mod m24 (fun q => h46 q.symm)), a9⟩
  have hvl : (0) < P256 := pos256
  obtain ⟨d1, b1q, C1q⟩ : ∃ d1, Blk W24 B4 65 85 d1 ∧ ChC (Mu own2) W24 d1 3 0 0 f.self f.caller (f.value) f.static [] [] := ⟨_, b24, C27⟩
  obtain ⟨WL, eWL⟩ : ∃ W, Hid (W24 = W) := ⟨_, rfl⟩
  have hEL : Ext w5 W24 := hE24
  have b3L : Blk W24 B3 20 31 c3 := b3b.ext hEL
  obtain ⟨sg, hsg⟩ : ∃ x, Hid (sentA f.gas (f.arg 0) = x) := ⟨_, rfl⟩
  have hsl : sg ≤ f.gas := by rw [← hsg.out]; unfold sentA; omega
  have hgl := hok.gas
  have HSG := fun W => mSentGas f.gas (f.arg 0) W (by omega) (hok.argLt 0)
  rw [hsg.out] at HSG
  have hg4 : ¬ g = B4 := fun q => hgB4 q.symm
  go_upto_region 28 with (fail)
  refine w_ext ?_
  rintro W0 hW0
  have h20 := h2.ext (show Ext w5 W0 by (repeat (first | with_reducible exact Ext.refl _ | with_reducible assumption | refine Ext.trans ?_ (by with_reducible assumption) | refine Ext.alloc ?_ _ _ | refine Ext.drew ?_ | refine Ext.drewN ?_ _)))
  refine wp_region_held_drew (S := fun w' => Mod (fun x => x = B4) W0 w') (by kernel_rfl) (Mod.refl _ _).drew (fun hHeld => ?_)
  have HH : Hid (Mod (fun x => x = B4) W0 _) := hHeld
  clear hHeld
  refine wpAnyH_take (i := 0) (v := ?_) rfl (by kernel_rfl) (by kernel_rfl) (by kernel_rfl) (fun _ _ _ h => h) (Or.inl ⟨by rfl, ?_⟩) HH.out ?_
  rotate_left
  · intro w hSw; go_simp; try with_reducible rfl
  change wpAnyH _ _ _ _ _ _ _ (Act.put _ (some 82) _) _
  simp only [Act.put, List.setIfInBounds_toArray, List.set_cons_zero, List.set_cons_succ]
  refine wpAnyH_take (i := 1) (v := ?_) rfl (by kernel_rfl) (by kernel_rfl) (by kernel_rfl) (fun _ _ _ h => h) (Or.inl ⟨by rfl, ?_⟩) HH.out ?_
  rotate_left
  · intro w hSw; go_simp; try with_reducible rfl
  change wpAnyH _ _ _ _ _ _ _ (Act.put _ (some 83) _) _
  simp only [Act.put, List.setIfInBounds_toArray, List.set_cons_zero, List.set_cons_succ]
  refine wpAnyH_take (i := 2) (v := ?_) rfl (by kernel_rfl) (by kernel_rfl) (by kernel_rfl) (fun _ _ _ h => h) (Or.inl ⟨by rfl, ?_⟩) HH.out ?_
  rotate_left
  · intro w hSw; go_simp; try with_reducible rfl
  change wpAnyH _ _ _ _ _ _ _ (Act.put _ (some 84) _) _
  simp only [Act.put, List.setIfInBounds_toArray, List.set_cons_zero, List.set_cons_succ]
  refine wpAnyH_take (i := 3) rfl (by kernel_rfl) (by kernel_rfl) (by kernel_rfl) (fun _ _ _ h => h) (yieldsIf_load1 (by rfl) _ _ rfl _ _ rfl onet26q _ (fun w hSw => by rw [(Blk.mod h20.v.blk hSw hg4).cell (by omega), hfr2.gas])) HH.out ?_
  change wpAnyH _ _ _ _ _ _ _ (Act.put _ (some 85) _) _
  simp only [Act.put, List.setIfInBounds_toArray, List.set_cons_zero, List.set_cons_succ]
  refine wpAnyH_take (i := 4) (v := ?_) rfl (by kernel_rfl) (by kernel_rfl) (by kernel_rfl) (fun _ _ _ h => h) (Or.inl ⟨by rfl, ?_⟩) HH.out ?_
  rotate_left
  · intro w hSw; go_simp; try with_reducible rfl
  change wpAnyH _ _ _ _ _ _ _ (Act.put _ (some 86) _) _
  simp only [Act.put, List.setIfInBounds_toArray, List.set_cons_zero, List.set_cons_succ]
  refine wpAnyH_take (i := 5) (v := ?_) rfl (by kernel_rfl) (by kernel_rfl) (by kernel_rfl) (fun _ _ _ h => h) (Or.inl ⟨by rfl, ?_⟩) HH.out ?_
  rotate_left
  · intro w hSw; go_simp; try with_reducible rfl
  change wpAnyH _ _ _ _ _ _ _ (Act.put _ (some 87) _) _
  simp only [Act.put, List.setIfInBounds_toArray, List.set_cons_zero, List.set_cons_succ]
  refine wpAnyH_ready (rs := [6]) (by kernel_rfl) (by simp) ?_
  refine AllReadyH.cons rfl (fun K hK => ?_) AllReadyH.nil
  go_simp
  go_at_call 273; refine (HA0 _ (by (repeat (first | with_reducible exact Ext.refl _ | with_reducible assumption | refine Ext.trans ?_ (by with_reducible assumption) | refine Ext.alloc ?_ _ _ | refine Ext.drew ?_ | refine Ext.drewN ?_ _)))).mono ?_; rintro e w1 ⟨rfl, he⟩
  refine hK.out _ _ ?_ (fun hHeld => ?_)
  · first | exact HH.out.trans hmY | exact HH.out.trans_ext he | exact HH.out
  clear hK K HH
  have HH : Hid (Mod (fun x => x = B4) W0 _) := hHeld
  clear hHeld
  refine wpAnyH_ready (rs := [7]) (by kernel_rfl) (by simp) ?_
  refine AllReadyH.cons rfl (fun K hK => ?_) AllReadyH.nil
  go_simp
  go_at_call 324; refine (HSG _).mono ?_; rintro e w1 ⟨rfl, he⟩
  refine hK.out _ _ ?_ (fun hHeld => ?_)
  · first | exact HH.out.trans hmY | exact HH.out.trans_ext he | exact HH.out
  clear hK K HH
  have HH : Hid (Mod (fun x => x = B4) W0 _) := hHeld
  clear hHeld
  refine wpAnyH_take (i := 8) (v := ?_) rfl (by kernel_rfl) (by kernel_rfl) (by kernel_rfl) (fun _ _ _ h => h) (Or.inl ⟨by rfl, ?_⟩) HH.out ?_
  rotate_left
  · intro w hSw; go_simp; try with_reducible rfl
  change wpAnyH _ _ _ _ _ _ _ (Act.put _ (some 90) _) _
  simp only [Act.put, List.setIfInBounds_toArray, List.set_cons_zero, List.set_cons_succ]
  refine wpAnyH_ready (rs := [9]) (by kernel_rfl) (by simp) ?_
  refine AllReadyH.cons rfl (fun K hK => ?_) AllReadyH.nil
  refine step_any rfl (op_store1 rfl onet26q rfl rfl rfl (b1q.ext (by (repeat (first | with_reducible exact Ext.refl _ | with_reducible assumption | refine Ext.trans ?_ (by with_reducible assumption) | refine Ext.alloc ?_ _ _ | refine Ext.drew ?_ | refine Ext.drewN ?_ _)))) (by decide) ?_)
  rintro W28 b28 m28
  refine hK.out _ _ ?_ (fun hHeld => ?_)
  · exact HH.out.trans m28
  clear hK K HH
  have HH : Hid (Mod (fun x => x = B4) W0 _) := hHeld
  clear hHeld
  change wpAnyH _ _ _ _ _ _ _ (Act.put _ none _) _
  simp only [Act.put, List.setIfInBounds_toArray, List.set_cons_zero, List.set_cons_succ]
  refine wpAnyH_done (by kernel_rfl) ?_ _
  have hM28 : Mod (· = B4) W24 W28 := (hW0.mod _).trans HH.out
  have hE28 : Ext w5 W28 := Ext.trans_mod hEL hM28 (fun i hi => by have hi2 : i = B4 := hi; rw [hi2]; exact gB4)
  have C28 : ChC (Mu own2) W28 (updv d1 7 (.int .u64 (sg : Nat))) 3 0 sg f.self f.caller (f.value) f.static [] [] := (C1q.setGas sg).any
  have bV28 := bV.mod hM28 (fun q => h46 q.symm)
  have b328 := b3L.mod hM28 (fun q => h43 q.symm)
  have hbuf := h2.bufOld gB4
  obtain ⟨own7, o7B, o7k, o7n, h7⟩ := h2.reserve hE28 gB4 b28.lt
  have hw1 : IntKind.u64.wrap ((f.gas : Int) - (sg : Int)) = ((f.gas - sg : Nat) : Int) := by rw [IntKind.wrap_u64]; omega
  clear HH
  have hfr7 := (h7.frame (f := f) (rest := rest) hst).1
  have KG : ∀ W, Ext W28 W → W.cell? ⟨g, 1803 + rest.length * 65 + 7, none⟩ = some (.int .u64 (f.gas : Nat)) := fun W hW => by rw [(h7.v.blk.ext hW).cell (by omega), hfr7.gas]
  clear m28
  go_upto_region 29 with (fail)
  refine w_ext ?_
  rintro W0 hW0
  refine wp_region_held_drew (S := fun w' => Mod (fun x => x = g) W0 w') (by kernel_rfl) (Mod.refl _ _).drew (fun hHeld => ?_)
  have HH : Hid (Mod (fun x => x = g) W0 _) := hHeld
  clear hHeld
  refine wpAnyH_take (i := 0) (v := ?_) rfl (by kernel_rfl) (by kernel_rfl) (by kernel_rfl) (fun _ _ _ h => h) (Or.inl ⟨by rfl, ?_⟩) HH.out ?_
  rotate_left
  · intro w hSw; go_simp; try with_reducible rfl
  change wpAnyH _ _ _ _ _ _ _ (Act.put _ (some 91) _) _
  simp only [Act.put, List.setIfInBounds_toArray, List.set_cons_zero, List.set_cons_succ]
  refine wpAnyH_take (i := 1) (v := ?_) rfl (by kernel_rfl) (by kernel_rfl) (by kernel_rfl) (fun _ _ _ h => h) (Or.inl ⟨by rfl, ?_⟩) HH.out ?_
  rotate_left
  · intro w hSw; go_simp; try with_reducible rfl
  change wpAnyH _ _ _ _ _ _ _ (Act.put _ (some 92) _) _
  simp only [Act.put, List.setIfInBounds_toArray, List.set_cons_zero, List.set_cons_succ]
  refine wpAnyH_take (i := 2) (v := ?_) rfl (by kernel_rfl) (by kernel_rfl) (by kernel_rfl) (fun _ _ _ h => h) (Or.inl ⟨by rfl, ?_⟩) HH.out ?_
  rotate_left
  · intro w hSw; go_simp; try with_reducible rfl
  change wpAnyH _ _ _ _ _ _ _ (Act.put _ (some 93) _) _
  simp only [Act.put, List.setIfInBounds_toArray, List.set_cons_zero, List.set_cons_succ]
  refine wpAnyH_take (i := 4) (v := ?_) rfl (by kernel_rfl) (by kernel_rfl) (by kernel_rfl) (fun _ _ _ h => h) (Or.inl ⟨by rfl, ?_⟩) HH.out ?_
  rotate_left
  · intro w hSw; go_simp; try with_reducible rfl
  change wpAnyH _ _ _ _ _ _ _ (Act.put _ (some 95) _) _
  simp only [Act.put, List.setIfInBounds_toArray, List.set_cons_zero, List.set_cons_succ]
  refine wpAnyH_take (i := 5) rfl (by kernel_rfl) (by kernel_rfl) (by kernel_rfl) (fun _ _ _ h => h) (yieldsIf_load1 (by rfl) _ _ rfl _ _ rfl onet26q _ (fun w hSw => by rw [(Blk.mod (b28.ext (by (repeat (first | with_reducible exact Ext.refl _ | with_reducible assumption | refine Ext.trans ?_ (by with_reducible assumption) | refine Ext.alloc ?_ _ _ | refine Ext.drew ?_ | refine Ext.drewN ?_ _)))) hSw hgB4).cell (by decide), updv_same])) HH.out ?_
  change wpAnyH _ _ _ _ _ _ _ (Act.put _ (some 96) _) _
  simp only [Act.put, List.setIfInBounds_toArray, List.set_cons_zero, List.set_cons_succ]
  refine wpAnyH_ready (rs := [3]) (by kernel_rfl) (by simp) ?_
  refine AllReadyH.cons rfl (fun K hK => ?_) AllReadyH.nil
  refine step_any rfl (op_loadK rfl onet26q rfl (KG _ (by (repeat (first | with_reducible exact Ext.refl _ | with_reducible assumption | refine Ext.trans ?_ (by with_reducible assumption) | refine Ext.alloc ?_ _ _ | refine Ext.drew ?_ | refine Ext.drewN ?_ _)))) ?_)
  refine hK.out _ _ HH.out (fun hHeld => ?_)
  clear hK K HH
  have HH : Hid (Mod (fun x => x = g) W0 _) := hHeld
  clear hHeld
  change wpAnyH _ _ _ _ _ _ _ (Act.put _ (some 94) _) _
  simp only [Act.put, List.setIfInBounds_toArray, List.set_cons_zero, List.set_cons_succ]
  refine wpAnyH_take (i := 6) (v := ?_) rfl (by kernel_rfl) (by kernel_rfl) (by kernel_rfl) (fun _ _ _ h => h) (Or.inl ⟨by rfl, ?_⟩) HH.out ?_
  rotate_left
  · intro w hSw; go_simp; try with_reducible rfl
  change wpAnyH _ _ _ _ _ _ _ (Act.put _ (some 97) _) _
  simp only [Act.put, List.setIfInBounds_toArray, List.set_cons_zero, List.set_cons_succ]
  refine wpAnyH_take (i := 7) (v := ?_) rfl (by kernel_rfl) (by kernel_rfl) (by kernel_rfl) (fun _ _ _ h => h) (Or.inl ⟨by rfl, ?_⟩) HH.out ?_
  rotate_left
  · intro w hSw; go_simp; try with_reducible rfl
  change wpAnyH _ _ _ _ _ _ _ (Act.put _ (some 98) _) _
  simp only [Act.put, List.setIfInBounds_toArray, List.set_cons_zero, List.set_cons_succ]
  refine wpAnyH_take (i := 8) (v := ?_) rfl (by kernel_rfl) (by kernel_rfl) (by kernel_rfl) (fun _ _ _ h => h) (Or.inl ⟨by rfl, ?_⟩) HH.out ?_
  rotate_left
  · intro w hSw; go_simp; try with_reducible rfl
  change wpAnyH _ _ _ _ _ _ _ (Act.put _ (some 99) _) _
  simp only [Act.put, List.setIfInBounds_toArray, List.set_cons_zero, List.set_cons_succ]
  refine wpAnyH_ready (rs := [9]) (by kernel_rfl) (by simp) ?_
  refine AllReadyH.cons rfl (fun K hK => ?_) AllReadyH.nil
  refine step_any rfl (op_store1 rfl onet26q rfl rfl rfl (h7.v.blk.ext (by (repeat (first | with_reducible exact Ext.refl _ | with_reducible assumption | refine Ext.trans ?_ (by with_reducible assumption) | refine Ext.alloc ?_ _ _ | refine Ext.drew ?_ | refine Ext.drewN ?_ _)))) (by omega) ?_)
  rintro W29 b29 m29
  refine hK.out _ _ ?_ (fun hHeld => ?_)
  · exact HH.out.trans m29
  clear hK K HH
  have HH : Hid (Mod (fun x => x = g) W0 _) := hHeld
  clear hHeld
  change wpAnyH _ _ _ _ _ _ _ (Act.put _ none _) _
  simp only [Act.put, List.setIfInBounds_toArray, List.set_cons_zero, List.set_cons_succ]
  refine wpAnyH_done (by kernel_rfl) ?_ _
  obtain ⟨h3, s3⟩ := (h7.ext (show Ext W28 W0 by (repeat (first | with_reducible exact Ext.refl _ | with_reducible assumption | refine Ext.trans ?_ (by with_reducible assumption) | refine Ext.alloc ?_ _ _ | refine Ext.drew ?_ | refine Ext.drewN ?_ _))).drew).setGas (f := f) (rest := rest) hst (f.gas - sg) (by omega) m29 b29
  have hMg : Mod (· = g) W28 W29 := (hW0.mod _).trans HH.out
  clear HH
  have b429 : Blk W29 B4 65 85 _ := b28.mod hMg hgB4
  have bV29 := bV28.mod hMg hgB6
  have b329 := b328.mod hMg hgB3
  have hbuf7 : ∀ o n cap, updv c2 (1803 + rest.length * 65 + 7) (.int .u64 ((f.gas - sg : Nat) : Int)) 1 = .slice o n cap → ∀ a, o = some a → a.block ≠ B4 := fun o n cap e => hbuf o n cap (by rw [updv_ne _ _ (by omega)] at e; exact e)
  have LIFT := fun W (hW : Mod (· = B4) W29 W) => h3.apart o7B hW hbuf7
  have s7 : MStep own w own7 W29 := s2.trans ((⟨o7k, hE28.mod _⟩ : MStep own2 w5 own7 W28).trans (MStep.trans (MStep.ext (show Ext W28 W0 by (repeat (first | with_reducible exact Ext.refl _ | with_reducible assumption | refine Ext.trans ?_ (by with_reducible assumption) | refine Ext.alloc ?_ _ _ | refine Ext.drew ?_ | refine Ext.drewN ?_ _))).drew) s3))
  have hneB4 : ∀ b, ¬ Mu own7 b → ¬ b = B4 := fun b hb q => hb (by rw [q]; show own7 B4 ≠ 0; rw [o7B]; decide)
  have ebl : (V2.acct f.self).bal = st.now.bal f.self := congrFun (congrArg AW.bal h3.abs) f.self
  have ecd : (V2.acct t).code = st.now.code t := congrFun (congrArg AW.code h3.abs) t
  have HZ : ∀ W, Calls Hvah.prog 87 #[wv (0)] W fun e w' => e = .returned (.bool true) ∧ Ext W w' := fun W => by
    have q := uIsZero (0) W hvl
    rw [show decide ((0) = 0) = true by simp []] at q
    exact q
  have hw2 : IntKind.u64.wrap ((sg : Int) + 2300) = ((sg + 2300 : Nat) : Int) := by rw [IntKind.wrap_u64]; omega
  clear hw1 KG HSG HA0 HA2 HO2
  go_upto_region 32 with (first | ((with_reducible (refine Veil.out ?_; apply wl_loadWB)); (case hx => rfl); (case hB => exact bV29.ext (by (repeat (first | with_reducible exact Ext.refl _ | with_reducible assumption | refine Ext.trans ?_ (by with_reducible assumption) | refine Ext.alloc ?_ _ _ | refine Ext.drew ?_ | refine Ext.drewN ?_ _)))); (case hW => exact aV); (case hi => decide)) | (go_at_call 87; refine (HZ _).mono ?_; rintro e w30 ⟨rfl, he30⟩))
  have M31 : Mod (· = B4) W29 w30 := he30.mod _
  have b31 := b429.ext he30
  have bV31 := bV29.ext he30
  have b331 := b329.ext he30
  have C31 : ChC (Mu own7) w30 _ 3 0 sg f.self f.caller (f.value) f.static [] [] := C28.any
  have h31 := LIFT _ M31
  have hfr31 := (h31.frame (f := { f with gas := f.gas - sg }) (rest := rest) rfl).1
  have htop : h31.m.top = h31.m.top := rfl
  clear htop
  have ktop : ∀ W, Ext w30 W → W.cell? ⟨g, 2258, none⟩ = some (.int .i8 (rest.length : Nat)) := fun W hW => by
    rw [(h31.v.blk.ext hW).cell (by decide), h31.m.top]
    simp
  have HBl := fun W (hW : Ext w30 W) => vBalance (h31.ext hW).v hok.self
  rw [ebl] at HBl
  have hbb : st.now.bal f.self < P256 := by rw [← ebl]; exact h31.v.balLt _
  have HLt : ∀ W, Calls Hvah.prog 121 #[wv (st.now.bal f.self), wv (0)] W fun e w' => e = .returned (.bool false) ∧ Ext W w' := fun W => by
    have q := uLt (st.now.bal f.self) (0) W hbb hvl
    rw [show decide (st.now.bal f.self < 0) = false by first | (simp; done) | (simp; omega)] at q
    exact q
  have z6 : ¬ ((6 : Int) ≤ (rest.length : Int)) := by omega
  refine w_ext ?_
  rintro W0 hW0
  refine wp_region_held_drew (S := fun w' => Ext W0 w') (by kernel_rfl) (Ext.refl _).drew (fun hHeld => ?_)
  have HH : Hid (Ext W0 _) := hHeld
  clear hHeld
  refine wpAnyH_take (i := 0) (v := ?_) rfl (by kernel_rfl) (by kernel_rfl) (by kernel_rfl) (fun _ _ _ h => h) (Or.inl ⟨by rfl, ?_⟩) HH.out ?_
  rotate_left
  · intro w hSw; go_simp; try with_reducible rfl
  change wpAnyH _ _ _ _ _ _ _ (Act.put _ (some 107) _) _
  simp only [Act.put, List.setIfInBounds_toArray, List.set_cons_zero, List.set_cons_succ]
  refine wpAnyH_take (i := 1) (v := ?_) rfl (by kernel_rfl) (by kernel_rfl) (by kernel_rfl) (fun _ _ _ h => h) (Or.inl ⟨by rfl, ?_⟩) HH.out ?_
  rotate_left
  · intro w hSw; go_simp; try with_reducible rfl
  change wpAnyH _ _ _ _ _ _ _ (Act.put _ (some 108) _) _
  simp only [Act.put, List.setIfInBounds_toArray, List.set_cons_zero, List.set_cons_succ]
  refine wpAnyH_take (i := 2) (v := ?_) rfl (by kernel_rfl) (by kernel_rfl) (by kernel_rfl) (fun _ _ _ h => h) (Or.inl ⟨by rfl, ?_⟩) HH.out ?_
  rotate_left
  · intro w hSw; go_simp; try with_reducible rfl
  change wpAnyH _ _ _ _ _ _ _ (Act.put _ (some 109) _) _
  simp only [Act.put, List.setIfInBounds_toArray, List.set_cons_zero, List.set_cons_succ]
  refine wpAnyH_take (i := 3) rfl (by kernel_rfl) (by kernel_rfl) (by kernel_rfl) (fun _ _ _ h => h) (yieldsIf_load1 (by rfl) _ _ rfl _ _ rfl onet74q _ (fun w hSw => ktop _ (Ext.trans (by (repeat (first | with_reducible exact Ext.refl _ | with_reducible assumption | refine Ext.trans ?_ (by with_reducible assumption) | refine Ext.alloc ?_ _ _ | refine Ext.drew ?_ | refine Ext.drewN ?_ _))) hSw))) HH.out ?_
  change wpAnyH _ _ _ _ _ _ _ (Act.put _ (some 110) _) _
  simp only [Act.put, List.setIfInBounds_toArray, List.set_cons_zero, List.set_cons_succ]
  refine wpAnyH_take (i := 4) (v := .bool false) rfl (by kernel_rfl) (by kernel_rfl) (by kernel_rfl) (fun _ _ _ h => h) (Or.inl ⟨by rfl, ?_⟩) HH.out ?_
  · intro w hSw; go_simp; first | rfl | (simp; omega) | done
  change wpAnyH _ _ _ _ _ _ _ (Act.put _ (some 111) _) _
  simp only [Act.put, List.setIfInBounds_toArray, List.set_cons_zero, List.set_cons_succ]
  refine wpAnyH_take (i := 5) (v := ?_) rfl (by kernel_rfl) (by kernel_rfl) (by kernel_rfl) (fun _ _ _ h => h) (Or.inl ⟨by rfl, ?_⟩) HH.out ?_
  rotate_left
  · intro w hSw; go_simp; try with_reducible rfl
  change wpAnyH _ _ _ _ _ _ _ (Act.put _ (some 112) _) _
  simp only [Act.put, List.setIfInBounds_toArray, List.set_cons_zero, List.set_cons_succ]
  refine wpAnyH_take (i := 6) (v := ?_) rfl (by kernel_rfl) (by kernel_rfl) (by kernel_rfl) (fun _ _ _ h => h) (Or.inl ⟨by rfl, ?_⟩) HH.out ?_
  rotate_left
  · intro w hSw; go_simp; try with_reducible rfl
  change wpAnyH _ _ _ _ _ _ _ (Act.put _ (some 113) _) _
  simp only [Act.put, List.setIfInBounds_toArray, List.set_cons_zero, List.set_cons_succ]
  refine wpAnyH_take (i := 7) (v := ?_) rfl (by kernel_rfl) (by kernel_rfl) (by kernel_rfl) (fun _ _ _ h => h) (Or.inl ⟨by rfl, ?_⟩) HH.out ?_
  rotate_left
  · intro w hSw; go_simp; try with_reducible rfl
  change wpAnyH _ _ _ _ _ _ _ (Act.put _ (some 114) _) _
  simp only [Act.put, List.setIfInBounds_toArray, List.set_cons_zero, List.set_cons_succ]
  refine wpAnyH_take (i := 8) (v := ?_) rfl (by kernel_rfl) (by kernel_rfl) (by kernel_rfl) (fun _ _ _ h => h) (Or.inl ⟨by rfl, ?_⟩) HH.out ?_
  rotate_left
  · intro w hSw; go_simp; try with_reducible rfl
  change wpAnyH _ _ _ _ _ _ _ (Act.put _ (some 115) _) _
  simp only [Act.put, List.setIfInBounds_toArray, List.set_cons_zero, List.set_cons_succ]
  refine wpAnyH_take (i := 9) rfl (by kernel_rfl) (by kernel_rfl) (by kernel_rfl) (fun _ _ _ h => h) (yieldsIf_load1 (by rfl) _ _ rfl _ _ rfl onet60q _ (fun w hSw => by rw [(h31.v.blk.ext (Ext.trans (by (repeat (first | with_reducible exact Ext.refl _ | with_reducible assumption | refine Ext.trans ?_ (by with_reducible assumption) | refine Ext.alloc ?_ _ _ | refine Ext.drew ?_ | refine Ext.drewN ?_ _))) hSw)).cell (by decide), h31.m.ptr])) HH.out ?_
  change wpAnyH _ _ _ _ _ _ _ (Act.put _ (some 116) _) _
  simp only [Act.put, List.setIfInBounds_toArray, List.set_cons_zero, List.set_cons_succ]
  refine wpAnyH_take (i := 10) (v := ?_) rfl (by kernel_rfl) (by kernel_rfl) (by kernel_rfl) (fun _ _ _ h => h) (Or.inl ⟨by rfl, ?_⟩) HH.out ?_
  rotate_left
  · intro w hSw; go_simp; try with_reducible rfl
  change wpAnyH _ _ _ _ _ _ _ (Act.put _ (some 117) _) _
  simp only [Act.put, List.setIfInBounds_toArray, List.set_cons_zero, List.set_cons_succ]
  refine wpAnyH_take (i := 11) (v := ?_) rfl (by kernel_rfl) (by kernel_rfl) (by kernel_rfl) (fun _ _ _ h => h) (Or.inl ⟨by rfl, ?_⟩) HH.out ?_
  rotate_left
  · intro w hSw; go_simp; try with_reducible rfl
  change wpAnyH _ _ _ _ _ _ _ (Act.put _ (some 118) _) _
  simp only [Act.put, List.setIfInBounds_toArray, List.set_cons_zero, List.set_cons_succ]
  refine wpAnyH_take (i := 12) (v := ?_) rfl (by kernel_rfl) (by kernel_rfl) (by kernel_rfl) (fun _ _ _ h => h) (Or.inl ⟨by rfl, ?_⟩) HH.out ?_
  rotate_left
  · intro w hSw; go_simp; try with_reducible rfl
  change wpAnyH _ _ _ _ _ _ _ (Act.put _ (some 119) _) _
  simp only [Act.put, List.setIfInBounds_toArray, List.set_cons_zero, List.set_cons_succ]
  refine wpAnyH_take (i := 13) rfl (by kernel_rfl) (by kernel_rfl) (by kernel_rfl) (fun _ _ _ h => h) (yields_A (by rfl) rfl rfl (fun w hSw => h31.v.blk.ext (Ext.trans (by (repeat (first | with_reducible exact Ext.refl _ | with_reducible assumption | refine Ext.trans ?_ (by with_reducible assumption) | refine Ext.alloc ?_ _ _ | refine Ext.drew ?_ | refine Ext.drewN ?_ _))) hSw)) hfr31.self hok.self (by omega)) HH.out ?_
  change wpAnyH _ _ _ _ _ _ _ (Act.put _ (some 120) _) _
  simp only [Act.put, List.setIfInBounds_toArray, List.set_cons_zero, List.set_cons_succ]
  refine wpAnyH_take (i := 15) rfl (by kernel_rfl) (by kernel_rfl) (by kernel_rfl) (fun _ _ _ h => h) (yields_W (by rfl) rfl rfl (fun w hSw => bV31.ext (Ext.trans (by (repeat (first | with_reducible exact Ext.refl _ | with_reducible assumption | refine Ext.trans ?_ (by with_reducible assumption) | refine Ext.alloc ?_ _ _ | refine Ext.drew ?_ | refine Ext.drewN ?_ _))) hSw)) aV (by decide)) HH.out ?_
  change wpAnyH _ _ _ _ _ _ _ (Act.put _ (some 122) _) _
  simp only [Act.put, List.setIfInBounds_toArray, List.set_cons_zero, List.set_cons_succ]
  refine wpAnyH_ready (rs := [14]) (by kernel_rfl) (by simp) ?_
  refine AllReadyH.cons rfl (fun K hK => ?_) AllReadyH.nil
  go_simp
  go_at_call 108; refine (HBl _ (by (repeat (first | with_reducible exact Ext.refl _ | with_reducible assumption | refine Ext.trans ?_ (by with_reducible assumption) | refine Ext.alloc ?_ _ _ | refine Ext.drew ?_ | refine Ext.drewN ?_ _)))).mono ?_; rintro e w1 ⟨rfl, he⟩
  refine hK.out _ _ ?_ (fun hHeld => ?_)
  · first | exact HH.out.trans hmY | exact HH.out.trans he | exact HH.out
  clear hK K HH
  have HH : Hid (Ext W0 _) := hHeld
  clear hHeld
  refine wpAnyH_ready (rs := [16]) (by kernel_rfl) (by simp) ?_
  refine AllReadyH.cons rfl (fun K hK => ?_) AllReadyH.nil
  go_simp
  go_at_call 121; refine (HLt _).mono ?_; rintro e w1 ⟨rfl, he⟩
  refine hK.out _ _ ?_ (fun hHeld => ?_)
  · first | exact HH.out.trans hmY | exact HH.out.trans he | exact HH.out
  clear hK K HH
  have HH : Hid (Ext W0 _) := hHeld
  clear hHeld
  refine wpAnyH_take (i := 17) (v := ?_) rfl (by kernel_rfl) (by kernel_rfl) (by kernel_rfl) (fun _ _ _ h => h) (Or.inl ⟨by rfl, ?_⟩) HH.out ?_
  rotate_left
  · intro w hSw; go_simp; try with_reducible rfl
  change wpAnyH _ _ _ _ _ _ _ (Act.put _ (some 124) _) _
  simp only [Act.put, List.setIfInBounds_toArray, List.set_cons_zero, List.set_cons_succ]
  refine wpAnyH_done (by kernel_rfl) ?_ _
  clear HBl HLt ktop
  obtain ⟨fg, efg⟩ : ∃ x : AFrame, Hid ({ f with gas := f.gas - sg } = x) := ⟨_, rfl⟩
  have HA2 : ∀ W, Mod (· = B4) W29 W → Calls Hvah.prog 273 #[.pointer (some ⟨g, 0, none⟩), .pointer (some ⟨g, 1803 + rest.length * 65, none⟩), .int .i64 2] W fun e w' => e = .returned (wv (f.arg 2)) ∧ Ext W w' := fun W hW => mArg (LIFT W hW) (f := { f with gas := f.gas - sg }) (rest := rest) rfl 2 (by decide)
  have HA3 : ∀ W, Mod (· = B4) W29 W → Calls Hvah.prog 273 #[.pointer (some ⟨g, 0, none⟩), .pointer (some ⟨g, 1803 + rest.length * 65, none⟩), .int .i64 3] W fun e w' => e = .returned (wv (f.arg 3)) ∧ Ext W w' := fun W hW => mArg (LIFT W hW) (f := { f with gas := f.gas - sg }) (rest := rest) rfl 3 (by decide)
  have HA4 : ∀ W, Mod (· = B4) W29 W → Calls Hvah.prog 273 #[.pointer (some ⟨g, 0, none⟩), .pointer (some ⟨g, 1803 + rest.length * 65, none⟩), .int .i64 4] W fun e w' => e = .returned (wv (f.arg 4)) ∧ Ext W w' := fun W hW => mArg (LIFT W hW) (f := { f with gas := f.gas - sg }) (rest := rest) rfl 4 (by decide)
  have HA5 : ∀ W, Mod (· = B4) W29 W → Calls Hvah.prog 273 #[.pointer (some ⟨g, 0, none⟩), .pointer (some ⟨g, 1803 + rest.length * 65, none⟩), .int .i64 5] W fun e w' => e = .returned (wv (f.arg 5)) ∧ Ext W w' := fun W hW => mArg (LIFT W hW) (f := { f with gas := f.gas - sg }) (rest := rest) rfl 5 (by decide)
  have HRd : ∀ W, Mod (· = B4) W29 W → Calls Hvah.prog 301 #[.pointer (some ⟨g, 0, none⟩), wv (f.arg 2), wv (f.arg 3)] W fun e w' => ∃ r, e = .returned (.tuple #[r, .bool true]) ∧ NL (Mu own7) w' r (readA f.mem (f.arg 2) (f.arg 3)) ∧ Ext W w' := fun W hW => mRead (LIFT W hW) (f := { f with gas := f.gas - sg }) (rest := rest) rfl (f.arg 2) (f.arg 3) (hok.argLt 2) (hok.argLt 3) hrd
  obtain ⟨pn, hpn⟩ : ∃ x, Hid (preA t = x) := ⟨_, rfl⟩
  have HNa := fun W => mNativeAt t W ht
  rw [hpn.out] at HNa
  have HCd : ∀ W, Mod (· = B4) W29 W → Calls Hvah.prog 112 #[.pointer (some ⟨g, 2435, none⟩), .agg (av t)] W fun e w' => ∃ r, e = .returned r ∧ NL (Mu own7) w' r (st.now.code t) ∧ Ext W w' := fun W hW => by
    have q := vCode (LIFT W hW).v ht
    rw [ecd] at q
    exact q
  go_upto_region 38 with (first | (go_at_call_of 273 (Value.int IntKind.i64 2); refine (HA2 _ (M31.trans_ext (by (repeat (first | with_reducible exact Ext.refl _ | with_reducible assumption | refine Ext.trans ?_ (by with_reducible assumption) | refine Ext.alloc ?_ _ _ | refine Ext.drew ?_ | refine Ext.drewN ?_ _))))).mono ?_; rintro e w1 ⟨rfl, he⟩) | (go_at_call_of 273 (Value.int IntKind.i64 3); refine (HA3 _ (M31.trans_ext (by (repeat (first | with_reducible exact Ext.refl _ | with_reducible assumption | refine Ext.trans ?_ (by with_reducible assumption) | refine Ext.alloc ?_ _ _ | refine Ext.drew ?_ | refine Ext.drewN ?_ _))))).mono ?_; rintro e w1 ⟨rfl, he⟩) | (go_at_call 301; refine (HRd _ (M31.trans_ext (by (repeat (first | with_reducible exact Ext.refl _ | with_reducible assumption | refine Ext.trans ?_ (by with_reducible assumption) | refine Ext.alloc ?_ _ _ | refine Ext.drew ?_ | refine Ext.drewN ?_ _))))).mono ?_; rintro e w35 ⟨rv, rfl, hrv, he35⟩))
  have E35 : Ext w30 w35 := by (repeat (first | with_reducible exact Ext.refl _ | with_reducible assumption | refine Ext.trans ?_ (by with_reducible assumption) | refine Ext.alloc ?_ _ _ | refine Ext.drew ?_ | refine Ext.drewN ?_ _))
  go_upto_region 39 with ((with_reducible (refine Veil.out ?_; apply wl_storeC onet32q)); (case hx => rfl); (case hy => rfl); (case h1 => exact hrv.oneq); (case hB => exact b31.ext E35); (case hi => decide); rintro W38 b38 m38)
  have M38 : Mod (· = B4) W29 W38 := (M31.trans_ext E35).trans m38
  have C38 : ChC (Mu own7) W38 _ 3 0 sg f.self f.caller (f.value) f.static [] (readA f.mem (f.arg 2) (f.arg 3)) := (C31.any (w' := W38)).setInput (hrv.keep m38 hneB4)
  have b338 := (b331.ext E35).mod m38 (fun q => h43 q.symm)
  clear HRd b31 C31 b331 bV31 hrv
  go_upto_region 40 with (first | ((with_reducible (refine Veil.out ?_; apply wl_loadA)); (case hx => rfl); (case hB => exact b338); (case hA => exact a3); (case hs => exact ht); (case ho => decide)) | (go_at_call 111; refine (HNa _).mono ?_; rintro e w39 ⟨rfl, he39⟩) | ((with_reducible (refine Veil.out ?_; apply wl_storeC onet5q)); (case hx => rfl); (case hy => rfl); (case h1 => rfl); (case hB => exact b38.ext he39); (case hi => decide); rintro W39 b39 m39))
  have M39 : Mod (· = B4) W29 W39 := (M38.trans_ext he39).trans m39
  have C39 : ChC (Mu own7) W39 _ 3 pn sg f.self f.caller (f.value) f.static [] (readA f.mem (f.arg 2) (f.arg 3)) := (C38.nl (O' := Mu own7) (w' := W39) (fun v l q => (q.ext he39).keep m39 hneB4)).setPre pn
  have b339 := (b338.ext he39).mod m39 (fun q => h43 q.symm)
  clear b38 C38 b338 HNa
  have hg3 : ¬ B3 = B4 := fun q => h43 q.symm
  go_upto_if 166 with ((with_reducible (refine Veil.out ?_; apply wl_loadC onet5q)); (case hw => go_simp); (case hx => rfl); (case hc => rw [b39.cell (by decide), updv_same]))
  go_cut [] (fun wx => ∃ d5, Blk wx B4 65 85 d5 ∧ Mod (· = B4) W29 wx ∧ ChC (Mu own7) wx d5 3 pn sg f.self f.caller (f.value) f.static (if pn = 0 then st.now.code t else []) (readA f.mem (f.arg 2) (f.arg 3)))
  case first =>
    rcases Nat.eq_zero_or_pos pn with hz | hz
    · subst hz
      go_upto_region 41 with (fail)
      refine w_ext ?_
      rintro W0 hW0
      refine wp_region_held_drew (S := fun w' => Mod (fun x => x = B4) W0 w') (by kernel_rfl) (Mod.refl _ _).drew (fun hHeld => ?_)
      have HH : Hid (Mod (fun x => x = B4) W0 _) := hHeld
      clear hHeld
      refine wpAnyH_take (i := 0) (v := ?_) rfl (by kernel_rfl) (by kernel_rfl) (by kernel_rfl) (fun _ _ _ h => h) (Or.inl ⟨by rfl, ?_⟩) HH.out ?_
      rotate_left
      · intro w hSw; go_simp; try with_reducible rfl
      change wpAnyH _ _ _ _ _ _ _ (Act.put _ (some 167) _) _
      simp only [Act.put, List.setIfInBounds_toArray, List.set_cons_zero, List.set_cons_succ]
      refine wpAnyH_take (i := 1) (v := ?_) rfl (by kernel_rfl) (by kernel_rfl) (by kernel_rfl) (fun _ _ _ h => h) (Or.inl ⟨by rfl, ?_⟩) HH.out ?_
      rotate_left
      · intro w hSw; go_simp; try with_reducible rfl
      change wpAnyH _ _ _ _ _ _ _ (Act.put _ (some 168) _) _
      simp only [Act.put, List.setIfInBounds_toArray, List.set_cons_zero, List.set_cons_succ]
      refine wpAnyH_take (i := 2) (v := ?_) rfl (by kernel_rfl) (by kernel_rfl) (by kernel_rfl) (fun _ _ _ h => h) (Or.inl ⟨by rfl, ?_⟩) HH.out ?_
      rotate_left
      · intro w hSw; go_simp; try with_reducible rfl
      change wpAnyH _ _ _ _ _ _ _ (Act.put _ (some 169) _) _
      simp only [Act.put, List.setIfInBounds_toArray, List.set_cons_zero, List.set_cons_succ]
      refine wpAnyH_take (i := 3) rfl (by kernel_rfl) (by kernel_rfl) (by kernel_rfl) (fun _ _ _ h => h) (yieldsIf_load1 (by rfl) _ _ rfl _ _ rfl onet60q _ (fun w hSw => by rw [(Blk.mod (LIFT _ (M39.trans_ext hW0)).v.blk hSw hg4).cell (by decide), (LIFT _ (M39.trans_ext hW0)).m.ptr])) HH.out ?_
      change wpAnyH _ _ _ _ _ _ _ (Act.put _ (some 170) _) _
      simp only [Act.put, List.setIfInBounds_toArray, List.set_cons_zero, List.set_cons_succ]
      refine wpAnyH_take (i := 4) rfl (by kernel_rfl) (by kernel_rfl) (by kernel_rfl) (fun _ _ _ h => h) (yields_A (by rfl) rfl rfl (fun w hSw => (b339.ext hW0).mod hSw hg3) a3 ht (by decide)) HH.out ?_
      change wpAnyH _ _ _ _ _ _ _ (Act.put _ (some 171) _) _
      simp only [Act.put, List.setIfInBounds_toArray, List.set_cons_zero, List.set_cons_succ]
      refine wpAnyH_ready (rs := [5]) (by kernel_rfl) (by simp) ?_
      refine AllReadyH.cons rfl (fun K hK => ?_) AllReadyH.nil
      go_simp
      go_at_call 112; refine (HCd _ ((M39.trans_ext hW0).trans_ext (by (repeat (first | with_reducible exact Ext.refl _ | with_reducible assumption | refine Ext.trans ?_ (by with_reducible assumption) | refine Ext.alloc ?_ _ _ | refine Ext.drew ?_ | refine Ext.drewN ?_ _))))).mono ?_; rintro e w1 ⟨cd, rfl, hcd, he⟩
      refine hK.out _ _ ?_ (fun hHeld => ?_)
      · first | exact HH.out.trans hmY | exact HH.out.trans_ext he | exact HH.out
      clear hK K HH
      have HH : Hid (Mod (fun x => x = B4) W0 _) := hHeld
      clear hHeld
      refine wpAnyH_take (i := 6) (v := ?_) rfl (by kernel_rfl) (by kernel_rfl) (by kernel_rfl) (fun _ _ _ h => h) (Or.inl ⟨by rfl, ?_⟩) HH.out ?_
      rotate_left
      · intro w hSw; go_simp; try with_reducible rfl
      change wpAnyH _ _ _ _ _ _ _ (Act.put _ (some 173) _) _
      simp only [Act.put, List.setIfInBounds_toArray, List.set_cons_zero, List.set_cons_succ]
      refine wpAnyH_ready (rs := [7]) (by kernel_rfl) (by simp) ?_
      refine AllReadyH.cons rfl (fun K hK => ?_) AllReadyH.nil
      refine step_any rfl (op_store1 rfl onet32q rfl rfl hcd.oneq (b39.ext (by (repeat (first | with_reducible exact Ext.refl _ | with_reducible assumption | refine Ext.trans ?_ (by with_reducible assumption) | refine Ext.alloc ?_ _ _ | refine Ext.drew ?_ | refine Ext.drewN ?_ _)))) (by decide) ?_)
      rintro W41 b41 m41
      refine hK.out _ _ ?_ (fun hHeld => ?_)
      · exact HH.out.trans m41
      clear hK K HH
      have HH : Hid (Mod (fun x => x = B4) W0 _) := hHeld
      clear hHeld
      change wpAnyH _ _ _ _ _ _ _ (Act.put _ none _) _
      simp only [Act.put, List.setIfInBounds_toArray, List.set_cons_zero, List.set_cons_succ]
      refine wpAnyH_done (by kernel_rfl) ?_ _
      go_wp2
      go_meet
      case rel =>
        refine ⟨_, b41, (M39.trans_ext hW0).trans HH.out, ?_⟩
        rw [if_pos rfl]
        exact (C39.nl (O' := Mu own7) (w' := W41) (fun v l q => (q.ext (by (repeat (first | with_reducible exact Ext.refl _ | with_reducible assumption | refine Ext.trans ?_ (by with_reducible assumption) | refine Ext.alloc ?_ _ _ | refine Ext.drew ?_ | refine Ext.drewN ?_ _)))).keep m41 hneB4)).setCode (hcd.keep m41 hneB4)
    · have z1 : ((pn : Int) == 0) = false := by simp; omega
      have z2 : ¬ ((pn : Int) = 0) := by omega
      go_wp2
      go_meet
      case rel =>
        refine ⟨_, b39, M39, ?_⟩
        rw [if_neg (by omega)]
        exact C39
  case rest =>
  obtain ⟨d5, b5q, M5, C5⟩ := hcut
  have h5 := LIFT _ M5
  have s5 : MStep own w own7 wc := s7.trans ⟨fun _ _ => rfl, M5.sub (fun b hb => by rw [hb, o7B]; decide)⟩
  clear b39 C39 b339 M39 HCd HA2 HA3 LIFT M31
  have hneg : ∀ b, ¬ Mu own7 b → ¬ b = g := fun b hb q => hb (by rw [q]; show own7 g ≠ 0; rw [h5.v.tag]; decide)
  go_upto_region 43 with ((with_reducible (refine Veil.out ?_; apply wl_storeC onet61q)); (case hx => rfl); (case hy => rfl); (case h1 => rfl); (case hB => exact h5.v.blk); (case hi => omega); rintro W42 b42 m42)
  obtain ⟨h6, s6⟩ := h5.setOO (f := { f with gas := f.gas - sg }) (rest := rest) rfl 0 (by decide) (fun q => by have := hok.out q; show 0 + f.outLen ≤ f.mem.length; omega) m42 b42
  go_upto_region 44 with ((with_reducible (refine Veil.out ?_; apply wl_storeC onet61q)); (case hx => rfl); (case hy => rfl); (case h1 => rfl); (case hB => exact b42); (case hi => omega); rintro W43 b43 m43)
  obtain ⟨h43', s43⟩ := h6.setOL (f := { f with gas := f.gas - sg, outOff := 0 }) (rest := rest) rfl 0 (by decide) (fun q => absurd rfl q) m43 b43
  have b443 := (b5q.mod m42 hgB4).mod m43 hgB4
  have C43 := C5.nl (O' := Mu own7) (w' := W43) (fun v l q => (q.keep m42 hneg).keep m43 hneg)
  have sA : MStep own w own7 W43 := s5.trans (s6.trans s43)
  have HB2 : ∀ W, Ext W43 W → Calls Hvah.prog 273 #[.pointer (some ⟨g, 0, none⟩), .pointer (some ⟨g, 1803 + rest.length * 65, none⟩), .int .i64 4] W fun e w' => e = .returned (wv (f.arg 4)) ∧ Ext W w' := fun W hW => mArg (h43'.ext hW) (f := { f with gas := f.gas - sg, outOff := 0, outLen := 0 }) (rest := rest) rfl 4 (by decide)
  have HB3 : ∀ W, Ext W43 W → Calls Hvah.prog 273 #[.pointer (some ⟨g, 0, none⟩), .pointer (some ⟨g, 1803 + rest.length * 65, none⟩), .int .i64 5] W fun e w' => e = .returned (wv (f.arg 5)) ∧ Ext W w' := fun W hW => mArg (h43'.ext hW) (f := { f with gas := f.gas - sg, outOff := 0, outLen := 0 }) (rest := rest) rfl 5 (by decide)
  have hn3 : f.arg 5 < P256 := hok.argLt 5
  have hn2 : f.arg 4 < P256 := hok.argLt 4
  obtain ⟨zb, hzb⟩ : ∃ b, Hid (decide (f.arg 5 = 0) = b) := ⟨_, rfl⟩
  have HZ9 := fun W => uIsZero (f.arg 5) W hn3
  rw [hzb.out] at HZ9
  clear HZ b42 b43 h5 h6 b5q C5 s5 s6 s43
  go_upto_region 45 with (first | (go_at_call 273; refine (HB3 _ (by (repeat (first | with_reducible exact Ext.refl _ | with_reducible assumption | refine Ext.trans ?_ (by with_reducible assumption) | refine Ext.alloc ?_ _ _ | refine Ext.drew ?_ | refine Ext.drewN ?_ _)))).mono ?_; rintro e w1 ⟨rfl, he⟩) | ((with_reducible (refine Veil.out ?_; apply wl_allocW)); rintro B9 W9a c9a e9a b9a a9a g9a) | ((with_reducible (refine Veil.out ?_; apply wl_storeWB)); (case hx => rfl); (case hy => rfl); (case hB => exact b9a.ext (by (repeat (first | with_reducible exact Ext.refl _ | with_reducible assumption | refine Ext.trans ?_ (by with_reducible assumption) | refine Ext.alloc ?_ _ _ | refine Ext.drew ?_ | refine Ext.drewN ?_ _)))); (case hi => decide); rintro W44 c44 b44 a44 _ m44))
  have g9 : W43.heap.size ≤ B9 := Nat.le_trans (Ext.size (by (repeat (first | with_reducible exact Ext.refl _ | with_reducible assumption | refine Ext.trans ?_ (by with_reducible assumption) | refine Ext.alloc ?_ _ _ | refine Ext.drew ?_ | refine Ext.drewN ?_ _)))) g9a
  have E44 : Ext W43 W44 := Ext.trans_mod (by (repeat (first | with_reducible exact Ext.refl _ | with_reducible assumption | refine Ext.trans ?_ (by with_reducible assumption) | refine Ext.alloc ?_ _ _ | refine Ext.drew ?_ | refine Ext.drewN ?_ _))) m44 (fun i hi => by have hi2 : i = B9 := hi; rw [hi2]; exact g9)
  have hg9 : B9 ≠ g := fun q => by have := h43'.v.blk.lt; omega
  have h49 : B4 ≠ B9 := fun q => by have := b443.lt; omega
  clear b9a a9a m44 e9a
  go_upto_if 187 with (first | ((with_reducible (refine Veil.out ?_; apply wl_loadWB)); (case hx => rfl); (case hB => exact b44); (case hW => exact a44); (case hi => decide)) | (go_at_call 87; refine (HZ9 _).mono ?_; rintro e w45 ⟨rfl, he45⟩))
  go_cut [] (fun wx => ∃ c6, MRep own7 wx g c6 V2 { st with ret := [], now := st.now.warm t, frames := { f with gas := f.gas - sg, outOff := if f.arg 5 = 0 then 0 else f.arg 4, outLen := f.arg 5 } :: rest } (s :: sn) stale ∧ MStep own7 W43 own7 wx ∧ Blk wx B4 65 85 d5 ∧ ChC (Mu own7) wx d5 3 pn sg f.self f.caller (f.value) f.static (if pn = 0 then st.now.code t else []) (readA f.mem (f.arg 2) (f.arg 3)))
  case first =>
    cases zb with
    | true =>
      go_wp2
      go_meet
      case rel =>
        have hz : f.arg 5 = 0 := of_decide_eq_true hzb.out
        have E45 : Ext W43 w45 := E44.trans he45
        rw [if_pos hz, hz]
        exact ⟨_, h43'.ext E45, MStep.ext E45, b443.ext E45, C43.ext E45⟩
    | false =>
      have hz : f.arg 5 ≠ 0 := of_decide_eq_false hzb.out
      have hou' := hou hz
      have hml := hok.mLen
      have HS2 : ∀ W, Calls Hvah.prog 308 #[wv (f.arg 4)] W fun e w' => e = .returned (.int .u32 (f.arg 4 : Nat)) ∧ Ext W w' := fun W => by
        have q := mSmall (f.arg 4) W hn2
        rw [Nat.min_eq_left (by omega)] at q
        exact q
      have HS3 : ∀ W, Calls Hvah.prog 308 #[wv (f.arg 5)] W fun e w' => e = .returned (.int .u32 (f.arg 5 : Nat)) ∧ Ext W w' := fun W => by
        have q := mSmall (f.arg 5) W hn3
        rw [Nat.min_eq_left (by omega)] at q
        exact q
      go_upto_region 47 with (first | (go_at_call 273; refine (HB2 _ (by (repeat (first | with_reducible exact Ext.refl _ | with_reducible assumption | refine Ext.trans ?_ (by with_reducible assumption) | refine Ext.alloc ?_ _ _ | refine Ext.drew ?_ | refine Ext.drewN ?_ _)))).mono ?_; rintro e w1 ⟨rfl, he⟩) | (go_at_call 308; refine (HS2 _).mono ?_; rintro e w46 ⟨rfl, he46⟩) | ((with_reducible (refine Veil.out ?_; apply wl_storeC onet61q)); (case hx => rfl); (case hy => rfl); (case h1 => rfl); (case hB => exact h43'.v.blk.ext (by (repeat (first | with_reducible exact Ext.refl _ | with_reducible assumption | refine Ext.trans ?_ (by with_reducible assumption) | refine Ext.alloc ?_ _ _ | refine Ext.drew ?_ | refine Ext.drewN ?_ _)))); (case hi => omega); rintro W46 b46 m46))
      have E446 : Ext W44 w46 := by (repeat (first | with_reducible exact Ext.refl _ | with_reducible assumption | refine Ext.trans ?_ (by with_reducible assumption) | refine Ext.alloc ?_ _ _ | refine Ext.drew ?_ | refine Ext.drewN ?_ _))
      have E46 : Ext W43 w46 := E44.trans E446
      obtain ⟨h46', s46⟩ := (h43'.ext E46).setOO (f := { f with gas := f.gas - sg, outOff := 0, outLen := 0 }) (rest := rest) rfl (f.arg 4) (by omega) (fun q => absurd rfl q) m46 b46
      have b446 := (b443.ext E46).mod m46 hgB4
      have C46 := C43.nl (O' := Mu own7) (w' := W46) (fun v l q => (q.ext E46).keep m46 hneg)
      have b946 : Blk W46 B9 4 79 c44 := (b44.ext E446).mod m46 hg9
      go_wp2_with (first | ((with_reducible (refine Veil.out ?_; apply wl_loadWB)); (case hx => rfl); (case hB => exact b946); (case hW => exact a44); (case hi => decide)) | (go_at_call 308; refine (HS3 _).mono ?_; rintro e w47 ⟨rfl, he47⟩) | ((with_reducible (refine Veil.out ?_; apply wl_storeC onet61q)); (case hx => rfl); (case hy => rfl); (case h1 => rfl); (case hB => exact b46.ext he47); (case hi => omega); rintro W47 b47 m47))
      go_meet
      case rel =>
        obtain ⟨h47', s47⟩ := (h46'.ext he47).setOL (f := { f with gas := f.gas - sg, outOff := f.arg 4, outLen := 0 }) (rest := rest) rfl (f.arg 5) (by omega) (fun q => hou') m47 b47
        rw [if_neg hz]
        exact ⟨_, h47', ((MStep.ext E46).trans s46).trans ((MStep.ext he47).trans s47), (b446.ext he47).mod m47 hgB4, C46.nl (O' := Mu own7) (w' := W47) (fun v l q => (q.ext he47).keep m47 hneg)⟩
  case rest =>
  obtain ⟨c6, h8, s8, b8q, C8⟩ := hcut
  have HSt := mSettleNg h8 (f := { f with gas := f.gas - sg, outOff := if f.arg 5 = 0 then 0 else f.arg 4, outLen := f.arg 5 }) (rest := rest) rfl 6 0 0 (by show 6 ≤ f.stack.length; exact hl) (by show f.pc + 0 ≤ 60000; omega)
  rw [wv0] at HSt
  clear HB2 HB3 HZ9 b443 C43 h43' b44
  go_upto_region 49 with (go_at_call 268; refine HSt.mono ?_; rintro e w48 ⟨rfl, c9, h9, s9, m9⟩)
  have b9q := b8q.mod m9 hgB4
  have C9 := C8.nl (O' := Mu own7) (w' := w48) (fun v l q => q.keep m9 hneg)
  have hpr : pn = 0 ∨ pn = 4 ∨ pn = 5 := by
    rw [← hpn.out]; unfold preA; split
    · rename_i q; rcases q with q | q <;> simp [q]
    · simp
  have hcdl : (if pn = 0 then st.now.code t else []).length ≤ 512 := by
    split
    · omega
    · simp
  have hFR := C9.row (f := ({ kind := 3, pre := pn, static := f.static, pc := 0, gas := sg, value := f.value, outOff := 0, outLen := 0, stack := [], mem := [], code := if pn = 0 then st.now.code t else [], input := readA f.mem (f.arg 2) (f.arg 3), self := f.self, caller := f.caller, saved := st.now.warm t } : AFrame)) rfl ⟨by simp, hpr, by simp, by simp, fun x hx => by simp at hx, by show sg ≤ 1048576; omega, hok.self, hok.caller, hok.value, hcdl, by simp, by simp, by simp, by simp, fun q => absurd rfl q⟩
  have hr2 : Room V2 5 := by
    rcases hV2 with q | q
    · rw [q]; exact hr.le (by decide)
    · rw [q]; exact (hr.le (show 6 ≤ 8 by decide)).opA
  have HEn := mEnterB3 h9 hFR hr2 (by show (rest.length + 1) < 7; omega) rfl
  go_wp2_with (first | ((with_reducible (refine Veil.out ?_; apply wl_loadRow rt72)); (case hx => rfl); (case hB => exact b9q); (case hi => decide)) | (go_at_call 114; refine HEn.mono ?_; rintro e w49 ⟨rfl, own10, c10, h10, s10⟩))
  refine bodyPost_end (fn := Hvah.f212) (v := .tuple #[]) (by simp [results, show Hvah.f212.results = #[] from rfl]) rfl ?_
  have ee : st.enterCall f rest 244 = ({ st with ret := [], phase := 1, now := st.now.warm t, frames := { ({ kind := 3, pre := pn, static := f.static, pc := 0, gas := sg, value := f.value, outOff := 0, outLen := 0, stack := [], mem := [], code := if pn = 0 then st.now.code t else [], input := readA f.mem (f.arg 2) (f.arg 3), self := f.self, caller := f.caller, saved := st.now.warm t } : AFrame) with saved := st.now.warm t } :: ({ f with gas := f.gas - sg, outOff := if f.arg 5 = 0 then 0 else f.arg 4, outLen := f.arg 5 } : AFrame).settle 6 [] 0 :: rest } : ASt) := by
    exact ec244 (st := st) hph hd6 et.out hsg.out hpn.out
  refine ⟨rfl, own10, c10, V2, V2.marks.length :: s :: sn, ?_, sA.trans (s8.trans (s9.trans s10)), hV2⟩
  rw [ee]
  exact h10
end
end Go.Proofs.YgvahwGreat
