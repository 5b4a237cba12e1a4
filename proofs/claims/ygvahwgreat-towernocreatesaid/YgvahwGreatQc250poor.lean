import Derived.Test.YgvahwGreatQb
import Derived.Test.YgvahwGreatQh
import Derived.Test.YgvahwGreatQe
namespace Go.Proofs.YgvahwGreat
open Go.RowKit
set_option linter.unusedSimpArgs false
section
variable {own : Nat → Nat} {w : World} {g : Nat} {c : Nat → Value} {V : EV} {st : ASt} {sn stale : List Nat} {s : Nat} {f : AFrame} {rest : List AFrame}
set_option maxRecDepth 100000 in
set_option maxHeartbeats 6400000 in
theorem mCall250_poor {t : Nat} (et : Hid (addrA (f.arg 1) = t)) (h : MRep own w g c V st (s :: sn) stale) (hst : st.frames = f :: rest) (hph : st.phase = 1) (ho : f.opcode = 250) (hl : 6 ≤ f.stack.length) (hpc : f.pc ≤ 50000) (hr : Room V 8) (hpo : 6 ≤ rest.length ∨ st.now.bal f.self < 0) : Calls Hvah.prog 212 #[.pointer (some ⟨g, 0, none⟩)] w fun e w' => e = .returned (.tuple #[]) ∧ ∃ own' c' V', MRep own' w' g c' V' (st.enterCall f rest 250) (s :: sn) stale ∧ MStep own w own' w' ∧ (V' = V ∨ V' = V.warmA t) := by
  obtain ⟨hfr, hr7⟩ := h.frame hst
  have hok := hfr.ok
  have hx1 : f.arg 1 < P256 := hok.argLt 1
  have ht : t < 2 ^ 160 := by rw [← et.out]; exact Nat.mod_lt _ (by decide)
  have HR0 := fun W (hW : Ext w W) => mRun (h.ext hW) hst hph
  have HA1 := fun W (hW : Ext w W) => mArg (h.ext hW) hst 1 (by decide)
  have HAo := fun W => mAddrOf (f.arg 1) hx1 W
  rw [et.out] at HAo
  obtain ⟨r72, hq1, hq2, hq3⟩ := b72 (sb := f.static) ht hok.self
  go_enter Hvah.func212, Hvah.ntmps212
  go_upto_region 3 with (first | (go_at_call 192; refine (HR0 _ (by (repeat (first | with_reducible exact Ext.refl _ | with_reducible assumption | refine Ext.trans ?_ (by with_reducible assumption) | refine Ext.alloc ?_ _ _ | refine Ext.drew ?_ | refine Ext.drewN ?_ _)))).mono ?_; rintro e w1 ⟨rfl, he⟩) | (go_at_call 273; refine (HA1 _ (by (repeat (first | with_reducible exact Ext.refl _ | with_reducible assumption | refine Ext.trans ?_ (by with_reducible assumption) | refine Ext.alloc ?_ _ _ | refine Ext.drew ?_ | refine Ext.drewN ?_ _)))).mono ?_; rintro e w1 ⟨rfl, he⟩) | (go_at_call 302; refine (HAo _).mono ?_; rintro e w1 ⟨rfl, he⟩) | ((with_reducible (refine Veil.out ?_; apply wl_allocA)); rintro B3 W2 cA eA bA aA gA) | ((with_reducible (refine Veil.out ?_; apply wl_storeA)); (case hx => rfl); (case hy => rfl); (case hv => exact ht); (case hB => exact Blk.ext bA (by (repeat (first | with_reducible exact Ext.refl _ | with_reducible assumption | refine Ext.trans ?_ (by with_reducible assumption) | refine Ext.alloc ?_ _ _ | refine Ext.drew ?_ | refine Ext.drewN ?_ _)))); (case hi => decide); rintro W3 c3 b3 a3 _ m3))
  have gB3 : w.heap.size ≤ B3 := Nat.le_trans (Ext.size (by (repeat (first | with_reducible exact Ext.refl _ | with_reducible assumption | refine Ext.trans ?_ (by with_reducible assumption) | refine Ext.alloc ?_ _ _ | refine Ext.drew ?_ | refine Ext.drewN ?_ _)))) gA
  have hE3 : Ext w W3 := Ext.trans_mod (by (repeat (first | with_reducible exact Ext.refl _ | with_reducible assumption | refine Ext.trans ?_ (by with_reducible assumption) | refine Ext.alloc ?_ _ _ | refine Ext.drew ?_ | refine Ext.drewN ?_ _))) m3 (fun i hi => by have hi2 : i = B3 := hi; rw [hi2]; exact gB3)
  clear bA aA
  have hgB3 : B3 ≠ g := fun q => by have := h.v.blk.lt; omega
  go_upto_region 4 with ((with_reducible (refine Veil.out ?_; apply wl_storeC onet32q)); (case hx => rfl); (case hy => rfl); (case h1 => rfl); (case hB => exact h.v.blk.ext hE3); (case hi => decide); rintro W4 b4 m4)
  obtain ⟨h1, s1⟩ := (h.ext hE3).noRet m4 b4
  have b3a := b3.mod m4 hgB3
  have HWm := mWarm h1 t ht (by have := hr.j; omega) (fun _ => by have := hr.a; omega)
  go_upto_region 6 with (first | ((with_reducible (refine Veil.out ?_; apply wl_loadA)); (case hx => rfl); (case hB => exact b3a); (case hA => exact a3); (case hs => exact ht); (case ho => decide)) | (go_at_call 303; refine HWm.mono ?_; rintro e w5 ⟨rfl, own2, c2, V2, h2, k2, hV2⟩))
  have b3b := b3a.mod k2.mod (fun q => q.1.1 (h.v.fresh _ gB3))
  have s2 : MStep own w own2 w5 := (MStep.ext hE3).trans (s1.trans k2.mstep)
  have hfr2 := (h2.frame (f := f) (rest := rest) hst).1
  have eg : g ≠ B3 := fun q => hgB3 q.symm
  clear HWm HR0 HA1 HAo h1 s1 b3a
  refine w_ext ?_
  rintro W0 hW0
  have h20 := h2.ext (show Ext w5 W0 by (repeat (first | with_reducible exact Ext.refl _ | with_reducible assumption | refine Ext.trans ?_ (by with_reducible assumption) | refine Ext.alloc ?_ _ _ | refine Ext.drew ?_ | refine Ext.drewN ?_ _)))
  refine wp_region_held_drew (S := fun w' => Ext W0 w') (by kernel_rfl) (Ext.refl _).drew (fun hHeld => ?_)
  have HH : Hid (Ext W0 _) := hHeld
  clear hHeld
  refine wpAnyH_take (i := 0) (v := ?_) rfl (by kernel_rfl) (by kernel_rfl) (by kernel_rfl) (fun _ _ _ h => h) (Or.inl ⟨by rfl, ?_⟩) HH.out ?_
  rotate_left
  · intro w hSw; go_simp; try with_reducible rfl
  change wpAnyH _ _ _ _ _ _ _ (Act.put _ (some 27) _) _
  simp only [Act.put, List.setIfInBounds_toArray, List.set_cons_zero, List.set_cons_succ]
  refine wpAnyH_take (i := 1) (v := ?_) rfl (by kernel_rfl) (by kernel_rfl) (by kernel_rfl) (fun _ _ _ h => h) (Or.inl ⟨by rfl, ?_⟩) HH.out ?_
  rotate_left
  · intro w hSw; go_simp; try with_reducible rfl
  change wpAnyH _ _ _ _ _ _ _ (Act.put _ (some 28) _) _
  simp only [Act.put, List.setIfInBounds_toArray, List.set_cons_zero, List.set_cons_succ]
  refine wpAnyH_take (i := 2) (v := ?_) rfl (by kernel_rfl) (by kernel_rfl) (by kernel_rfl) (fun _ _ _ h => h) (Or.inl ⟨by rfl, ?_⟩) HH.out ?_
  rotate_left
  · intro w hSw; go_simp; try with_reducible rfl
  change wpAnyH _ _ _ _ _ _ _ (Act.put _ (some 29) _) _
  simp only [Act.put, List.setIfInBounds_toArray, List.set_cons_zero, List.set_cons_succ]
  refine wpAnyH_take (i := 3) rfl (by kernel_rfl) (by kernel_rfl) (by kernel_rfl) (fun _ _ _ h => h) (yieldsIf_load1 (by rfl) _ _ rfl _ _ rfl onet4q _ (fun w hSw => by rw [(h20.v.blk.ext hSw).cell (by omega), hfr2.static])) HH.out ?_
  change wpAnyH _ _ _ _ _ _ _ (Act.put _ (some 30) _) _
  simp only [Act.put, List.setIfInBounds_toArray, List.set_cons_zero, List.set_cons_succ]
  refine wpAnyH_take (i := 4) rfl (by kernel_rfl) (by kernel_rfl) (by kernel_rfl) (fun _ _ _ h => h) (yields_A (by rfl) rfl rfl (fun w hSw => b3b.ext (Ext.trans (by (repeat (first | with_reducible exact Ext.refl _ | with_reducible assumption | refine Ext.trans ?_ (by with_reducible assumption) | refine Ext.alloc ?_ _ _ | refine Ext.drew ?_ | refine Ext.drewN ?_ _))) hSw)) a3 ht (by decide)) HH.out ?_
  change wpAnyH _ _ _ _ _ _ _ (Act.put _ (some 31) _) _
  simp only [Act.put, List.setIfInBounds_toArray, List.set_cons_zero, List.set_cons_succ]
  refine wpAnyH_take (i := 5) (v := ?_) rfl (by kernel_rfl) (by kernel_rfl) (by kernel_rfl) (fun _ _ _ h => h) (Or.inl ⟨by rfl, ?_⟩) HH.out ?_
  rotate_left
  · intro w hSw; go_simp; try with_reducible rfl
  change wpAnyH _ _ _ _ _ _ _ (Act.put _ (some 32) _) _
  simp only [Act.put, List.setIfInBounds_toArray, List.set_cons_zero, List.set_cons_succ]
  refine wpAnyH_take (i := 6) (v := ?_) rfl (by kernel_rfl) (by kernel_rfl) (by kernel_rfl) (fun _ _ _ h => h) (Or.inl ⟨by rfl, ?_⟩) HH.out ?_
  rotate_left
  · intro w hSw; go_simp; try with_reducible rfl
  change wpAnyH _ _ _ _ _ _ _ (Act.put _ (some 33) _) _
  simp only [Act.put, List.setIfInBounds_toArray, List.set_cons_zero, List.set_cons_succ]
  refine wpAnyH_take (i := 7) (v := ?_) rfl (by kernel_rfl) (by kernel_rfl) (by kernel_rfl) (fun _ _ _ h => h) (Or.inl ⟨by rfl, ?_⟩) HH.out ?_
  rotate_left
  · intro w hSw; go_simp; try with_reducible rfl
  change wpAnyH _ _ _ _ _ _ _ (Act.put _ (some 34) _) _
  simp only [Act.put, List.setIfInBounds_toArray, List.set_cons_zero, List.set_cons_succ]
  refine wpAnyH_take (i := 8) rfl (by kernel_rfl) (by kernel_rfl) (by kernel_rfl) (fun _ _ _ h => h) (yields_A (by rfl) rfl rfl (fun w hSw => h20.v.blk.ext hSw) hfr2.self hok.self (by omega)) HH.out ?_
  change wpAnyH _ _ _ _ _ _ _ (Act.put _ (some 35) _) _
  simp only [Act.put, List.setIfInBounds_toArray, List.set_cons_zero, List.set_cons_succ]
  refine wpAnyH_take (i := 9) rfl (by kernel_rfl) (by kernel_rfl) (by kernel_rfl) (fun _ _ _ h => h) (yields_build (by rfl) rfl hq3 (by simp [Act.eval])) HH.out ?_
  change wpAnyH _ _ _ _ _ _ _ (Act.put _ (some 36) _) _
  simp only [Act.put, List.setIfInBounds_toArray, List.set_cons_zero, List.set_cons_succ]
  refine wpAnyH_ready (rs := [10]) (by kernel_rfl) (by simp) ?_
  refine AllReadyH.cons rfl (fun K hK => ?_) AllReadyH.nil
  refine step_any rfl (op_alloc rfl z72 z72s ?_)
  rintro B4 W6 e6 b6 g6
  refine hK.out _ _ ?_ (fun hHeld => ?_)
  · exact HH.out.trans e6
  clear hK K HH
  have HH : Hid (Ext W0 _) := hHeld
  clear hHeld
  change wpAnyH _ _ _ _ _ _ _ (Act.put _ (some 4) _) _
  simp only [Act.put, List.setIfInBounds_toArray, List.set_cons_zero, List.set_cons_succ]
  refine wpAnyH_ready (rs := [11]) (by kernel_rfl) (by simp) ?_
  refine AllReadyH.cons rfl (fun K hK => ?_) AllReadyH.nil
  refine step_any rfl (op_storeRow rfl rt72 rfl rfl hq1 (ones_of (fun i hi => by rw [hq1] at hi; rw [hq2 i hi]; exact (kc0_ok (O := fun _ => True) (w := w) ht hok.self (fun _ _ => rfl)).ones i hi)) (b6.ext (by (repeat (first | with_reducible exact Ext.refl _ | with_reducible assumption | refine Ext.trans ?_ (by with_reducible assumption) | refine Ext.alloc ?_ _ _ | refine Ext.drew ?_ | refine Ext.drewN ?_ _)))) (by decide) ?_)
  rintro W7 b7 m7
  refine hK.out _ _ ?_ (fun hHeld => ?_)
  · exact Ext.trans_mod HH.out m7 (fun q hq => by have hq2 : q = B4 := hq; rw [hq2]; exact Nat.le_trans (Ext.size (by (repeat (first | with_reducible exact Ext.refl _ | with_reducible assumption | refine Ext.trans ?_ (by with_reducible assumption) | refine Ext.alloc ?_ _ _ | refine Ext.drew ?_ | refine Ext.drewN ?_ _)))) g6)
  clear hK K HH
  have HH : Hid (Ext W0 _) := hHeld
  clear hHeld
  change wpAnyH _ _ _ _ _ _ _ (Act.put _ none _) _
  simp only [Act.put, List.setIfInBounds_toArray, List.set_cons_zero, List.set_cons_succ]
  refine wpAnyH_done (by kernel_rfl) ?_ _
  have gB4 : w5.heap.size ≤ B4 := Nat.le_trans (Ext.size (by (repeat (first | with_reducible exact Ext.refl _ | with_reducible assumption | refine Ext.trans ?_ (by with_reducible assumption) | refine Ext.alloc ?_ _ _ | refine Ext.drew ?_ | refine Ext.drewN ?_ _)))) g6
  have hE7 : Ext w5 W7 := (show Ext w5 W0 by (repeat (first | with_reducible exact Ext.refl _ | with_reducible assumption | refine Ext.trans ?_ (by with_reducible assumption) | refine Ext.alloc ?_ _ _ | refine Ext.drew ?_ | refine Ext.drewN ?_ _))).trans HH.out
  clear HH
  obtain ⟨d0, hd0⟩ : ∃ d, Hid (layv (cf z72a) 0 r72 = d) := ⟨_, rfl⟩
  rw [hd0.out] at b7
  have C0 : ChC (Mu own2) W7 d0 2 0 0 t f.self 0 f.static [] [] := kc0_ok ht hok.self (fun i hi => by
    rw [← hd0.out, ← hq2 i hi]
    have := layv_in (cf z72a) 0 r72 (j := i) (by rw [hq1]; exact hi)
    rw [Nat.zero_add] at this; exact this)
  have hgB4 : B4 ≠ g := fun q => by have := h2.v.blk.lt; omega
  have h43 : B4 ≠ B3 := fun q => by have := b3b.lt; omega
  clear b6 hq1 hq2 hq3 hd0
  have HO2 := fun W (hW : Ext w5 W) => mOp (h2.ext hW) hst hph
  rw [ho] at HO2
  have HA2 := fun W (hW : Ext w5 W) => mArg (h2.ext hW) hst 2 (by decide)
  have HA0 := fun W (hW : Ext w5 W) => mArg (h2.ext hW) hst 0 (by decide)
  have hv2 : f.arg 2 < P256 := hok.argLt 2
  go_upto_region 9 with (first | ((with_reducible (refine Veil.out ?_; apply wl_allocW)); rintro B6 W8 c8 e8 b8 a8 g8) | ((with_reducible (refine Veil.out ?_; apply wl_storeWB)); (case hx => rfl); (case hy => first | rfl | exact wv0.symm); (case hB => exact Blk.ext b8 (by (repeat (first | with_reducible exact Ext.refl _ | with_reducible assumption | refine Ext.trans ?_ (by with_reducible assumption) | refine Ext.alloc ?_ _ _ | refine Ext.drew ?_ | refine Ext.drewN ?_ _)))); (case hi => decide); rintro W9 c9 b9 a9 _ m9))
  have gB6 : W7.heap.size ≤ B6 := Nat.le_trans (Ext.size (by (repeat (first | with_reducible exact Ext.refl _ | with_reducible assumption | refine Ext.trans ?_ (by with_reducible assumption) | refine Ext.alloc ?_ _ _ | refine Ext.drew ?_ | refine Ext.drewN ?_ _)))) g8
  have h46 : B4 ≠ B6 := fun q => by have := b7.lt; omega
  have h36 : B3 ≠ B6 := fun q => by have := b3b.lt; have := hE7.size; omega
  have hgB6 : B6 ≠ g := fun q => by have := h2.v.blk.lt; have := hE7.size; omega
  have hE79 : Ext W7 W9 := Ext.trans_mod (by (repeat (first | with_reducible exact Ext.refl _ | with_reducible assumption | refine Ext.trans ?_ (by with_reducible assumption) | refine Ext.alloc ?_ _ _ | refine Ext.drew ?_ | refine Ext.drewN ?_ _))) m9 (fun i hi => by have hi2 : i = B6 := hi; rw [hi2]; exact gB6)
  have b79 : Blk W9 B4 65 85 d0 := b7.ext hE79
  have hE9 : Ext w5 W9 := hE7.trans hE79
  have gB6w : w5.heap.size ≤ B6 := Nat.le_trans hE7.size gB6
  clear b7 b8 a8 m9 e8
  go_upto_region 28 with (first | (go_at_call 117; refine (HO2 _ (by (repeat (first | with_reducible exact Ext.refl _ | with_reducible assumption | refine Ext.trans ?_ (by with_reducible assumption) | refine Ext.alloc ?_ _ _ | refine Ext.drew ?_ | refine Ext.drewN ?_ _)))).mono ?_; rintro e w1 ⟨rfl, he⟩) | ((with_reducible (refine Veil.out ?_; apply wl_storeC onet5q)); (case hx => rfl); (case hy => rfl); (case h1 => rfl); (case hB => exact b79.ext (by (repeat (first | with_reducible exact Ext.refl _ | with_reducible assumption | refine Ext.trans ?_ (by with_reducible assumption) | refine Ext.alloc ?_ _ _ | refine Ext.drew ?_ | refine Ext.drewN ?_ _)))); (case hi => decide); rintro W26 b26 m26; have hE26 : Ext w5 W26 := Ext.trans_mod (by (repeat (first | with_reducible exact Ext.refl _ | with_reducible assumption | refine Ext.trans ?_ (by with_reducible assumption) | refine Ext.alloc ?_ _ _ | refine Ext.drew ?_ | refine Ext.drewN ?_ _))) m26 (fun i hi => by have hi2 : i = B4 := hi; rw [hi2]; exact gB4)) | ((with_reducible (refine Veil.out ?_; apply wl_storeC onet4q)); (case hx => rfl); (case hy => rfl); (case h1 => rfl); (case hB => exact b26.ext (by (repeat (first | with_reducible exact Ext.refl _ | with_reducible assumption | refine Ext.trans ?_ (by with_reducible assumption) | refine Ext.alloc ?_ _ _ | refine Ext.drew ?_ | refine Ext.drewN ?_ _)))); (case hi => decide); rintro W27 b27 m27; have hE27 : Ext w5 W27 := Ext.trans_mod (by (repeat (first | with_reducible exact Ext.refl _ | with_reducible assumption | refine Ext.trans ?_ (by with_reducible assumption) | refine Ext.alloc ?_ _ _ | refine Ext.drew ?_ | refine Ext.drewN ?_ _))) m27 (fun i hi => by have hi2 : i = B4 := hi; rw [hi2]; exact gB4)))
  have C27 : ChC (Mu own2) W27 _ 4 0 0 t f.self 0 true [] [] := ((C0.setKind 4).setStatic true).any
  obtain ⟨cv, bV, aV⟩ : ∃ cv, Blk W27 B6 4 79 cv ∧ WAt cv 0 (0) := ⟨_, (((b9.ext (by (repeat (first | with_reducible exact Ext.refl _ | with_reducible assumption | refine Ext.trans ?_ (by with_reducible assumption) | refine Ext.alloc ?_ _ _ | refine Ext.drew ?_ | refine Ext.drewN ?_ _)))).mod m26 (fun q => h46 q.symm)).mod m27 (fun q => h46 q.symm)), a9⟩
  have hvl : (0) < P256 := pos256
  obtain ⟨d1, b1q, C1q⟩ : ∃ d1, Blk W27 B4 65 85 d1 ∧ ChC (Mu own2) W27 d1 4 0 0 t f.self (0) true [] [] := ⟨_, b27, C27⟩
  obtain ⟨WL, eWL⟩ : ∃ W, Hid (W27 = W) := ⟨_, rfl⟩
  have hEL : Ext w5 W27 := hE27
  have b3L : Blk W27 B3 20 31 c3 := b3b.ext hEL
  obtain ⟨sg, hsg⟩ : ∃ x, Hid (sentA f.gas (f.arg 0) = x) := ⟨_, rfl⟩
  have hsl : sg ≤ f.gas := by rw [← hsg.out]; unfold sentA; omega
  have hgl := hok.gas
  have HSG := fun W => mSentGas f.gas (f.arg 0) W (by omega) (hok.argLt 0)
  rw [hsg.out] at HSG
  have hg4 : ¬ g = B4 := fun q => hgB4 q.symm
  go_upto_region 28 with (fail)
  refine w_ext ?_
  rintro W0 hW0
  have h20 := h2.ext (show Ext w5 W0 by (repeat (first | with_reducible exact Ext.refl _ | with_reducible assumption | refine Ext.trans ?_ (by with_reducible assumption) | refine Ext.alloc ?_ _ _ | refine Ext.drew ?_ | refine Ext.drewN ?_ _)))
  refine wp_region_held_drew (S := fun w' => Mod (fun x => x = B4) W0 w') (by kernel_rfl) (Mod.refl _ _).drew (fun hHeld => ?_)
  have HH : Hid (Mod (fun x => x = B4) W0 _) := hHeld
  clear hHeld
  refine wpAnyH_take (i := 0) (v := ?_) rfl (by kernel_rfl) (by kernel_rfl) (by kernel_rfl) (fun _ _ _ h => h) (Or.inl ⟨by rfl, ?_⟩) HH.out ?_
  rotate_left
  · intro w hSw; go_simp; try with_reducible rfl
  change wpAnyH _ _ _ _ _ _ _ (Act.put _ (some 82) _) _
  simp only [Act.put, List.setIfInBounds_toArray, List.set_cons_zero, List.set_cons_succ]
  refine wpAnyH_take (i := 1) (v := ?_) rfl (by kernel_rfl) (by kernel_rfl) (by kernel_rfl) (fun _ _ _ h => h) (Or.inl ⟨by rfl, ?_⟩) HH.out ?_
  rotate_left
  · intro w hSw; go_simp; try with_reducible rfl
  change wpAnyH _ _ _ _ _ _ _ (Act.put _ (some 83) _) _
  simp only [Act.put, List.setIfInBounds_toArray, List.set_cons_zero, List.set_cons_succ]
  refine wpAnyH_take (i := 2) (v := ?_) rfl (by kernel_rfl) (by kernel_rfl) (by kernel_rfl) (fun _ _ _ h => h) (Or.inl ⟨by rfl, ?_⟩) HH.out ?_
  rotate_left
  · intro w hSw; go_simp; try with_reducible rfl
  change wpAnyH _ _ _ _ _ _ _ (Act.put _ (some 84) _) _
  simp only [Act.put, List.setIfInBounds_toArray, List.set_cons_zero, List.set_cons_succ]
  refine wpAnyH_take (i := 3) rfl (by kernel_rfl) (by kernel_rfl) (by kernel_rfl) (fun _ _ _ h => h) (yieldsIf_load1 (by rfl) _ _ rfl _ _ rfl onet26q _ (fun w hSw => by rw [(Blk.mod h20.v.blk hSw hg4).cell (by omega), hfr2.gas])) HH.out ?_
  change wpAnyH _ _ _ _ _ _ _ (Act.put _ (some 85) _) _
  simp only [Act.put, List.setIfInBounds_toArray, List.set_cons_zero, List.set_cons_succ]
  refine wpAnyH_take (i := 4) (v := ?_) rfl (by kernel_rfl) (by kernel_rfl) (by kernel_rfl) (fun _ _ _ h => h) (Or.inl ⟨by rfl, ?_⟩) HH.out ?_
  rotate_left
  · intro w hSw; go_simp; try with_reducible rfl
  change wpAnyH _ _ _ _ _ _ _ (Act.put _ (some 86) _) _
  simp only [Act.put, List.setIfInBounds_toArray, List.set_cons_zero, List.set_cons_succ]
  refine wpAnyH_take (i := 5) (v := ?_) rfl (by kernel_rfl) (by kernel_rfl) (by kernel_rfl) (fun _ _ _ h => h) (Or.inl ⟨by rfl, ?_⟩) HH.out ?_
  rotate_left
  · intro w hSw; go_simp; try with_reducible rfl
  change wpAnyH _ _ _ _ _ _ _ (Act.put _ (some 87) _) _
  simp only [Act.put, List.setIfInBounds_toArray, List.set_cons_zero, List.set_cons_succ]
  refine wpAnyH_ready (rs := [6]) (by kernel_rfl) (by simp) ?_
  refine AllReadyH.cons rfl (fun K hK => ?_) AllReadyH.nil
  go_simp
  go_at_call 273; refine (HA0 _ (by (repeat (first | with_reducible exact Ext.refl _ | with_reducible assumption | refine Ext.trans ?_ (by with_reducible assumption) | refine Ext.alloc ?_ _ _ | refine Ext.drew ?_ | refine Ext.drewN ?_ _)))).mono ?_; rintro e w1 ⟨rfl, he⟩
  refine hK.out _ _ ?_ (fun hHeld => ?_)
  · first | exact HH.out.trans hmY | exact HH.out.trans_ext he | exact HH.out
  clear hK K HH
  have HH : Hid (Mod (fun x => x = B4) W0 _) := hHeld
  clear hHeld
  refine wpAnyH_ready (rs := [7]) (by kernel_rfl) (by simp) ?_
  refine AllReadyH.cons rfl (fun K hK => ?_) AllReadyH.nil
  go_simp
  go_at_call 324; refine (HSG _).mono ?_; rintro e w1 ⟨rfl, he⟩
  refine hK.out _ _ ?_ (fun hHeld => ?_)
  · first | exact HH.out.trans hmY | exact HH.out.trans_ext he | exact HH.out
  clear hK K HH
  have HH : Hid (Mod (fun x => x = B4) W0 _) := hHeld
  clear hHeld
  refine wpAnyH_take (i := 8) (v := ?_) rfl (by kernel_rfl) (by kernel_rfl) (by kernel_rfl) (fun _ _ _ h => h) (Or.inl ⟨by rfl, ?_⟩) HH.out ?_
  rotate_left
  · intro w hSw; go_simp; try with_reducible rfl
  change wpAnyH _ _ _ _ _ _ _ (Act.put _ (some 90) _) _
  simp only [Act.put, List.setIfInBounds_toArray, List.set_cons_zero, List.set_cons_succ]
  refine wpAnyH_ready (rs := [9]) (by kernel_rfl) (by simp) ?_
  refine AllReadyH.cons rfl (fun K hK => ?_) AllReadyH.nil
  refine step_any rfl (op_store1 rfl onet26q rfl rfl rfl (b1q.ext (by (repeat (first | with_reducible exact Ext.refl _ | with_reducible assumption | refine Ext.trans ?_ (by with_reducible assumption) | refine Ext.alloc ?_ _ _ | refine Ext.drew ?_ | refine Ext.drewN ?_ _)))) (by decide) ?_)
  rintro W28 b28 m28
  refine hK.out _ _ ?_ (fun hHeld => ?_)
  · exact HH.out.trans m28
  clear hK K HH
  have HH : Hid (Mod (fun x => x = B4) W0 _) := hHeld
  clear hHeld
  change wpAnyH _ _ _ _ _ _ _ (Act.put _ none _) _
  simp only [Act.put, List.setIfInBounds_toArray, List.set_cons_zero, List.set_cons_succ]
  refine wpAnyH_done (by kernel_rfl) ?_ _
  have hM28 : Mod (· = B4) W27 W28 := (hW0.mod _).trans HH.out
  have hE28 : Ext w5 W28 := Ext.trans_mod hEL hM28 (fun i hi => by have hi2 : i = B4 := hi; rw [hi2]; exact gB4)
  have C28 : ChC (Mu own2) W28 (updv d1 7 (.int .u64 (sg : Nat))) 4 0 sg t f.self (0) true [] [] := (C1q.setGas sg).any
  have bV28 := bV.mod hM28 (fun q => h46 q.symm)
  have b328 := b3L.mod hM28 (fun q => h43 q.symm)
  have hbuf := h2.bufOld gB4
  obtain ⟨own7, o7B, o7k, o7n, h7⟩ := h2.reserve hE28 gB4 b28.lt
  have hw1 : IntKind.u64.wrap ((f.gas : Int) - (sg : Int)) = ((f.gas - sg : Nat) : Int) := by rw [IntKind.wrap_u64]; omega
  clear HH
  have hfr7 := (h7.frame (f := f) (rest := rest) hst).1
  have KG : ∀ W, Ext W28 W → W.cell? ⟨g, 1803 + rest.length * 65 + 7, none⟩ = some (.int .u64 (f.gas : Nat)) := fun W hW => by rw [(h7.v.blk.ext hW).cell (by omega), hfr7.gas]
  clear m28
  go_upto_region 29 with (fail)
  refine w_ext ?_
  rintro W0 hW0
  refine wp_region_held_drew (S := fun w' => Mod (fun x => x = g) W0 w') (by kernel_rfl) (Mod.refl _ _).drew (fun hHeld => ?_)
  have HH : Hid (Mod (fun x => x = g) W0 _) := hHeld
  clear hHeld
  refine wpAnyH_take (i := 0) (v := ?_) rfl (by kernel_rfl) (by kernel_rfl) (by kernel_rfl) (fun _ _ _ h => h) (Or.inl ⟨by rfl, ?_⟩) HH.out ?_
  rotate_left
  · intro w hSw; go_simp; try with_reducible rfl
  change wpAnyH _ _ _ _ _ _ _ (Act.put _ (some 91) _) _
  simp only [Act.put, List.setIfInBounds_toArray, List.set_cons_zero, List.set_cons_succ]
  refine wpAnyH_take (i := 1) (v := ?_) rfl (by kernel_rfl) (by kernel_rfl) (by kernel_rfl) (fun _ _ _ h => h) (Or.inl ⟨by rfl, ?_⟩) HH.out ?_
  rotate_left
  · intro w hSw; go_simp; try with_reducible rfl
  change wpAnyH _ _ _ _ _ _ _ (Act.put _ (some 92) _) _
  simp only [Act.put, List.setIfInBounds_toArray, List.set_cons_zero, List.set_cons_succ]
  refine wpAnyH_take (i := 2) (v := ?_) rfl (by kernel_rfl) (by kernel_rfl) (by kernel_rfl) (fun _ _ _ h => h) (Or.inl ⟨by rfl, ?_⟩) HH.out ?_
  rotate_left
  · intro w hSw; go_simp; try with_reducible rfl
  change wpAnyH _ _ _ _ _ _ _ (Act.put _ (some 93) _) _
  simp only [Act.put, List.setIfInBounds_toArray, List.set_cons_zero, List.set_cons_succ]
  refine wpAnyH_take (i := 4) (v := ?_) rfl (by kernel_rfl) (by kernel_rfl) (by kernel_rfl) (fun _ _ _ h => h) (Or.inl ⟨by rfl, ?_⟩) HH.out ?_
  rotate_left
  · intro w hSw; go_simp; try with_reducible rfl
  change wpAnyH _ _ _ _ _ _ _ (Act.put _ (some 95) _) _
  simp only [Act.put, List.setIfInBounds_toArray, List.set_cons_zero, List.set_cons_succ]
  refine wpAnyH_take (i := 5) rfl (by kernel_rfl) (by kernel_rfl) (by kernel_rfl) (fun _ _ _ h => h) (yieldsIf_load1 (by rfl) _ _ rfl _ _ rfl onet26q _ (fun w hSw => by rw [(Blk.mod (b28.ext (by (repeat (first | with_reducible exact Ext.refl _ | with_reducible assumption | refine Ext.trans ?_ (by with_reducible assumption) | refine Ext.alloc ?_ _ _ | refine Ext.drew ?_ | refine Ext.drewN ?_ _)))) hSw hgB4).cell (by decide), updv_same])) HH.out ?_
  change wpAnyH _ _ _ _ _ _ _ (Act.put _ (some 96) _) _
  simp only [Act.put, List.setIfInBounds_toArray, List.set_cons_zero, List.set_cons_succ]
  refine wpAnyH_ready (rs := [3]) (by kernel_rfl) (by simp) ?_
  refine AllReadyH.cons rfl (fun K hK => ?_) AllReadyH.nil
  refine step_any rfl (op_loadK rfl onet26q rfl (KG _ (by (repeat (first | with_reducible exact Ext.refl _ | with_reducible assumption | refine Ext.trans ?_ (by with_reducible assumption) | refine Ext.alloc ?_ _ _ | refine Ext.drew ?_ | refine Ext.drewN ?_ _)))) ?_)
  refine hK.out _ _ HH.out (fun hHeld => ?_)
  clear hK K HH
  have HH : Hid (Mod (fun x => x = g) W0 _) := hHeld
  clear hHeld
  change wpAnyH _ _ _ _ _ _ _ (Act.put _ (some 94) _) _
  simp only [Act.put, List.setIfInBounds_toArray, List.set_cons_zero, List.set_cons_succ]
  refine wpAnyH_take (i := 6) (v := ?_) rfl (by kernel_rfl) (by kernel_rfl) (by kernel_rfl) (fun _ _ _ h => h) (Or.inl ⟨by rfl, ?_⟩) HH.out ?_
  rotate_left
  · intro w hSw; go_simp; try with_reducible rfl
  change wpAnyH _ _ _ _ _ _ _ (Act.put _ (some 97) _) _
  simp only [Act.put, List.setIfInBounds_toArray, List.set_cons_zero, List.set_cons_succ]
  refine wpAnyH_take (i := 7) (v := ?_) rfl (by kernel_rfl) (by kernel_rfl) (by kernel_rfl) (fun _ _ _ h => h) (Or.inl ⟨by rfl, ?_⟩) HH.out ?_
  rotate_left
  · intro w hSw; go_simp; try with_reducible rfl
  change wpAnyH _ _ _ _ _ _ _ (Act.put _ (some 98) _) _
  simp only [Act.put, List.setIfInBounds_toArray, List.set_cons_zero, List.set_cons_succ]
  refine wpAnyH_take (i := 8) (v := ?_) rfl (by kernel_rfl) (by kernel_rfl) (by kernel_rfl) (fun _ _ _ h => h) (Or.inl ⟨by rfl, ?_⟩) HH.out ?_
  rotate_left
  · intro w hSw; go_simp; try with_reducible rfl
  change wpAnyH _ _ _ _ _ _ _ (Act.put _ (some 99) _) _
  simp only [Act.put, List.setIfInBounds_toArray, List.set_cons_zero, List.set_cons_succ]
  refine wpAnyH_ready (rs := [9]) (by kernel_rfl) (by simp) ?_
  refine AllReadyH.cons rfl (fun K hK => ?_) AllReadyH.nil
  refine step_any rfl (op_store1 rfl onet26q rfl rfl rfl (h7.v.blk.ext (by (repeat (first | with_reducible exact Ext.refl _ | with_reducible assumption | refine Ext.trans ?_ (by with_reducible assumption) | refine Ext.alloc ?_ _ _ | refine Ext.drew ?_ | refine Ext.drewN ?_ _)))) (by omega) ?_)
  rintro W29 b29 m29
  refine hK.out _ _ ?_ (fun hHeld => ?_)
  · exact HH.out.trans m29
  clear hK K HH
  have HH : Hid (Mod (fun x => x = g) W0 _) := hHeld
  clear hHeld
  change wpAnyH _ _ _ _ _ _ _ (Act.put _ none _) _
  simp only [Act.put, List.setIfInBounds_toArray, List.set_cons_zero, List.set_cons_succ]
  refine wpAnyH_done (by kernel_rfl) ?_ _
  obtain ⟨h3, s3⟩ := (h7.ext (show Ext W28 W0 by (repeat (first | with_reducible exact Ext.refl _ | with_reducible assumption | refine Ext.trans ?_ (by with_reducible assumption) | refine Ext.alloc ?_ _ _ | refine Ext.drew ?_ | refine Ext.drewN ?_ _))).drew).setGas (f := f) (rest := rest) hst (f.gas - sg) (by omega) m29 b29
  have hMg : Mod (· = g) W28 W29 := (hW0.mod _).trans HH.out
  clear HH
  have b429 : Blk W29 B4 65 85 _ := b28.mod hMg hgB4
  have bV29 := bV28.mod hMg hgB6
  have b329 := b328.mod hMg hgB3
  have hbuf7 : ∀ o n cap, updv c2 (1803 + rest.length * 65 + 7) (.int .u64 ((f.gas - sg : Nat) : Int)) 1 = .slice o n cap → ∀ a, o = some a → a.block ≠ B4 := fun o n cap e => hbuf o n cap (by rw [updv_ne _ _ (by omega)] at e; exact e)
  have LIFT := fun W (hW : Mod (· = B4) W29 W) => h3.apart o7B hW hbuf7
  have s7 : MStep own w own7 W29 := s2.trans ((⟨o7k, hE28.mod _⟩ : MStep own2 w5 own7 W28).trans (MStep.trans (MStep.ext (show Ext W28 W0 by (repeat (first | with_reducible exact Ext.refl _ | with_reducible assumption | refine Ext.trans ?_ (by with_reducible assumption) | refine Ext.alloc ?_ _ _ | refine Ext.drew ?_ | refine Ext.drewN ?_ _))).drew) s3))
  have hneB4 : ∀ b, ¬ Mu own7 b → ¬ b = B4 := fun b hb q => hb (by rw [q]; show own7 B4 ≠ 0; rw [o7B]; decide)
  have ebl : (V2.acct f.self).bal = st.now.bal f.self := congrFun (congrArg AW.bal h3.abs) f.self
  have ecd : (V2.acct t).code = st.now.code t := congrFun (congrArg AW.code h3.abs) t
  have HZ : ∀ W, Calls Hvah.prog 87 #[wv (0)] W fun e w' => e = .returned (.bool true) ∧ Ext W w' := fun W => by
    have q := uIsZero (0) W hvl
    rw [show decide ((0) = 0) = true by simp []] at q
    exact q
  have hw2 : IntKind.u64.wrap ((sg : Int) + 2300) = ((sg + 2300 : Nat) : Int) := by rw [IntKind.wrap_u64]; omega
  clear hw1 KG HSG HA0 HA2 HO2
  go_upto_region 32 with (first | ((with_reducible (refine Veil.out ?_; apply wl_loadWB)); (case hx => rfl); (case hB => exact bV29.ext (by (repeat (first | with_reducible exact Ext.refl _ | with_reducible assumption | refine Ext.trans ?_ (by with_reducible assumption) | refine Ext.alloc ?_ _ _ | refine Ext.drew ?_ | refine Ext.drewN ?_ _)))); (case hW => exact aV); (case hi => decide)) | (go_at_call 87; refine (HZ _).mono ?_; rintro e w30 ⟨rfl, he30⟩))
  have M31 : Mod (· = B4) W29 w30 := he30.mod _
  have b31 := b429.ext he30
  have bV31 := bV29.ext he30
  have b331 := b329.ext he30
  have C31 : ChC (Mu own7) w30 _ 4 0 sg t f.self (0) true [] [] := C28.any
  have h31 := LIFT _ M31
  have hfr31 := (h31.frame (f := { f with gas := f.gas - sg }) (rest := rest) rfl).1
  have htop : h31.m.top = h31.m.top := rfl
  clear htop
  have ktop : ∀ W, Ext w30 W → W.cell? ⟨g, 2258, none⟩ = some (.int .i8 (rest.length : Nat)) := fun W hW => by
    rw [(h31.v.blk.ext hW).cell (by decide), h31.m.top]
    simp
  have HBl := fun W (hW : Ext w30 W) => vBalance (h31.ext hW).v hok.self
  rw [ebl] at HBl
  have hbb : st.now.bal f.self < P256 := by rw [← ebl]; exact h31.v.balLt _
  obtain ⟨gl, hgl9⟩ : ∃ z, Hid (f.gas - sg = z) := ⟨_, rfl⟩
  obtain ⟨cgl, hcgl⟩ : ∃ z, Hid (sg = z) := ⟨_, rfl⟩
  obtain ⟨gs, hgs⟩ : ∃ z, Hid (gl + cgl = z) := ⟨_, rfl⟩
  have KG2 : ∀ W, Ext w30 W → W.cell? ⟨g, 1803 + rest.length * 65 + 7, none⟩ = some (.int .u64 (gl : Nat)) := fun W hW => by rw [(h31.v.blk.ext hW).cell (by omega), hfr31.gas, ← hgl9.out]
  replace b31 : Blk w30 B4 65 85 (updv d1 7 (.int .u64 (cgl : Nat))) := by rw [← hcgl.out]; exact b31
  have hgs1 := hgs.out
  have hgs2 := hgl9.out
  have hgs3 := hcgl.out
  have hw5 : IntKind.u64.wrap ((gl : Int) + (cgl : Int)) = (gs : Int) := by rw [IntKind.wrap_u64]; omega
  have hgsl : gs ≤ 1048576 := by omega
  clear hgs1 hgs2 hgs3
  have hsl9 := hok.sLen
  have s31 : MStep own w own7 w30 := s7.trans ⟨fun _ _ => rfl, M31.sub (fun b hb => by rw [hb, o7B]; decide)⟩
  rcases Nat.lt_or_ge rest.length 6 with hd6 | hd6
  · exact absurd hpo (by omega)
  · have z6 : (6 : Int) ≤ (rest.length : Int) := by omega
    refine w_ext ?_
    rintro W0 hW0
    refine wp_region_held_drew (S := fun w' => Ext W0 w') (by kernel_rfl) (Ext.refl _).drew (fun hHeld => ?_)
    have HH : Hid (Ext W0 _) := hHeld
    clear hHeld
    refine wpAnyH_take (i := 0) (v := ?_) rfl (by kernel_rfl) (by kernel_rfl) (by kernel_rfl) (fun _ _ _ h => h) (Or.inl ⟨by rfl, ?_⟩) HH.out ?_
    rotate_left
    · intro w hSw; go_simp; try with_reducible rfl
    change wpAnyH _ _ _ _ _ _ _ (Act.put _ (some 107) _) _
    simp only [Act.put, List.setIfInBounds_toArray, List.set_cons_zero, List.set_cons_succ]
    refine wpAnyH_take (i := 1) (v := ?_) rfl (by kernel_rfl) (by kernel_rfl) (by kernel_rfl) (fun _ _ _ h => h) (Or.inl ⟨by rfl, ?_⟩) HH.out ?_
    rotate_left
    · intro w hSw; go_simp; try with_reducible rfl
    change wpAnyH _ _ _ _ _ _ _ (Act.put _ (some 108) _) _
    simp only [Act.put, List.setIfInBounds_toArray, List.set_cons_zero, List.set_cons_succ]
    refine wpAnyH_take (i := 2) (v := ?_) rfl (by kernel_rfl) (by kernel_rfl) (by kernel_rfl) (fun _ _ _ h => h) (Or.inl ⟨by rfl, ?_⟩) HH.out ?_
    rotate_left
    · intro w hSw; go_simp; try with_reducible rfl
    change wpAnyH _ _ _ _ _ _ _ (Act.put _ (some 109) _) _
    simp only [Act.put, List.setIfInBounds_toArray, List.set_cons_zero, List.set_cons_succ]
    refine wpAnyH_take (i := 3) rfl (by kernel_rfl) (by kernel_rfl) (by kernel_rfl) (fun _ _ _ h => h) (yieldsIf_load1 (by rfl) _ _ rfl _ _ rfl onet74q _ (fun w hSw => ktop _ (Ext.trans (by (repeat (first | with_reducible exact Ext.refl _ | with_reducible assumption | refine Ext.trans ?_ (by with_reducible assumption) | refine Ext.alloc ?_ _ _ | refine Ext.drew ?_ | refine Ext.drewN ?_ _))) hSw))) HH.out ?_
    change wpAnyH _ _ _ _ _ _ _ (Act.put _ (some 110) _) _
    simp only [Act.put, List.setIfInBounds_toArray, List.set_cons_zero, List.set_cons_succ]
    refine wpAnyH_take (i := 4) (v := .bool true) rfl (by kernel_rfl) (by kernel_rfl) (by kernel_rfl) (fun _ _ _ h => h) (Or.inl ⟨by rfl, ?_⟩) HH.out ?_
    · intro w hSw; go_simp; first | rfl | (simp; omega) | done
    change wpAnyH _ _ _ _ _ _ _ (Act.put _ (some 111) _) _
    simp only [Act.put, List.setIfInBounds_toArray, List.set_cons_zero, List.set_cons_succ]
    refine wpAnyH_take (i := 5) (v := ?_) rfl (by kernel_rfl) (by kernel_rfl) (by kernel_rfl) (fun _ _ _ h => h) (Or.inl ⟨by rfl, ?_⟩) HH.out ?_
    rotate_left
    · intro w hSw; go_simp; try with_reducible rfl
    change wpAnyH _ _ _ _ _ _ _ (Act.put _ (some 112) _) _
    simp only [Act.put, List.setIfInBounds_toArray, List.set_cons_zero, List.set_cons_succ]
    refine wpAnyH_take (i := 6) (v := undef) rfl (by kernel_rfl) (by kernel_rfl) (by kernel_rfl) (fun _ _ _ h => h) (Or.inr ⟨by rfl, rfl⟩) HH.out ?_
    change wpAnyH _ _ _ _ _ _ _ (Act.put _ (some 113) _) _
    simp only [Act.put, List.setIfInBounds_toArray, List.set_cons_zero, List.set_cons_succ]
    refine wpAnyH_take (i := 7) (v := undef) rfl (by kernel_rfl) (by kernel_rfl) (by kernel_rfl) (fun _ _ _ h => h) (Or.inr ⟨by rfl, rfl⟩) HH.out ?_
    change wpAnyH _ _ _ _ _ _ _ (Act.put _ (some 114) _) _
    simp only [Act.put, List.setIfInBounds_toArray, List.set_cons_zero, List.set_cons_succ]
    refine wpAnyH_take (i := 8) (v := undef) rfl (by kernel_rfl) (by kernel_rfl) (by kernel_rfl) (fun _ _ _ h => h) (Or.inr ⟨by rfl, rfl⟩) HH.out ?_
    change wpAnyH _ _ _ _ _ _ _ (Act.put _ (some 115) _) _
    simp only [Act.put, List.setIfInBounds_toArray, List.set_cons_zero, List.set_cons_succ]
    refine wpAnyH_take (i := 9) (v := undef) rfl (by kernel_rfl) (by kernel_rfl) (by kernel_rfl) (fun _ _ _ h => h) (Or.inr ⟨by rfl, rfl⟩) HH.out ?_
    change wpAnyH _ _ _ _ _ _ _ (Act.put _ (some 116) _) _
    simp only [Act.put, List.setIfInBounds_toArray, List.set_cons_zero, List.set_cons_succ]
    refine wpAnyH_take (i := 10) (v := undef) rfl (by kernel_rfl) (by kernel_rfl) (by kernel_rfl) (fun _ _ _ h => h) (Or.inr ⟨by rfl, rfl⟩) HH.out ?_
    change wpAnyH _ _ _ _ _ _ _ (Act.put _ (some 117) _) _
    simp only [Act.put, List.setIfInBounds_toArray, List.set_cons_zero, List.set_cons_succ]
    refine wpAnyH_take (i := 11) (v := undef) rfl (by kernel_rfl) (by kernel_rfl) (by kernel_rfl) (fun _ _ _ h => h) (Or.inr ⟨by rfl, rfl⟩) HH.out ?_
    change wpAnyH _ _ _ _ _ _ _ (Act.put _ (some 118) _) _
    simp only [Act.put, List.setIfInBounds_toArray, List.set_cons_zero, List.set_cons_succ]
    refine wpAnyH_take (i := 12) (v := undef) rfl (by kernel_rfl) (by kernel_rfl) (by kernel_rfl) (fun _ _ _ h => h) (Or.inr ⟨by rfl, rfl⟩) HH.out ?_
    change wpAnyH _ _ _ _ _ _ _ (Act.put _ (some 119) _) _
    simp only [Act.put, List.setIfInBounds_toArray, List.set_cons_zero, List.set_cons_succ]
    refine wpAnyH_take (i := 13) (v := undef) rfl (by kernel_rfl) (by kernel_rfl) (by kernel_rfl) (fun _ _ _ h => h) (Or.inr ⟨by rfl, rfl⟩) HH.out ?_
    change wpAnyH _ _ _ _ _ _ _ (Act.put _ (some 120) _) _
    simp only [Act.put, List.setIfInBounds_toArray, List.set_cons_zero, List.set_cons_succ]
    refine wpAnyH_take (i := 14) (v := undef) rfl (by kernel_rfl) (by kernel_rfl) (by kernel_rfl) (fun _ _ _ h => h) (Or.inr ⟨by rfl, rfl⟩) HH.out ?_
    change wpAnyH _ _ _ _ _ _ _ (Act.put _ (some 121) _) _
    simp only [Act.put, List.setIfInBounds_toArray, List.set_cons_zero, List.set_cons_succ]
    refine wpAnyH_take (i := 15) (v := undef) rfl (by kernel_rfl) (by kernel_rfl) (by kernel_rfl) (fun _ _ _ h => h) (Or.inr ⟨by rfl, rfl⟩) HH.out ?_
    change wpAnyH _ _ _ _ _ _ _ (Act.put _ (some 122) _) _
    simp only [Act.put, List.setIfInBounds_toArray, List.set_cons_zero, List.set_cons_succ]
    refine wpAnyH_take (i := 16) (v := undef) rfl (by kernel_rfl) (by kernel_rfl) (by kernel_rfl) (fun _ _ _ h => h) (Or.inr ⟨by rfl, rfl⟩) HH.out ?_
    change wpAnyH _ _ _ _ _ _ _ (Act.put _ (some 123) _) _
    simp only [Act.put, List.setIfInBounds_toArray, List.set_cons_zero, List.set_cons_succ]
    refine wpAnyH_take (i := 17) (v := ?_) rfl (by kernel_rfl) (by kernel_rfl) (by kernel_rfl) (fun _ _ _ h => h) (Or.inl ⟨by rfl, ?_⟩) HH.out ?_
    rotate_left
    · intro w hSw; go_simp; try with_reducible rfl
    change wpAnyH _ _ _ _ _ _ _ (Act.put _ (some 124) _) _
    simp only [Act.put, List.setIfInBounds_toArray, List.set_cons_zero, List.set_cons_succ]
    refine wpAnyH_done (by kernel_rfl) ?_ _
    clear HH
    refine w_ext ?_
    rintro WE hWE
    have hW1 : Ext w30 WE := by (repeat (first | with_reducible exact Ext.refl _ | with_reducible assumption | refine Ext.trans ?_ (by with_reducible assumption) | refine Ext.alloc ?_ _ _ | refine Ext.drew ?_ | refine Ext.drewN ?_ _))
    clear hWE
    go_upto_region 33 with (fail)
    refine w_ext ?_
    rintro W0 hW0
    refine wp_region_held_drew (S := fun w' => Mod (fun x => x = g) W0 w') (by kernel_rfl) (Mod.refl _ _).drew (fun hHeld => ?_)
    have HH : Hid (Mod (fun x => x = g) W0 _) := hHeld
    clear hHeld
    refine wpAnyH_take (i := 0) (v := ?_) rfl (by kernel_rfl) (by kernel_rfl) (by kernel_rfl) (fun _ _ _ h => h) (Or.inl ⟨by rfl, ?_⟩) HH.out ?_
    rotate_left
    · intro w hSw; go_simp; try with_reducible rfl
    change wpAnyH _ _ _ _ _ _ _ (Act.put _ (some 125) _) _
    simp only [Act.put, List.setIfInBounds_toArray, List.set_cons_zero, List.set_cons_succ]
    refine wpAnyH_take (i := 1) (v := ?_) rfl (by kernel_rfl) (by kernel_rfl) (by kernel_rfl) (fun _ _ _ h => h) (Or.inl ⟨by rfl, ?_⟩) HH.out ?_
    rotate_left
    · intro w hSw; go_simp; try with_reducible rfl
    change wpAnyH _ _ _ _ _ _ _ (Act.put _ (some 126) _) _
    simp only [Act.put, List.setIfInBounds_toArray, List.set_cons_zero, List.set_cons_succ]
    refine wpAnyH_take (i := 2) (v := ?_) rfl (by kernel_rfl) (by kernel_rfl) (by kernel_rfl) (fun _ _ _ h => h) (Or.inl ⟨by rfl, ?_⟩) HH.out ?_
    rotate_left
    · intro w hSw; go_simp; try with_reducible rfl
    change wpAnyH _ _ _ _ _ _ _ (Act.put _ (some 127) _) _
    simp only [Act.put, List.setIfInBounds_toArray, List.set_cons_zero, List.set_cons_succ]
    refine wpAnyH_take (i := 4) (v := ?_) rfl (by kernel_rfl) (by kernel_rfl) (by kernel_rfl) (fun _ _ _ h => h) (Or.inl ⟨by rfl, ?_⟩) HH.out ?_
    rotate_left
    · intro w hSw; go_simp; try with_reducible rfl
    change wpAnyH _ _ _ _ _ _ _ (Act.put _ (some 129) _) _
    simp only [Act.put, List.setIfInBounds_toArray, List.set_cons_zero, List.set_cons_succ]
    refine wpAnyH_take (i := 5) rfl (by kernel_rfl) (by kernel_rfl) (by kernel_rfl) (fun _ _ _ h => h) (yieldsIf_load1 (by rfl) _ _ rfl _ _ rfl onet26q _ (fun w hSw => by rw [(Blk.mod (b31.ext (by (repeat (first | with_reducible exact Ext.refl _ | with_reducible assumption | refine Ext.trans ?_ (by with_reducible assumption) | refine Ext.alloc ?_ _ _ | refine Ext.drew ?_ | refine Ext.drewN ?_ _)))) hSw hgB4).cell (by decide), updv_same])) HH.out ?_
    change wpAnyH _ _ _ _ _ _ _ (Act.put _ (some 130) _) _
    simp only [Act.put, List.setIfInBounds_toArray, List.set_cons_zero, List.set_cons_succ]
    refine wpAnyH_ready (rs := [3]) (by kernel_rfl) (by simp) ?_
    refine AllReadyH.cons rfl (fun K hK => ?_) AllReadyH.nil
    refine step_any rfl (op_loadK rfl onet26q rfl (KG2 _ (by (repeat (first | with_reducible exact Ext.refl _ | with_reducible assumption | refine Ext.trans ?_ (by with_reducible assumption) | refine Ext.alloc ?_ _ _ | refine Ext.drew ?_ | refine Ext.drewN ?_ _)))) ?_)
    refine hK.out _ _ HH.out (fun hHeld => ?_)
    clear hK K HH
    have HH : Hid (Mod (fun x => x = g) W0 _) := hHeld
    clear hHeld
    change wpAnyH _ _ _ _ _ _ _ (Act.put _ (some 128) _) _
    simp only [Act.put, List.setIfInBounds_toArray, List.set_cons_zero, List.set_cons_succ]
    refine wpAnyH_take (i := 6) (v := ?_) rfl (by kernel_rfl) (by kernel_rfl) (by kernel_rfl) (fun _ _ _ h => h) (Or.inl ⟨by rfl, ?_⟩) HH.out ?_
    rotate_left
    · intro w hSw; go_simp; try with_reducible rfl
    change wpAnyH _ _ _ _ _ _ _ (Act.put _ (some 131) _) _
    simp only [Act.put, List.setIfInBounds_toArray, List.set_cons_zero, List.set_cons_succ]
    refine wpAnyH_take (i := 7) (v := ?_) rfl (by kernel_rfl) (by kernel_rfl) (by kernel_rfl) (fun _ _ _ h => h) (Or.inl ⟨by rfl, ?_⟩) HH.out ?_
    rotate_left
    · intro w hSw; go_simp; try with_reducible rfl
    change wpAnyH _ _ _ _ _ _ _ (Act.put _ (some 132) _) _
    simp only [Act.put, List.setIfInBounds_toArray, List.set_cons_zero, List.set_cons_succ]
    refine wpAnyH_take (i := 8) (v := ?_) rfl (by kernel_rfl) (by kernel_rfl) (by kernel_rfl) (fun _ _ _ h => h) (Or.inl ⟨by rfl, ?_⟩) HH.out ?_
    rotate_left
    · intro w hSw; go_simp; try with_reducible rfl
    change wpAnyH _ _ _ _ _ _ _ (Act.put _ (some 133) _) _
    simp only [Act.put, List.setIfInBounds_toArray, List.set_cons_zero, List.set_cons_succ]
    refine wpAnyH_ready (rs := [9]) (by kernel_rfl) (by simp) ?_
    refine AllReadyH.cons rfl (fun K hK => ?_) AllReadyH.nil
    refine step_any rfl (op_store1 rfl onet26q rfl rfl rfl (h31.v.blk.ext (by (repeat (first | with_reducible exact Ext.refl _ | with_reducible assumption | refine Ext.trans ?_ (by with_reducible assumption) | refine Ext.alloc ?_ _ _ | refine Ext.drew ?_ | refine Ext.drewN ?_ _)))) (by omega) ?_)
    rintro W33 b33 m33
    refine hK.out _ _ ?_ (fun hHeld => ?_)
    · exact HH.out.trans m33
    clear hK K HH
    have HH : Hid (Mod (fun x => x = g) W0 _) := hHeld
    clear hHeld
    change wpAnyH _ _ _ _ _ _ _ (Act.put _ none _) _
    simp only [Act.put, List.setIfInBounds_toArray, List.set_cons_zero, List.set_cons_succ]
    refine wpAnyH_done (by kernel_rfl) ?_ _
    have E33 : Ext w30 W0.drew := hW1.trans hW0.drew
    obtain ⟨h33, s33⟩ := (h31.ext E33).setGas (f := { f with gas := f.gas - sg }) (rest := rest) rfl gs hgsl m33 b33
    have HSt := mSettleP h33 (f := { f with gas := gs }) (rest := rest) rfl 6 1 0 (by show 6 ≤ f.stack.length; exact hl) (by show f.stack.length - 6 < 64; omega) pos256 (by show f.pc + 1 ≤ 60000; omega)
    rw [wv0] at HSt
    clear HH
    go_wp2_with (go_at_call 268; refine HSt.mono ?_; rintro e w48 ⟨rfl, c9, h9, s9⟩)
    refine post_voidq (fn := Hvah.f212) rfl rfl ?_
    have ee := ep250 (st := st) hpo et.out hsg.out
    rw [show f.gas - sg + (sg) = gs by rw [hgl9.out, hcgl.out]; exact hgs.out] at ee
    refine ⟨rfl, own7, c9, V2, ?_, s31.trans ((MStep.ext E33).trans (s33.trans s9)), hV2⟩
    rw [ee]
    exact h9
end
end Go.Proofs.YgvahwGreat
