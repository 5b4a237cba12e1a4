import Derived.Test.YgvahwGreatOin0T0
namespace Go.Proofs.YgvahwGreat
open Go.RowKit
set_option linter.unusedSimpArgs false
section
variable {own : Nat → Nat} {w : World} {g : Nat} {c : Nat → Value} {V : EV} {st : ASt} {sn stale : List Nat} {s : Nat} {f : AFrame} {rest : List AFrame}
set_option maxRecDepth 100000 in
set_option maxHeartbeats 6400000 in
theorem mEnd_n1f_T0 {out : List Nat} {v : Value} (h : MRep own w g c V st (s :: sn) stale) (hst : st.frames = f :: []) (hph : st.phase = 1) (hv : NL (Mu own) w v out) (hmd : createsA f.kind = false) : Calls Hvah.prog 195 #[.pointer (some ⟨g, 0, none⟩), .int .u8 (1 : Nat), v] w fun e w' => e = .returned (.tuple #[]) ∧ ∃ own' c', MRep own' w' g c' (V.revertTo s) { st with now := f.saved, ret := out, frames := [], phase := 2, status := 1, left := f.gas } sn (f.mem ++ stale) ∧ MStep own w own' w' := by
  obtain ⟨hfr, hr7⟩ := h.frame hst
  have hgl := hfr.ok.gas
  have ht := h.m.top
  rw [hst, List.length_cons] at ht
  have HR := fun W (hW : Ext w W) => mRun (h.ext hW) hst hph
  have KB := fun W (hW : Ext w W) => h.v.blk.ext hW
  have kG := hfr.gas
  have kK := hfr.kind
  have kS := hfr.snap
  have HCr := fun W => mCreates f.kind W (by have := hfr.ok.kind; omega)
  rw [hmd] at HCr
  have hsn := h.snl s (List.mem_cons_self ..)
  have hnM := h.v.nM
  have hsn0 : sn = [] := by
    have := h.m.frs.len
    rw [hst] at this
    simpa using this
  subst hsn0
  simp only [List.length_nil, Nat.zero_mul, Nat.add_zero, Nat.reduceAdd] at HR kG kK kS ht
  obtain ⟨vo, vc, rfl, i1, i2, i3⟩ := hv
  have hv : NL (Mu own) w (.slice vo out.length vc) out := ⟨vo, vc, rfl, i1, i2, i3⟩
  obtain ⟨lo, hlo9⟩ : ∃ l, Hid (out.length = l) := ⟨_, rfl⟩
  rw [hlo9.out] at hv i1
  rw [hlo9.out]
  go_enter Hvah.func195, Hvah.ntmps195
  go_upto_region 14 with (first | (go_at_call 192; refine (HR _ (by (repeat (first | with_reducible exact Ext.refl _ | with_reducible assumption | refine Ext.trans ?_ (by with_reducible assumption) | refine Ext.alloc ?_ _ _ | refine Ext.drew ?_ | refine Ext.drewN ?_ _)))).mono ?_; rintro e w1 ⟨rfl, he⟩) | ((with_reducible (refine Veil.out ?_; apply wl_load1 onel26)); (case hx => rfl); (case hB => exact KB _ (by (repeat (first | with_reducible exact Ext.refl _ | with_reducible assumption | refine Ext.trans ?_ (by with_reducible assumption) | refine Ext.alloc ?_ _ _ | refine Ext.drew ?_ | refine Ext.drewN ?_ _)))); (case ho => omega); rw [kG]) | ((with_reducible (refine Veil.out ?_; apply wl_load1 onel5)); (case hx => rfl); (case hB => exact KB _ (by (repeat (first | with_reducible exact Ext.refl _ | with_reducible assumption | refine Ext.trans ?_ (by with_reducible assumption) | refine Ext.alloc ?_ _ _ | refine Ext.drew ?_ | refine Ext.drewN ?_ _)))); (case ho => omega); rw [kK]) | (go_at_call 189; refine (HCr _).mono ?_; rintro e w1 ⟨rfl, hww⟩; replace hww := hww.symm; subst hww))
  have k10 : c 10 = .int .u8 (0 + 1 : Nat) := by have := h.m.mem.top; rw [List.length_map] at this; exact this.trans (by rw [hst]; rfl)
  refine w_ext ?_
  rintro W0 hW0
  have h0 := h.ext (show Ext w W0 by (repeat (first | with_reducible exact Ext.refl _ | with_reducible assumption | refine Ext.trans ?_ (by with_reducible assumption) | refine Ext.alloc ?_ _ _ | refine Ext.drew ?_ | refine Ext.drewN ?_ _)))
  refine wp_region_held_drew (S := fun w' => CellS g c w') (by kernel_rfl) (CellS.of (h0.v.blk.ext (Ext.refl _).drew) (fun _ _ _ => rfl)) (fun hHeld => ?_)
  have HH : Hid (CellS g c _) := hHeld
  clear hHeld
  refine wpAnyH_take (i := 0) (v := ?_) rfl (by kernel_rfl) (by kernel_rfl) (by kernel_rfl) (fun _ _ _ h => h) (Or.inl ⟨by rfl, ?_⟩) HH.out ?_
  rotate_left
  · intro w hSw; go_simp; try with_reducible rfl
  change wpAnyH _ _ _ _ _ _ _ (Act.put _ (some 60) _) _
  simp only [Act.put, List.setIfInBounds_toArray, List.set_cons_zero, List.set_cons_succ]
  refine wpAnyH_take (i := 1) (v := ?_) rfl (by kernel_rfl) (by kernel_rfl) (by kernel_rfl) (fun _ _ _ h => h) (Or.inl ⟨by rfl, ?_⟩) HH.out ?_
  rotate_left
  · intro w hSw; go_simp; try with_reducible rfl
  change wpAnyH _ _ _ _ _ _ _ (Act.put _ (some 61) _) _
  simp only [Act.put, List.setIfInBounds_toArray, List.set_cons_zero, List.set_cons_succ]
  refine wpAnyH_take (i := 2) (v := ?_) rfl (by kernel_rfl) (by kernel_rfl) (by kernel_rfl) (fun _ _ _ h => h) (Or.inl ⟨by rfl, ?_⟩) HH.out ?_
  rotate_left
  · intro w hSw; go_simp; try with_reducible rfl
  change wpAnyH _ _ _ _ _ _ _ (Act.put _ (some 62) _) _
  simp only [Act.put, List.setIfInBounds_toArray, List.set_cons_zero, List.set_cons_succ]
  refine wpAnyH_take (i := 3) (v := ?_) rfl (by kernel_rfl) (by kernel_rfl) (by kernel_rfl) (fun _ _ _ h => h) (Or.inl ⟨by rfl, ?_⟩) HH.out ?_
  rotate_left
  · intro w hSw; go_simp; try with_reducible rfl
  change wpAnyH _ _ _ _ _ _ _ (Act.put _ (some 63) _) _
  simp only [Act.put, List.setIfInBounds_toArray, List.set_cons_zero, List.set_cons_succ]
  refine wpAnyH_take (i := 4) (v := ?_) rfl (by kernel_rfl) (by kernel_rfl) (by kernel_rfl) (fun _ _ _ h => h) (Or.inl ⟨by rfl, ?_⟩) HH.out ?_
  rotate_left
  · intro w hSw; go_simp; try with_reducible rfl
  change wpAnyH _ _ _ _ _ _ _ (Act.put _ (some 64) _) _
  simp only [Act.put, List.setIfInBounds_toArray, List.set_cons_zero, List.set_cons_succ]
  refine wpAnyH_take (i := 5) (v := ?_) rfl (by kernel_rfl) (by kernel_rfl) (by kernel_rfl) (fun _ _ _ h => h) (Or.inl ⟨by rfl, ?_⟩) HH.out ?_
  rotate_left
  · intro w hSw; go_simp; try with_reducible rfl
  change wpAnyH _ _ _ _ _ _ _ (Act.put _ (some 65) _) _
  simp only [Act.put, List.setIfInBounds_toArray, List.set_cons_zero, List.set_cons_succ]
  refine wpAnyH_take (i := 6) rfl (by kernel_rfl) (by kernel_rfl) (by kernel_rfl) (fun _ _ _ h => h) (yieldsIf_load1 (by rfl) _ _ rfl _ _ rfl onet60 _ (fun w hSw => by rw [hSw 0 (by decide) (by decide), h0.m.ptr])) HH.out ?_
  change wpAnyH _ _ _ _ _ _ _ (Act.put _ (some 66) _) _
  simp only [Act.put, List.setIfInBounds_toArray, List.set_cons_zero, List.set_cons_succ]
  refine wpAnyH_take (i := 7) (v := ?_) rfl (by kernel_rfl) (by kernel_rfl) (by kernel_rfl) (fun _ _ _ h => h) (Or.inl ⟨by rfl, ?_⟩) HH.out ?_
  rotate_left
  · intro w hSw; go_simp; try with_reducible rfl
  change wpAnyH _ _ _ _ _ _ _ (Act.put _ (some 67) _) _
  simp only [Act.put, List.setIfInBounds_toArray, List.set_cons_zero, List.set_cons_succ]
  refine wpAnyH_take (i := 8) (v := ?_) rfl (by kernel_rfl) (by kernel_rfl) (by kernel_rfl) (fun _ _ _ h => h) (Or.inl ⟨by rfl, ?_⟩) HH.out ?_
  rotate_left
  · intro w hSw; go_simp; try with_reducible rfl
  change wpAnyH _ _ _ _ _ _ _ (Act.put _ (some 68) _) _
  simp only [Act.put, List.setIfInBounds_toArray, List.set_cons_zero, List.set_cons_succ]
  refine wpAnyH_take (i := 9) (v := ?_) rfl (by kernel_rfl) (by kernel_rfl) (by kernel_rfl) (fun _ _ _ h => h) (Or.inl ⟨by rfl, ?_⟩) HH.out ?_
  rotate_left
  · intro w hSw; go_simp; try with_reducible rfl
  change wpAnyH _ _ _ _ _ _ _ (Act.put _ (some 69) _) _
  simp only [Act.put, List.setIfInBounds_toArray, List.set_cons_zero, List.set_cons_succ]
  refine wpAnyH_take (i := 10) rfl (by kernel_rfl) (by kernel_rfl) (by kernel_rfl) (fun _ _ _ h => h) (yieldsIf_load1 (by rfl) _ _ rfl _ _ rfl onel21 _ (fun w hSw => by rw [hSw _ (by omega) (by omega), kS])) HH.out ?_
  change wpAnyH _ _ _ _ _ _ _ (Act.put _ (some 70) _) _
  simp only [Act.put, List.setIfInBounds_toArray, List.set_cons_zero, List.set_cons_succ]
  refine wpAnyH_ready (rs := [11]) (by kernel_rfl) (by simp) ?_
  refine AllReadyH.cons rfl (fun K hK => ?_) AllReadyH.nil
  go_simp
  go_at_call 258; refine (vRevertTo (h0.v.ext (by (repeat (first | with_reducible exact Ext.refl _ | with_reducible assumption | refine Ext.trans ?_ (by with_reducible assumption) | refine Ext.alloc ?_ _ _ | refine Ext.drew ?_ | refine Ext.drewN ?_ _)))) h0.jok hsn).mono ?_; rintro e w6 ⟨rfl, c6, h6, k6⟩; have kT : VStep own W0 c own w6 c6 := (VStep.ext (show Ext W0 _ by (repeat (first | with_reducible exact Ext.refl _ | with_reducible assumption | refine Ext.trans ?_ (by with_reducible assumption) | refine Ext.alloc ?_ _ _ | refine Ext.drew ?_ | refine Ext.drewN ?_ _)))).trans k6; have hT := h6.blk; have hTc : ∀ i, i < 2435 → i ≠ 10 → c6 i = c i := fun i hi _ => kT.far i (Or.inl hi)
  refine hK.out _ _ ?_ (fun hHeld => ?_)
  · first | exact CellS.of hT hTc | exact HH.out.ext he (by have := h0.v.blk.lt; have := Ext.size (show Ext W0 _ by assumption); omega)
  clear hK K HH
  have HH : Hid (CellS g c _) := hHeld
  clear hHeld
  refine wpAnyH_take (i := 12) (v := ?_) rfl (by kernel_rfl) (by kernel_rfl) (by kernel_rfl) (fun _ _ _ h => h) (Or.inl ⟨by rfl, ?_⟩) HH.out ?_
  rotate_left
  · intro w hSw; go_simp; try with_reducible rfl
  change wpAnyH _ _ _ _ _ _ _ (Act.put _ (some 72) _) _
  simp only [Act.put, List.setIfInBounds_toArray, List.set_cons_zero, List.set_cons_succ]
  refine wpAnyH_take (i := 13) (v := ?_) rfl (by kernel_rfl) (by kernel_rfl) (by kernel_rfl) (fun _ _ _ h => h) (Or.inl ⟨by rfl, ?_⟩) HH.out ?_
  rotate_left
  · intro w hSw; go_simp; try with_reducible rfl
  change wpAnyH _ _ _ _ _ _ _ (Act.put _ (some 73) _) _
  simp only [Act.put, List.setIfInBounds_toArray, List.set_cons_zero, List.set_cons_succ]
  refine wpAnyH_take (i := 14) (v := ?_) rfl (by kernel_rfl) (by kernel_rfl) (by kernel_rfl) (fun _ _ _ h => h) (Or.inl ⟨by rfl, ?_⟩) HH.out ?_
  rotate_left
  · intro w hSw; go_simp; try with_reducible rfl
  change wpAnyH _ _ _ _ _ _ _ (Act.put _ (some 74) _) _
  simp only [Act.put, List.setIfInBounds_toArray, List.set_cons_zero, List.set_cons_succ]
  refine wpAnyH_take (i := 15) (v := ?_) rfl (by kernel_rfl) (by kernel_rfl) (by kernel_rfl) (fun _ _ _ h => h) (Or.inl ⟨by rfl, ?_⟩) HH.out ?_
  rotate_left
  · intro w hSw; go_simp; try with_reducible rfl
  change wpAnyH _ _ _ _ _ _ _ (Act.put _ (some 75) _) _
  simp only [Act.put, List.setIfInBounds_toArray, List.set_cons_zero, List.set_cons_succ]
  refine wpAnyH_take (i := 16) (v := ?_) rfl (by kernel_rfl) (by kernel_rfl) (by kernel_rfl) (fun _ _ _ h => h) (Or.inl ⟨by rfl, ?_⟩) HH.out ?_
  rotate_left
  · intro w hSw; go_simp; try with_reducible rfl
  change wpAnyH _ _ _ _ _ _ _ (Act.put _ (some 76) _) _
  simp only [Act.put, List.setIfInBounds_toArray, List.set_cons_zero, List.set_cons_succ]
  refine wpAnyH_take (i := 17) (v := ?_) rfl (by kernel_rfl) (by kernel_rfl) (by kernel_rfl) (fun _ _ _ h => h) (Or.inl ⟨by rfl, ?_⟩) HH.out ?_
  rotate_left
  · intro w hSw; go_simp; try with_reducible rfl
  change wpAnyH _ _ _ _ _ _ _ (Act.put _ (some 77) _) _
  simp only [Act.put, List.setIfInBounds_toArray, List.set_cons_zero, List.set_cons_succ]
  refine wpAnyH_ready (rs := [18]) (by kernel_rfl) (by simp) ?_
  refine AllReadyH.cons rfl (fun K hK => ?_) AllReadyH.nil
  go_simp
  go_at_call 265; refine (aLeave g 0 c6 _ h6.blk (by omega) ((kT.far 10 (Or.inl (by decide))).trans k10)).mono ?_; rintro e w7 ⟨rfl, b7, m7⟩; clear hT hTc; have hT := b7; have hTc : ∀ i, i < 2435 → i ≠ 10 → updv c6 10 (.int .u8 (0 : Nat)) i = c i := fun i hi h10 => (updv_ne _ _ h10).trans (kT.far i (Or.inl hi))
  refine hK.out _ _ ?_ (fun hHeld => ?_)
  · first | exact CellS.of hT hTc | exact HH.out.ext he (by have := h0.v.blk.lt; have := Ext.size (show Ext W0 _ by assumption); omega)
  clear hK K HH
  have HH : Hid (CellS g c _) := hHeld
  clear hHeld
  refine wpAnyH_take (i := 19) (v := ?_) rfl (by kernel_rfl) (by kernel_rfl) (by kernel_rfl) (fun _ _ _ h => h) (Or.inl ⟨by rfl, ?_⟩) HH.out ?_
  rotate_left
  · intro w hSw; go_simp; try with_reducible rfl
  change wpAnyH _ _ _ _ _ _ _ (Act.put _ (some 79) _) _
  simp only [Act.put, List.setIfInBounds_toArray, List.set_cons_zero, List.set_cons_succ]
  refine wpAnyH_take (i := 20) (v := ?_) rfl (by kernel_rfl) (by kernel_rfl) (by kernel_rfl) (fun _ _ _ h => h) (Or.inl ⟨by rfl, ?_⟩) HH.out ?_
  rotate_left
  · intro w hSw; go_simp; try with_reducible rfl
  change wpAnyH _ _ _ _ _ _ _ (Act.put _ (some 80) _) _
  simp only [Act.put, List.setIfInBounds_toArray, List.set_cons_zero, List.set_cons_succ]
  refine wpAnyH_done (by kernel_rfl) ?_ _
  have kW : VStep own w c own w6 c6 := (VStep.ext (show Ext w W0 by (repeat (first | with_reducible exact Ext.refl _ | with_reducible assumption | refine Ext.trans ?_ (by with_reducible assumption) | refine Ext.alloc ?_ _ _ | refine Ext.drew ?_ | refine Ext.drewN ?_ _)))).trans kT
  have kV : VStep own w c own w7 c6 := kW.trans ⟨fun _ _ => rfl, fun _ _ => rfl, m7.sub (fun x hx => by rw [hx, h.v.tag]; exact ⟨by decide, by decide⟩)⟩
  have hG := h.goneBack hst
  have hvX : VRep own w7 g _ (V.revertTo s) := h6.low b7 (fun i hi => updv_ne _ _ (by omega)) m7
  have hcl : ∀ i, i < 2435 → i ≠ 10 → updv c6 10 (.int .u8 (0 : Nat)) i = c i := fun i hi h10 => (updv_ne _ _ h10).trans (kT.far i (Or.inl hi))
  have hbt : updv c6 10 (.int .u8 (0 : Nat)) 27023 = c 27023 := (updv_ne _ _ (by decide)).trans (kT.far _ (Or.inr (by decide)))
  obtain ⟨c8, hc8⟩ : ∃ x, Hid (updv c6 10 (.int .u8 (0 : Nat)) = x) := ⟨_, rfl⟩
  have h108 : c8 10 = .int .u8 (0 : Nat) := by rw [← hc8.out, updv_same]
  rw [hc8.out] at b7 hvX hcl hbt
  have ht8 : c8 2258 = .int .i8 (((0 + 1 : Nat) : Int) - 1) := (hcl _ (by decide) (by decide)).trans ht
  have e8 : ((0 + 1 : Nat) : Int) - 1 = (0 : Nat) := by omega
  rw [e8] at ht8
  obtain ⟨w8a, w8b⟩ := i8_small (n := 0) (by omega)
  clear HH
  go_upto_region 17 with (first | ((with_reducible (refine Veil.out ?_; apply wl_storeC (v := (.slice vo lo vc)) one32)); (case hx => rfl); (case hy => rfl); (case h1 => rfl); (case hB => exact b7.ext (by (repeat (first | with_reducible exact Ext.refl _ | with_reducible assumption | refine Ext.trans ?_ (by with_reducible assumption) | refine Ext.alloc ?_ _ _ | refine Ext.drew ?_ | refine Ext.drewN ?_ _)))); (case hi => decide); rintro W9 b9 m9; have M9 : Mod (· = g) w7 W9 := (Ext.mod (show Ext w7 _ by (repeat (first | with_reducible exact Ext.refl _ | with_reducible assumption | refine Ext.trans ?_ (by with_reducible assumption) | refine Ext.alloc ?_ _ _ | refine Ext.drew ?_ | refine Ext.drewN ?_ _))) _).trans m9))
  go_upto_region 18 with (first | ((with_reducible (refine Veil.out ?_; apply wl_load1 onel74)); (case hx => rfl); (case hB => exact b9.ext (by (repeat (first | with_reducible exact Ext.refl _ | with_reducible assumption | refine Ext.trans ?_ (by with_reducible assumption) | refine Ext.alloc ?_ _ _ | refine Ext.drew ?_ | refine Ext.drewN ?_ _)))); (case ho => decide); rw [updv_ne _ _ (by decide), ht8]) | ((with_reducible (refine Veil.out ?_; apply wl_storeC (v := .int .i8 (((0 : Nat) : Int) - 1)) onel74)); (case hx => rfl); (case hy => rfl); (case h1 => rfl); (case hB => exact b9.ext (by (repeat (first | with_reducible exact Ext.refl _ | with_reducible assumption | refine Ext.trans ?_ (by with_reducible assumption) | refine Ext.alloc ?_ _ _ | refine Ext.drew ?_ | refine Ext.drewN ?_ _)))); (case hi => decide); rintro W10 b10 m10))
  have M10 : Mod (· = g) w7 W10 := (M9.trans_ext (show Ext W9 _ by (repeat (first | with_reducible exact Ext.refl _ | with_reducible assumption | refine Ext.trans ?_ (by with_reducible assumption) | refine Ext.alloc ?_ _ _ | refine Ext.drew ?_ | refine Ext.drewN ?_ _)))).trans m10
  have kX : VStep own w c own W10 c6 := kV.trans ⟨fun _ _ => rfl, fun _ _ => rfl, M10.sub (fun x hx => by rw [hx, hvX.tag]; exact ⟨by decide, by decide⟩)⟩
  have hvY := hvX.low b10 (fun i hi => by rw [updv_ne _ _ (by omega), updv_ne _ _ (by omega)]) M10
  have hL := h.left_ (o := out) hst hph hG hvY kX (fun i h1 h2 h3 h4 => by rw [updv_ne _ _ h3, updv_ne _ _ h4]; exact hcl i h1 h2) (by rw [updv_ne _ _ (by decide), updv_ne _ _ (by decide)]; exact hbt) (by rw [updv_ne _ _ (by decide), updv_ne _ _ (by decide)]; exact h108) (by rw [updv_same]; rfl) (by rw [updv_ne _ _ (by decide), updv_same]; exact kX.nl hv)
  obtain ⟨c10, hc10⟩ : ∃ x, Hid (updv (updv c8 2259 (.slice vo lo vc)) 2258 (.int .i8 (((0 : Nat) : Int) - 1)) = x) := ⟨_, rfl⟩
  have ht10 : c10 2258 = .int .i8 (((0 : Nat) : Int) - 1) := by rw [← hc10.out, updv_same]
  have hcf : ∀ i, i < 2435 → i ≠ 10 → i ≠ 2258 → i ≠ 2259 → c10 i = c i := fun i h1 h2 h3 h4 => by rw [← hc10.out, updv_ne _ _ h3, updv_ne _ _ h4]; exact hcl i h1 h2
  have hr10 : c10 2259 = (.slice vo lo vc) := by rw [← hc10.out, updv_ne _ _ (by decide), updv_same]
  rw [hc10.out] at b10 hL
  have mX := MStep.ofV kX
  clear hvX hvY hcl hbt m9 m10 M9 M10 b7 b9 kV kX h108 ht8 hG hc8 hc10 m7
  go_upto_region 20 with (first | ((with_reducible (refine Veil.out ?_; apply wl_load1 onel74)); (case hx => rfl); (case hB => exact b10.ext (by (repeat (first | with_reducible exact Ext.refl _ | with_reducible assumption | refine Ext.trans ?_ (by with_reducible assumption) | refine Ext.alloc ?_ _ _ | refine Ext.drew ?_ | refine Ext.drewN ?_ _)))); (case ho => decide); rw [ht10]) | ((with_reducible (refine Veil.out ?_; apply wl_storeC (v := .int .u8 2) onel5)); (case hx => rfl); (case hy => rfl); (case h1 => rfl); (case hB => exact b10.ext (by (repeat (first | with_reducible exact Ext.refl _ | with_reducible assumption | refine Ext.trans ?_ (by with_reducible assumption) | refine Ext.alloc ?_ _ _ | refine Ext.drew ?_ | refine Ext.drewN ?_ _)))); (case hi => decide); rintro W11 b11 m11))
  go_upto_region 21 with (first | ((with_reducible (refine Veil.out ?_; apply wl_storeC (v := .int .u8 (1 : Nat)) onel5)); (case hx => rfl); (case hy => rfl); (case h1 => rfl); (case hB => exact b11.ext (by (repeat (first | with_reducible exact Ext.refl _ | with_reducible assumption | refine Ext.trans ?_ (by with_reducible assumption) | refine Ext.alloc ?_ _ _ | refine Ext.drew ?_ | refine Ext.drewN ?_ _)))); (case hi => decide); rintro W12 b12 m12))
  go_wp2_with (first | ((with_reducible (refine Veil.out ?_; apply wl_storeC (v := .int .u64 (f.gas : Nat)) onel26)); (case hx => rfl); (case hy => rfl); (case h1 => rfl); (case hB => exact b12.ext (by (repeat (first | with_reducible exact Ext.refl _ | with_reducible assumption | refine Ext.trans ?_ (by with_reducible assumption) | refine Ext.alloc ?_ _ _ | refine Ext.drew ?_ | refine Ext.drewN ?_ _)))); (case hi => decide); rintro W13 b13 m13))
  refine bodyPost_ret (results_none rfl _ _ _) rfl ?_
  have M13 : Mod (· = g) W10 W13 := (((((Ext.mod (show Ext W10 _ by (repeat (first | with_reducible exact Ext.refl _ | with_reducible assumption | refine Ext.trans ?_ (by with_reducible assumption) | refine Ext.alloc ?_ _ _ | refine Ext.drew ?_ | refine Ext.drewN ?_ _))) _).trans m11).trans_ext (show Ext W11 _ by (repeat (first | with_reducible exact Ext.refl _ | with_reducible assumption | refine Ext.trans ?_ (by with_reducible assumption) | refine Ext.alloc ?_ _ _ | refine Ext.drew ?_ | refine Ext.drewN ?_ _)))).trans m12).trans_ext (show Ext W12 _ by (repeat (first | with_reducible exact Ext.refl _ | with_reducible assumption | refine Ext.trans ?_ (by with_reducible assumption) | refine Ext.alloc ?_ _ _ | refine Ext.drew ?_ | refine Ext.drewN ?_ _)))).trans m13
  obtain ⟨hE, sE⟩ := hL.ended (lf := f.gas) (sts := 1) rfl M13 b13 (fun i h1 h2 h3 => by rw [updv_ne _ _ h1, updv_ne _ _ h3, updv_ne _ _ h2]) (by rw [updv_ne _ _ (by decide), updv_ne _ _ (by decide), updv_same]) (by rw [updv_ne _ _ (by decide), updv_same]) (by first | decide | omega) (by rw [updv_same]) (by omega)
  exact ⟨rfl, _, _, hE, mX.trans sE⟩
end
end Go.Proofs.YgvahwGreat
