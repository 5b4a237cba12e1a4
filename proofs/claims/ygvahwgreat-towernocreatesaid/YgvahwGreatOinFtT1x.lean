import Derived.Test.YgvahwGreatOin0T0
namespace Go.Proofs.YgvahwGreat
open Go.RowKit
set_option linter.unusedSimpArgs false
section
variable {own : Nat → Nat} {w : World} {g : Nat} {c : Nat → Value} {V : EV} {st : ASt} {sn stale : List Nat} {s : Nat} {f : AFrame} {rest : List AFrame}
set_option maxRecDepth 100000 in
set_option maxHeartbeats 6400000 in
theorem mEnd_nFt_T1x {p : AFrame} {out : List Nat} {v : Value} (h : MRep own w g c V st (s :: sn) stale) (hst : st.frames = f :: (p :: rest)) (hph : st.phase = 1) (hv : NL (Mu own) w v out) (hmd : createsA f.kind = true) (sx : Nat) (hsx : 1 < sx) (hsx2 : sx < 256) (hn1 : 0 < p.outLen) (hpg : p.gas + 0 ≤ 1048576) (hps : p.stack.length < 64) (hpp : p.pc ≤ 50000) : Calls Hvah.prog 195 #[.pointer (some ⟨g, 0, none⟩), .int .u8 (sx : Nat), v] w fun e w' => e = .returned (.tuple #[]) ∧ ∃ own' c', MRep own' w' g c' (V.revertTo s) { st with now := f.saved, ret := [], frames := ({ p with gas := p.gas + 0, mem := p.mem } : AFrame).settle 0 [0] 1 :: rest } sn (f.mem ++ stale) ∧ MStep own w own' w' := by
  obtain ⟨hfr, hr7⟩ := h.frame hst
  have hgl := hfr.ok.gas
  have ht := h.m.top
  rw [hst, List.length_cons] at ht
  have HR := fun W (hW : Ext w W) => mRun (h.ext hW) hst hph
  have KB := fun W (hW : Ext w W) => h.v.blk.ext hW
  have kG := hfr.gas
  have kK := hfr.kind
  have kS := hfr.snap
  have HCr := fun W => mCreates f.kind W (by have := hfr.ok.kind; omega)
  rw [hmd] at HCr
  have hsn := h.snl s (List.mem_cons_self ..)
  have hnM := h.v.nM
  obtain ⟨s2, sn2, rfl⟩ : ∃ a b, sn = a :: b := by
    have := h.m.frs.len
    rw [hst] at this
    cases sn with
    | nil => simp at this
    | cons a b => exact ⟨a, b, rfl⟩
  simp only [List.length_cons] at HR kG kK kS ht hr7
  obtain ⟨vo, vc, rfl, i1, i2, i3⟩ := hv
  have hv : NL (Mu own) w (.slice vo out.length vc) out := ⟨vo, vc, rfl, i1, i2, i3⟩
  obtain ⟨lo, hlo9⟩ : ∃ l, Hid (out.length = l) := ⟨_, rfl⟩
  rw [hlo9.out] at hv i1
  rw [hlo9.out]
  have zs : ((sx : Int) == 0) = false := by simp; omega
  have zs1 : (1 : Int) < sx := by omega
  have zs2 : ((sx : Int) != 0) = true := by simp; omega
  go_enter Hvah.func195, Hvah.ntmps195
  go_upto_region 14 with (first | (go_at_call 192; refine (HR _ (by (repeat (first | with_reducible exact Ext.refl _ | with_reducible assumption | refine Ext.trans ?_ (by with_reducible assumption) | refine Ext.alloc ?_ _ _ | refine Ext.drew ?_ | refine Ext.drewN ?_ _)))).mono ?_; rintro e w1 ⟨rfl, he⟩) | ((with_reducible (refine Veil.out ?_; apply wl_load1 onel26)); (case hx => rfl); (case hB => exact KB _ (by (repeat (first | with_reducible exact Ext.refl _ | with_reducible assumption | refine Ext.trans ?_ (by with_reducible assumption) | refine Ext.alloc ?_ _ _ | refine Ext.drew ?_ | refine Ext.drewN ?_ _)))); (case ho => omega); rw [kG]) | ((with_reducible (refine Veil.out ?_; apply wl_load1 onel5)); (case hx => rfl); (case hB => exact KB _ (by (repeat (first | with_reducible exact Ext.refl _ | with_reducible assumption | refine Ext.trans ?_ (by with_reducible assumption) | refine Ext.alloc ?_ _ _ | refine Ext.drew ?_ | refine Ext.drewN ?_ _)))); (case ho => omega); rw [kK]) | (go_at_call 189; refine (HCr _).mono ?_; rintro e w1 ⟨rfl, hww⟩; replace hww := hww.symm; subst hww))
  have k10 : c 10 = .int .u8 ((rest.length + 1) + 1 : Nat) := by have := h.m.mem.top; rw [List.length_map] at this; exact this.trans (by rw [hst]; rfl)
  refine w_ext ?_
  rintro W0 hW0
  have h0 := h.ext (show Ext w W0 by (repeat (first | with_reducible exact Ext.refl _ | with_reducible assumption | refine Ext.trans ?_ (by with_reducible assumption) | refine Ext.alloc ?_ _ _ | refine Ext.drew ?_ | refine Ext.drewN ?_ _)))
  refine wp_region_held_drew (S := fun w' => CellS g c w') (by kernel_rfl) (CellS.of (h0.v.blk.ext (Ext.refl _).drew) (fun _ _ _ => rfl)) (fun hHeld => ?_)
  have HH : Hid (CellS g c _) := hHeld
  clear hHeld
  refine wpAnyH_take (i := 0) (v := ?_) rfl (by kernel_rfl) (by kernel_rfl) (by kernel_rfl) (fun _ _ _ h => h) (Or.inl ⟨by rfl, ?_⟩) HH.out ?_
  rotate_left
  · intro w hSw; go_simp; try with_reducible rfl
  change wpAnyH _ _ _ _ _ _ _ (Act.put _ (some 60) _) _
  simp only [Act.put, List.setIfInBounds_toArray, List.set_cons_zero, List.set_cons_succ]
  refine wpAnyH_take (i := 1) (v := ?_) rfl (by kernel_rfl) (by kernel_rfl) (by kernel_rfl) (fun _ _ _ h => h) (Or.inl ⟨by rfl, ?_⟩) HH.out ?_
  rotate_left
  · intro w hSw; go_simp; try with_reducible rfl
  change wpAnyH _ _ _ _ _ _ _ (Act.put _ (some 61) _) _
  simp only [Act.put, List.setIfInBounds_toArray, List.set_cons_zero, List.set_cons_succ]
  refine wpAnyH_take (i := 2) (v := ?_) rfl (by kernel_rfl) (by kernel_rfl) (by kernel_rfl) (fun _ _ _ h => h) (Or.inl ⟨by rfl, ?_⟩) HH.out ?_
  rotate_left
  · intro w hSw; go_simp; try with_reducible rfl
  change wpAnyH _ _ _ _ _ _ _ (Act.put _ (some 62) _) _
  simp only [Act.put, List.setIfInBounds_toArray, List.set_cons_zero, List.set_cons_succ]
  refine wpAnyH_take (i := 3) (v := ?_) rfl (by kernel_rfl) (by kernel_rfl) (by kernel_rfl) (fun _ _ _ h => h) (Or.inl ⟨by rfl, ?_⟩) HH.out ?_
  rotate_left
  · intro w hSw; go_simp; try with_reducible rfl
  change wpAnyH _ _ _ _ _ _ _ (Act.put _ (some 63) _) _
  simp only [Act.put, List.setIfInBounds_toArray, List.set_cons_zero, List.set_cons_succ]
  refine wpAnyH_take (i := 4) (v := ?_) rfl (by kernel_rfl) (by kernel_rfl) (by kernel_rfl) (fun _ _ _ h => h) (Or.inl ⟨by rfl, ?_⟩) HH.out ?_
  rotate_left
  · intro w hSw; go_simp; try with_reducible rfl
  change wpAnyH _ _ _ _ _ _ _ (Act.put _ (some 64) _) _
  simp only [Act.put, List.setIfInBounds_toArray, List.set_cons_zero, List.set_cons_succ]
  refine wpAnyH_take (i := 5) (v := ?_) rfl (by kernel_rfl) (by kernel_rfl) (by kernel_rfl) (fun _ _ _ h => h) (Or.inl ⟨by rfl, ?_⟩) HH.out ?_
  rotate_left
  · intro w hSw; go_simp; try with_reducible rfl
  change wpAnyH _ _ _ _ _ _ _ (Act.put _ (some 65) _) _
  simp only [Act.put, List.setIfInBounds_toArray, List.set_cons_zero, List.set_cons_succ]
  refine wpAnyH_take (i := 6) rfl (by kernel_rfl) (by kernel_rfl) (by kernel_rfl) (fun _ _ _ h => h) (yieldsIf_load1 (by rfl) _ _ rfl _ _ rfl onet60 _ (fun w hSw => by rw [hSw 0 (by decide) (by decide), h0.m.ptr])) HH.out ?_
  change wpAnyH _ _ _ _ _ _ _ (Act.put _ (some 66) _) _
  simp only [Act.put, List.setIfInBounds_toArray, List.set_cons_zero, List.set_cons_succ]
  refine wpAnyH_take (i := 7) (v := ?_) rfl (by kernel_rfl) (by kernel_rfl) (by kernel_rfl) (fun _ _ _ h => h) (Or.inl ⟨by rfl, ?_⟩) HH.out ?_
  rotate_left
  · intro w hSw; go_simp; try with_reducible rfl
  change wpAnyH _ _ _ _ _ _ _ (Act.put _ (some 67) _) _
  simp only [Act.put, List.setIfInBounds_toArray, List.set_cons_zero, List.set_cons_succ]
  refine wpAnyH_take (i := 8) (v := ?_) rfl (by kernel_rfl) (by kernel_rfl) (by kernel_rfl) (fun _ _ _ h => h) (Or.inl ⟨by rfl, ?_⟩) HH.out ?_
  rotate_left
  · intro w hSw; go_simp; try with_reducible rfl
  change wpAnyH _ _ _ _ _ _ _ (Act.put _ (some 68) _) _
  simp only [Act.put, List.setIfInBounds_toArray, List.set_cons_zero, List.set_cons_succ]
  refine wpAnyH_take (i := 9) (v := ?_) rfl (by kernel_rfl) (by kernel_rfl) (by kernel_rfl) (fun _ _ _ h => h) (Or.inl ⟨by rfl, ?_⟩) HH.out ?_
  rotate_left
  · intro w hSw; go_simp; try with_reducible rfl
  change wpAnyH _ _ _ _ _ _ _ (Act.put _ (some 69) _) _
  simp only [Act.put, List.setIfInBounds_toArray, List.set_cons_zero, List.set_cons_succ]
  refine wpAnyH_take (i := 10) rfl (by kernel_rfl) (by kernel_rfl) (by kernel_rfl) (fun _ _ _ h => h) (yieldsIf_load1 (by rfl) _ _ rfl _ _ rfl onel21 _ (fun w hSw => by rw [hSw _ (by omega) (by omega), kS])) HH.out ?_
  change wpAnyH _ _ _ _ _ _ _ (Act.put _ (some 70) _) _
  simp only [Act.put, List.setIfInBounds_toArray, List.set_cons_zero, List.set_cons_succ]
  refine wpAnyH_ready (rs := [11]) (by kernel_rfl) (by simp) ?_
  refine AllReadyH.cons rfl (fun K hK => ?_) AllReadyH.nil
  go_simp
  go_at_call 258; refine (vRevertTo (h0.v.ext (by (repeat (first | with_reducible exact Ext.refl _ | with_reducible assumption | refine Ext.trans ?_ (by with_reducible assumption) | refine Ext.alloc ?_ _ _ | refine Ext.drew ?_ | refine Ext.drewN ?_ _)))) h0.jok hsn).mono ?_; rintro e w6 ⟨rfl, c6, h6, k6⟩; have kT : VStep own W0 c own w6 c6 := (VStep.ext (show Ext W0 _ by (repeat (first | with_reducible exact Ext.refl _ | with_reducible assumption | refine Ext.trans ?_ (by with_reducible assumption) | refine Ext.alloc ?_ _ _ | refine Ext.drew ?_ | refine Ext.drewN ?_ _)))).trans k6; have hT := h6.blk; have hTc : ∀ i, i < 2435 → i ≠ 10 → c6 i = c i := fun i hi _ => kT.far i (Or.inl hi)
  refine hK.out _ _ ?_ (fun hHeld => ?_)
  · first | exact CellS.of hT hTc | exact HH.out.ext he (by have := h0.v.blk.lt; have := Ext.size (show Ext W0 _ by assumption); omega)
  clear hK K HH
  have HH : Hid (CellS g c _) := hHeld
  clear hHeld
  refine wpAnyH_take (i := 12) (v := ?_) rfl (by kernel_rfl) (by kernel_rfl) (by kernel_rfl) (fun _ _ _ h => h) (Or.inl ⟨by rfl, ?_⟩) HH.out ?_
  rotate_left
  · intro w hSw; go_simp; try with_reducible rfl
  change wpAnyH _ _ _ _ _ _ _ (Act.put _ (some 72) _) _
  simp only [Act.put, List.setIfInBounds_toArray, List.set_cons_zero, List.set_cons_succ]
  refine wpAnyH_take (i := 13) (v := ?_) rfl (by kernel_rfl) (by kernel_rfl) (by kernel_rfl) (fun _ _ _ h => h) (Or.inl ⟨by rfl, ?_⟩) HH.out ?_
  rotate_left
  · intro w hSw; go_simp; try with_reducible rfl
  change wpAnyH _ _ _ _ _ _ _ (Act.put _ (some 73) _) _
  simp only [Act.put, List.setIfInBounds_toArray, List.set_cons_zero, List.set_cons_succ]
  refine wpAnyH_take (i := 14) (v := ?_) rfl (by kernel_rfl) (by kernel_rfl) (by kernel_rfl) (fun _ _ _ h => h) (Or.inl ⟨by rfl, ?_⟩) HH.out ?_
  rotate_left
  · intro w hSw; go_simp; try with_reducible rfl
  change wpAnyH _ _ _ _ _ _ _ (Act.put _ (some 74) _) _
  simp only [Act.put, List.setIfInBounds_toArray, List.set_cons_zero, List.set_cons_succ]
  refine wpAnyH_take (i := 15) (v := ?_) rfl (by kernel_rfl) (by kernel_rfl) (by kernel_rfl) (fun _ _ _ h => h) (Or.inl ⟨by rfl, ?_⟩) HH.out ?_
  rotate_left
  · intro w hSw; go_simp; try with_reducible rfl
  change wpAnyH _ _ _ _ _ _ _ (Act.put _ (some 75) _) _
  simp only [Act.put, List.setIfInBounds_toArray, List.set_cons_zero, List.set_cons_succ]
  refine wpAnyH_take (i := 16) (v := ?_) rfl (by kernel_rfl) (by kernel_rfl) (by kernel_rfl) (fun _ _ _ h => h) (Or.inl ⟨by rfl, ?_⟩) HH.out ?_
  rotate_left
  · intro w hSw; go_simp; try with_reducible rfl
  change wpAnyH _ _ _ _ _ _ _ (Act.put _ (some 76) _) _
  simp only [Act.put, List.setIfInBounds_toArray, List.set_cons_zero, List.set_cons_succ]
  refine wpAnyH_take (i := 17) (v := ?_) rfl (by kernel_rfl) (by kernel_rfl) (by kernel_rfl) (fun _ _ _ h => h) (Or.inl ⟨by rfl, ?_⟩) HH.out ?_
  rotate_left
  · intro w hSw; go_simp; try with_reducible rfl
  change wpAnyH _ _ _ _ _ _ _ (Act.put _ (some 77) _) _
  simp only [Act.put, List.setIfInBounds_toArray, List.set_cons_zero, List.set_cons_succ]
  refine wpAnyH_ready (rs := [18]) (by kernel_rfl) (by simp) ?_
  refine AllReadyH.cons rfl (fun K hK => ?_) AllReadyH.nil
  go_simp
  go_at_call 265; refine (aLeave g (rest.length + 1) c6 _ h6.blk (by omega) ((kT.far 10 (Or.inl (by decide))).trans k10)).mono ?_; rintro e w7 ⟨rfl, b7, m7⟩; clear hT hTc; have hT := b7; have hTc : ∀ i, i < 2435 → i ≠ 10 → updv c6 10 (.int .u8 ((rest.length + 1) : Nat)) i = c i := fun i hi h10 => (updv_ne _ _ h10).trans (kT.far i (Or.inl hi))
  refine hK.out _ _ ?_ (fun hHeld => ?_)
  · first | exact CellS.of hT hTc | exact HH.out.ext he (by have := h0.v.blk.lt; have := Ext.size (show Ext W0 _ by assumption); omega)
  clear hK K HH
  have HH : Hid (CellS g c _) := hHeld
  clear hHeld
  refine wpAnyH_take (i := 19) (v := ?_) rfl (by kernel_rfl) (by kernel_rfl) (by kernel_rfl) (fun _ _ _ h => h) (Or.inl ⟨by rfl, ?_⟩) HH.out ?_
  rotate_left
  · intro w hSw; go_simp; try with_reducible rfl
  change wpAnyH _ _ _ _ _ _ _ (Act.put _ (some 79) _) _
  simp only [Act.put, List.setIfInBounds_toArray, List.set_cons_zero, List.set_cons_succ]
  refine wpAnyH_take (i := 20) (v := ?_) rfl (by kernel_rfl) (by kernel_rfl) (by kernel_rfl) (fun _ _ _ h => h) (Or.inl ⟨by rfl, ?_⟩) HH.out ?_
  rotate_left
  · intro w hSw; go_simp; try with_reducible rfl
  change wpAnyH _ _ _ _ _ _ _ (Act.put _ (some 80) _) _
  simp only [Act.put, List.setIfInBounds_toArray, List.set_cons_zero, List.set_cons_succ]
  refine wpAnyH_done (by kernel_rfl) ?_ _
  have kW : VStep own w c own w6 c6 := (VStep.ext (show Ext w W0 by (repeat (first | with_reducible exact Ext.refl _ | with_reducible assumption | refine Ext.trans ?_ (by with_reducible assumption) | refine Ext.alloc ?_ _ _ | refine Ext.drew ?_ | refine Ext.drewN ?_ _)))).trans kT
  have kV : VStep own w c own w7 c6 := kW.trans ⟨fun _ _ => rfl, fun _ _ => rfl, m7.sub (fun x hx => by rw [hx, h.v.tag]; exact ⟨by decide, by decide⟩)⟩
  have hG := h.goneBack hst
  have hvX : VRep own w7 g _ (V.revertTo s) := h6.low b7 (fun i hi => updv_ne _ _ (by omega)) m7
  have hcl : ∀ i, i < 2435 → i ≠ 10 → updv c6 10 (.int .u8 ((rest.length + 1) : Nat)) i = c i := fun i hi h10 => (updv_ne _ _ h10).trans (kT.far i (Or.inl hi))
  have hbt : updv c6 10 (.int .u8 ((rest.length + 1) : Nat)) 27023 = c 27023 := (updv_ne _ _ (by decide)).trans (kT.far _ (Or.inr (by decide)))
  obtain ⟨c8, hc8⟩ : ∃ x, Hid (updv c6 10 (.int .u8 ((rest.length + 1) : Nat)) = x) := ⟨_, rfl⟩
  have h108 : c8 10 = .int .u8 ((rest.length + 1) : Nat) := by rw [← hc8.out, updv_same]
  rw [hc8.out] at b7 hvX hcl hbt
  have ht8 : c8 2258 = .int .i8 ((((rest.length + 1) + 1 : Nat) : Int) - 1) := (hcl _ (by decide) (by decide)).trans ht
  have e8 : (((rest.length + 1) + 1 : Nat) : Int) - 1 = ((rest.length + 1) : Nat) := by omega
  rw [e8] at ht8
  obtain ⟨w8a, w8b⟩ := i8_small (n := (rest.length + 1)) (by omega)
  clear HH
  go_upto_region 17 with (first | ((with_reducible (refine Veil.out ?_; apply wl_storeC (v := (.slice none 0 0)) one32)); (case hx => rfl); (case hy => rfl); (case h1 => rfl); (case hB => exact b7.ext (by (repeat (first | with_reducible exact Ext.refl _ | with_reducible assumption | refine Ext.trans ?_ (by with_reducible assumption) | refine Ext.alloc ?_ _ _ | refine Ext.drew ?_ | refine Ext.drewN ?_ _)))); (case hi => decide); rintro W9 b9 m9; have M9 : Mod (· = g) w7 W9 := (Ext.mod (show Ext w7 _ by (repeat (first | with_reducible exact Ext.refl _ | with_reducible assumption | refine Ext.trans ?_ (by with_reducible assumption) | refine Ext.alloc ?_ _ _ | refine Ext.drew ?_ | refine Ext.drewN ?_ _))) _).trans m9))
  go_upto_region 18 with (first | ((with_reducible (refine Veil.out ?_; apply wl_load1 onel74)); (case hx => rfl); (case hB => exact b9.ext (by (repeat (first | with_reducible exact Ext.refl _ | with_reducible assumption | refine Ext.trans ?_ (by with_reducible assumption) | refine Ext.alloc ?_ _ _ | refine Ext.drew ?_ | refine Ext.drewN ?_ _)))); (case ho => decide); rw [updv_ne _ _ (by decide), ht8]) | ((with_reducible (refine Veil.out ?_; apply wl_storeC (v := .int .i8 (rest.length : Int)) onel74)); (case hx => rfl); (case hy => rfl); (case h1 => rfl); (case hB => exact b9.ext (by (repeat (first | with_reducible exact Ext.refl _ | with_reducible assumption | refine Ext.trans ?_ (by with_reducible assumption) | refine Ext.alloc ?_ _ _ | refine Ext.drew ?_ | refine Ext.drewN ?_ _)))); (case hi => decide); rintro W10 b10 m10))
  have M10 : Mod (· = g) w7 W10 := (M9.trans_ext (show Ext W9 _ by (repeat (first | with_reducible exact Ext.refl _ | with_reducible assumption | refine Ext.trans ?_ (by with_reducible assumption) | refine Ext.alloc ?_ _ _ | refine Ext.drew ?_ | refine Ext.drewN ?_ _)))).trans m10
  have kX : VStep own w c own W10 c6 := kV.trans ⟨fun _ _ => rfl, fun _ _ => rfl, M10.sub (fun x hx => by rw [hx, hvX.tag]; exact ⟨by decide, by decide⟩)⟩
  have hvY := hvX.low b10 (fun i hi => by rw [updv_ne _ _ (by omega), updv_ne _ _ (by omega)]) M10
  have hL := h.left_ (o := []) hst hph hG hvY kX (fun i h1 h2 h3 h4 => by rw [updv_ne _ _ h3, updv_ne _ _ h4]; exact hcl i h1 h2) (by rw [updv_ne _ _ (by decide), updv_ne _ _ (by decide)]; exact hbt) (by rw [updv_ne _ _ (by decide), updv_ne _ _ (by decide)]; exact h108) (by rw [updv_same]; simp) (by rw [updv_ne _ _ (by decide), updv_same]; exact NL.nil)
  obtain ⟨c10, hc10⟩ : ∃ x, Hid (updv (updv c8 2259 (.slice none 0 0)) 2258 (.int .i8 (rest.length : Int)) = x) := ⟨_, rfl⟩
  have ht10 : c10 2258 = .int .i8 (rest.length : Int) := by rw [← hc10.out, updv_same]
  have hcf : ∀ i, i < 2435 → i ≠ 10 → i ≠ 2258 → i ≠ 2259 → c10 i = c i := fun i h1 h2 h3 h4 => by rw [← hc10.out, updv_ne _ _ h3, updv_ne _ _ h4]; exact hcl i h1 h2
  have hr10 : c10 2259 = (.slice none 0 0) := by rw [← hc10.out, updv_ne _ _ (by decide), updv_same]
  rw [hc10.out] at b10 hL
  have mX := MStep.ofV kX
  clear hvX hvY hcl hbt m9 m10 M9 M10 b7 b9 kV kX h108 ht8 hG hc8 hc10 m7
  obtain ⟨hpf, hp7⟩ := hL.frame (f := p) (rest := rest) rfl
  have kPG := hpf.gas
  have kOO := hpf.outOff
  have kOL := hpf.outLen
  have kSf0 : AAt c (1803 + (rest.length + 1) * 65 + 9) f.self := hfr.self
  have kSf : AAt c10 (1803 + (rest.length + 1) * 65 + 9) f.self := kSf0.same hfr.ok.self (fun j hj => hcf _ (by omega) (by omega) (by omega) (by omega))
  have hrl7 : rest.length + 1 < 7 := hr7
  have hoL := hpf.ok.lLt
  have hoO := hpf.ok.oLt
  have hout := hpf.ok.out
  have hpgl := hpf.ok.gas
  have zt : ¬ (rest.length : Int) < 0 := by omega
  have zt7 : (rest.length : Int) < 7 := by omega
  obtain ⟨w9a, w9b⟩ := i8_small (n := rest.length) (by omega)
  obtain ⟨px, hpx⟩ : ∃ x, Hid (p.gas + 0 = x) := ⟨_, rfl⟩
  have wg : IntKind.u64.wrap ((p.gas : Int) + ((0 : Nat) : Int)) = (px : Nat) := by rw [← hpx.out, IntKind.wrap_u64]; omega
  have wg0 : 0 = 0 → IntKind.u64.wrap (p.gas : Int) = (px : Nat) := fun q => by rw [← hpx.out, q, IntKind.wrap_u64]; omega
  have hpx2 : px ≤ 1048576 := by rw [← hpx.out]; exact hpg
  have wg1 := wg0 rfl
  clear wg0
  go_upto_region 22 with (first | ((with_reducible (refine Veil.out ?_; apply wl_load1 onel74)); (case hx => rfl); (case hB => exact b10.ext (by (repeat (first | with_reducible exact Ext.refl _ | with_reducible assumption | refine Ext.trans ?_ (by with_reducible assumption) | refine Ext.alloc ?_ _ _ | refine Ext.drew ?_ | refine Ext.drewN ?_ _)))); (case ho => decide); rw [ht10]))
  refine w_ext ?_
  rintro W0 hW0
  refine wp_region_held_drew (S := fun w' => Ext W0 w') (by kernel_rfl) (Ext.refl _).drew (fun hHeld => ?_)
  have HH : Hid (Ext W0 _) := hHeld
  clear hHeld
  refine wpAnyH_take (i := 0) (v := ?_) rfl (by kernel_rfl) (by kernel_rfl) (by kernel_rfl) (fun _ _ _ h => h) (Or.inl ⟨by rfl, ?_⟩) HH.out ?_
  rotate_left
  · intro w hSw; go_simp; try with_reducible rfl
  change wpAnyH _ _ _ _ _ _ _ (Act.put _ (some 112) _) _
  simp only [Act.put, List.setIfInBounds_toArray, List.set_cons_zero, List.set_cons_succ]
  refine wpAnyH_take (i := 1) (v := ?_) rfl (by kernel_rfl) (by kernel_rfl) (by kernel_rfl) (fun _ _ _ h => h) (Or.inl ⟨by rfl, ?_⟩) HH.out ?_
  rotate_left
  · intro w hSw; go_simp; try with_reducible rfl
  change wpAnyH _ _ _ _ _ _ _ (Act.put _ (some 113) _) _
  simp only [Act.put, List.setIfInBounds_toArray, List.set_cons_zero, List.set_cons_succ]
  refine wpAnyH_take (i := 2) (v := ?_) rfl (by kernel_rfl) (by kernel_rfl) (by kernel_rfl) (fun _ _ _ h => h) (Or.inl ⟨by rfl, ?_⟩) HH.out ?_
  rotate_left
  · intro w hSw; go_simp; try with_reducible rfl
  change wpAnyH _ _ _ _ _ _ _ (Act.put _ (some 114) _) _
  simp only [Act.put, List.setIfInBounds_toArray, List.set_cons_zero, List.set_cons_succ]
  refine wpAnyH_take (i := 3) (v := ?_) rfl (by kernel_rfl) (by kernel_rfl) (by kernel_rfl) (fun _ _ _ h => h) (Or.inl ⟨by rfl, ?_⟩) HH.out ?_
  rotate_left
  · intro w hSw; go_simp; try with_reducible rfl
  change wpAnyH _ _ _ _ _ _ _ (Act.put _ (some 115) _) _
  simp only [Act.put, List.setIfInBounds_toArray, List.set_cons_zero, List.set_cons_succ]
  refine wpAnyH_take (i := 4) rfl (by kernel_rfl) (by kernel_rfl) (by kernel_rfl) (fun _ _ _ h => h) (yieldsIf_load1 (by rfl) _ _ rfl _ _ rfl onel74 _ (fun w hSw => by rw [(b10.ext (Ext.trans (by (repeat (first | with_reducible exact Ext.refl _ | with_reducible assumption | refine Ext.trans ?_ (by with_reducible assumption) | refine Ext.alloc ?_ _ _ | refine Ext.drew ?_ | refine Ext.drewN ?_ _))) hSw)).cell (by decide), ht10])) HH.out ?_
  change wpAnyH _ _ _ _ _ _ _ (Act.put _ (some 116) _) _
  simp only [Act.put, List.setIfInBounds_toArray, List.set_cons_zero, List.set_cons_succ]
  refine wpAnyH_take (i := 5) (v := ?_) rfl (by kernel_rfl) (by kernel_rfl) (by kernel_rfl) (fun _ _ _ h => h) (Or.inl ⟨by rfl, ?_⟩) HH.out ?_
  rotate_left
  · intro w hSw; go_simp; try with_reducible rfl
  change wpAnyH _ _ _ _ _ _ _ (Act.put _ (some 117) _) _
  simp only [Act.put, List.setIfInBounds_toArray, List.set_cons_zero, List.set_cons_succ]
  refine wpAnyH_take (i := 6) (v := ?_) rfl (by kernel_rfl) (by kernel_rfl) (by kernel_rfl) (fun _ _ _ h => h) (Or.inl ⟨by rfl, ?_⟩) HH.out ?_
  rotate_left
  · intro w hSw; go_simp; try with_reducible rfl
  change wpAnyH _ _ _ _ _ _ _ (Act.put _ (some 118) _) _
  simp only [Act.put, List.setIfInBounds_toArray, List.set_cons_zero, List.set_cons_succ]
  refine wpAnyH_take (i := 7) (v := ?_) rfl (by kernel_rfl) (by kernel_rfl) (by kernel_rfl) (fun _ _ _ h => h) (Or.inl ⟨by rfl, ?_⟩) HH.out ?_
  rotate_left
  · intro w hSw; go_simp; try with_reducible rfl
  change wpAnyH _ _ _ _ _ _ _ (Act.put _ (some 119) _) _
  simp only [Act.put, List.setIfInBounds_toArray, List.set_cons_zero, List.set_cons_succ]
  refine wpAnyH_take (i := 8) (v := ?_) rfl (by kernel_rfl) (by kernel_rfl) (by kernel_rfl) (fun _ _ _ h => h) (Or.inl ⟨by rfl, ?_⟩) HH.out ?_
  rotate_left
  · intro w hSw; go_simp; try with_reducible rfl
  change wpAnyH _ _ _ _ _ _ _ (Act.put _ (some 9) _) _
  simp only [Act.put, List.setIfInBounds_toArray, List.set_cons_zero, List.set_cons_succ]
  refine wpAnyH_done (by kernel_rfl) ?_ _
  go_upto_region 24 with (first | ((with_reducible (refine Veil.out ?_; apply wl_load1 onel26)); (case hx => rfl); (case hB => exact b10.ext (by (repeat (first | with_reducible exact Ext.refl _ | with_reducible assumption | refine Ext.trans ?_ (by with_reducible assumption) | refine Ext.alloc ?_ _ _ | refine Ext.drew ?_ | refine Ext.drewN ?_ _)))); (case ho => omega); rw [kPG]) | ((with_reducible (refine Veil.out ?_; apply wl_storeC (v := .int .u64 (px : Nat)) onel26)); (case hx => rfl); (case hy => rfl); (case h1 => rfl); (case hB => exact b10.ext (by (repeat (first | with_reducible exact Ext.refl _ | with_reducible assumption | refine Ext.trans ?_ (by with_reducible assumption) | refine Ext.alloc ?_ _ _ | refine Ext.drew ?_ | refine Ext.drewN ?_ _)))); (case hi => omega); rintro W23 b23 m23))
  have M23 : Mod (· = g) W10 W23 := (Ext.mod (show Ext W10 _ by (repeat (first | with_reducible exact Ext.refl _ | with_reducible assumption | refine Ext.trans ?_ (by with_reducible assumption) | refine Ext.alloc ?_ _ _ | refine Ext.drew ?_ | refine Ext.drewN ?_ _))) _).trans m23
  obtain ⟨hS, sS⟩ := hL.setGas (f := p) (rest := rest) rfl px hpx2 M23 b23
  obtain ⟨c23, hc23⟩ : ∃ x, Hid (updv c10 (1803 + rest.length * 65 + 7) (.int .u64 (px : Nat)) = x) := ⟨_, rfl⟩
  have hcg : ∀ i, i ≠ 1803 + rest.length * 65 + 7 → c23 i = c10 i := fun i hi => by rw [← hc23.out]; exact updv_ne _ _ hi
  rw [hc23.out] at b23 hS
  replace kOO := (hcg _ (by omega)).trans kOO
  replace hr10 := (hcg 2259 (by omega)).trans hr10
  replace kOL := (hcg _ (by omega)).trans kOL
  replace kSf := kSf.same (c' := c23) hfr.ok.self (fun j hj => hcg _ (by omega))
  have mS := mX.trans sS
  have KD := fun W (hW : Ext W23 W) => b23.ext hW
  clear HH hc23 hcg m23 M23 sS
  go_upto_region 25 with (first | ((with_reducible (refine Veil.out ?_; apply wl_allocW)); rintro B24 Wa24 ca24 ea24 ba24 aa24 ga24; have hC24 : W23.heap.size ≤ B24 := Nat.le_trans (Ext.size (show Ext W23 _ from by (repeat (first | with_reducible exact Ext.refl _ | with_reducible assumption | refine Ext.trans ?_ (by with_reducible assumption) | refine Ext.alloc ?_ _ _ | refine Ext.drew ?_ | refine Ext.drewN ?_ _)))) ga24) | ((with_reducible (refine Veil.out ?_; apply wl_storeWB)); (case hx => rfl); (case hy => first | rfl | exact wv0.symm); (case hB => exact ba24.ext (by (repeat (first | with_reducible exact Ext.refl _ | with_reducible assumption | refine Ext.trans ?_ (by with_reducible assumption) | refine Ext.alloc ?_ _ _ | refine Ext.drew ?_ | refine Ext.drewN ?_ _)))); (case hi => decide); rintro W24 c24 b24 a24 _ m24; have hE24 : Ext W23 W24 := Ext.trans_mod (by (repeat (first | with_reducible exact Ext.refl _ | with_reducible assumption | refine Ext.trans ?_ (by with_reducible assumption) | refine Ext.alloc ?_ _ _ | refine Ext.drew ?_ | refine Ext.drewN ?_ _))) m24 (fun i hi => by have hi2 : i = _ := hi; rw [hi2]; exact hC24); clear ba24 aa24 m24))
  have o24 : own B24 = 0 := hS.v.fresh _ hC24
  obtain ⟨ol, hol⟩ : ∃ x, Hid (p.outLen = x) := ⟨_, rfl⟩
  rw [hol.out] at kOL hn1 hoL hout
  have zc : ((0 : Nat) : Int) < ol := by omega
  have wo : IntKind.u64.wrap (ol : Int) = ol := by rw [IntKind.wrap_u64]; omega
  go_upto_region 32 with (first | ((with_reducible (refine Veil.out ?_; apply wl_load1 onel61)); (case hx => rfl); (case hB => exact KD _ (by (repeat (first | with_reducible exact Ext.refl _ | with_reducible assumption | refine Ext.trans ?_ (by with_reducible assumption) | refine Ext.alloc ?_ _ _ | refine Ext.drew ?_ | refine Ext.drewN ?_ _)))); (case ho => omega); rw [kOL]))
  refine w_ext ?_
  rintro W0 hW0
  refine wp_region_held_drew (S := fun w' => Ext W0 w') (by kernel_rfl) (Ext.refl _).drew (fun hHeld => ?_)
  have HH : Hid (Ext W0 _) := hHeld
  clear hHeld
  refine wpAnyH_take (i := 0) (v := ?_) rfl (by kernel_rfl) (by kernel_rfl) (by kernel_rfl) (fun _ _ _ h => h) (Or.inl ⟨by rfl, ?_⟩) HH.out ?_
  rotate_left
  · intro w hSw; go_simp; try with_reducible rfl
  change wpAnyH _ _ _ _ _ _ _ (Act.put _ (some 151) _) _
  simp only [Act.put, List.setIfInBounds_toArray, List.set_cons_zero, List.set_cons_succ]
  refine wpAnyH_take (i := 1) (v := ?_) rfl (by kernel_rfl) (by kernel_rfl) (by kernel_rfl) (fun _ _ _ h => h) (Or.inl ⟨by rfl, ?_⟩) HH.out ?_
  rotate_left
  · intro w hSw; go_simp; try with_reducible rfl
  change wpAnyH _ _ _ _ _ _ _ (Act.put _ (some 152) _) _
  simp only [Act.put, List.setIfInBounds_toArray, List.set_cons_zero, List.set_cons_succ]
  refine wpAnyH_take (i := 2) (v := ?_) rfl (by kernel_rfl) (by kernel_rfl) (by kernel_rfl) (fun _ _ _ h => h) (Or.inl ⟨by rfl, ?_⟩) HH.out ?_
  rotate_left
  · intro w hSw; go_simp; try with_reducible rfl
  change wpAnyH _ _ _ _ _ _ _ (Act.put _ (some 153) _) _
  simp only [Act.put, List.setIfInBounds_toArray, List.set_cons_zero, List.set_cons_succ]
  refine wpAnyH_take (i := 3) (v := undef) rfl (by kernel_rfl) (by kernel_rfl) (by kernel_rfl) (fun _ _ _ h => h) (Or.inr ⟨by rfl, rfl⟩) HH.out ?_
  change wpAnyH _ _ _ _ _ _ _ (Act.put _ (some 154) _) _
  simp only [Act.put, List.setIfInBounds_toArray, List.set_cons_zero, List.set_cons_succ]
  refine wpAnyH_take (i := 4) (v := undef) rfl (by kernel_rfl) (by kernel_rfl) (by kernel_rfl) (fun _ _ _ h => h) (Or.inr ⟨by rfl, rfl⟩) HH.out ?_
  change wpAnyH _ _ _ _ _ _ _ (Act.put _ (some 155) _) _
  simp only [Act.put, List.setIfInBounds_toArray, List.set_cons_zero, List.set_cons_succ]
  refine wpAnyH_take (i := 5) (v := undef) rfl (by kernel_rfl) (by kernel_rfl) (by kernel_rfl) (fun _ _ _ h => h) (Or.inr ⟨by rfl, rfl⟩) HH.out ?_
  change wpAnyH _ _ _ _ _ _ _ (Act.put _ (some 156) _) _
  simp only [Act.put, List.setIfInBounds_toArray, List.set_cons_zero, List.set_cons_succ]
  refine wpAnyH_take (i := 6) (v := undef) rfl (by kernel_rfl) (by kernel_rfl) (by kernel_rfl) (fun _ _ _ h => h) (Or.inr ⟨by rfl, rfl⟩) HH.out ?_
  change wpAnyH _ _ _ _ _ _ _ (Act.put _ (some 157) _) _
  simp only [Act.put, List.setIfInBounds_toArray, List.set_cons_zero, List.set_cons_succ]
  refine wpAnyH_take (i := 7) (v := undef) rfl (by kernel_rfl) (by kernel_rfl) (by kernel_rfl) (fun _ _ _ h => h) (Or.inr ⟨by rfl, rfl⟩) HH.out ?_
  change wpAnyH _ _ _ _ _ _ _ (Act.put _ (some 158) _) _
  simp only [Act.put, List.setIfInBounds_toArray, List.set_cons_zero, List.set_cons_succ]
  refine wpAnyH_take (i := 8) (v := undef) rfl (by kernel_rfl) (by kernel_rfl) (by kernel_rfl) (fun _ _ _ h => h) (Or.inr ⟨by rfl, rfl⟩) HH.out ?_
  change wpAnyH _ _ _ _ _ _ _ (Act.put _ (some 159) _) _
  simp only [Act.put, List.setIfInBounds_toArray, List.set_cons_zero, List.set_cons_succ]
  refine wpAnyH_take (i := 9) (v := undef) rfl (by kernel_rfl) (by kernel_rfl) (by kernel_rfl) (fun _ _ _ h => h) (Or.inr ⟨by rfl, rfl⟩) HH.out ?_
  change wpAnyH _ _ _ _ _ _ _ (Act.put _ (some 160) _) _
  simp only [Act.put, List.setIfInBounds_toArray, List.set_cons_zero, List.set_cons_succ]
  refine wpAnyH_take (i := 10) (v := undef) rfl (by kernel_rfl) (by kernel_rfl) (by kernel_rfl) (fun _ _ _ h => h) (Or.inr ⟨by rfl, rfl⟩) HH.out ?_
  change wpAnyH _ _ _ _ _ _ _ (Act.put _ (some 161) _) _
  simp only [Act.put, List.setIfInBounds_toArray, List.set_cons_zero, List.set_cons_succ]
  refine wpAnyH_take (i := 11) (v := undef) rfl (by kernel_rfl) (by kernel_rfl) (by kernel_rfl) (fun _ _ _ h => h) (Or.inr ⟨by rfl, rfl⟩) HH.out ?_
  change wpAnyH _ _ _ _ _ _ _ (Act.put _ (some 162) _) _
  simp only [Act.put, List.setIfInBounds_toArray, List.set_cons_zero, List.set_cons_succ]
  refine wpAnyH_take (i := 12) (v := undef) rfl (by kernel_rfl) (by kernel_rfl) (by kernel_rfl) (fun _ _ _ h => h) (Or.inr ⟨by rfl, rfl⟩) HH.out ?_
  change wpAnyH _ _ _ _ _ _ _ (Act.put _ (some 163) _) _
  simp only [Act.put, List.setIfInBounds_toArray, List.set_cons_zero, List.set_cons_succ]
  refine wpAnyH_take (i := 13) (v := undef) rfl (by kernel_rfl) (by kernel_rfl) (by kernel_rfl) (fun _ _ _ h => h) (Or.inr ⟨by rfl, rfl⟩) HH.out ?_
  change wpAnyH _ _ _ _ _ _ _ (Act.put _ (some 164) _) _
  simp only [Act.put, List.setIfInBounds_toArray, List.set_cons_zero, List.set_cons_succ]
  refine wpAnyH_take (i := 14) (v := ?_) rfl (by kernel_rfl) (by kernel_rfl) (by kernel_rfl) (fun _ _ _ h => h) (Or.inl ⟨by rfl, ?_⟩) HH.out ?_
  rotate_left
  · intro w hSw; go_simp; try with_reducible rfl
  change wpAnyH _ _ _ _ _ _ _ (Act.put _ (some 165) _) _
  simp only [Act.put, List.setIfInBounds_toArray, List.set_cons_zero, List.set_cons_succ]
  refine wpAnyH_done (by kernel_rfl) ?_ _
  have HS := mSetP hS (f := { p with gas := px }) (rest := rest) rfl 0 1 (0) (Nat.zero_le _) (show p.stack.length - 0 < 64 by omega) (by decide) (show p.pc + 1 ≤ 60000 by omega)
  go_wp2_with (first | ((with_reducible (refine Veil.out ?_; apply wl_loadWB)); (case hx => rfl); (case hB => exact b24.ext (by (repeat (first | with_reducible exact Ext.refl _ | with_reducible assumption | refine Ext.trans ?_ (by with_reducible assumption) | refine Ext.alloc ?_ _ _ | refine Ext.drew ?_ | refine Ext.drewN ?_ _)))); (case hW => exact a24); (case hi => decide)) | (go_at_call 268; refine (HS _ (by (repeat (first | with_reducible exact Ext.refl _ | with_reducible assumption | refine Ext.trans ?_ (by with_reducible assumption) | refine Ext.alloc ?_ _ _ | refine Ext.drew ?_ | refine Ext.drewN ?_ _)))).mono ?_; rintro e w9 ⟨rfl, hfin⟩))
  go_end0
  obtain ⟨c9, h9, m9⟩ := hfin
  rw [← hpx.out] at h9
  exact ⟨rfl, _, c9, h9, mS.trans m9⟩
end
end Go.Proofs.YgvahwGreat
