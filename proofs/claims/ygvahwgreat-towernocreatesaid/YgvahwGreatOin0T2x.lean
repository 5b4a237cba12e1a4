import Derived.Test.YgvahwGreatOin0T0
namespace Go.Proofs.YgvahwGreat
open Go.RowKit
set_option linter.unusedSimpArgs false
section
variable {own : Nat → Nat} {w : World} {g : Nat} {c : Nat → Value} {V : EV} {st : ASt} {sn stale : List Nat} {s : Nat} {f : AFrame} {rest : List AFrame}
set_option maxRecDepth 100000 in
set_option maxHeartbeats 6400000 in
theorem mEnd_n0_T2x {p : AFrame} {out : List Nat} {v : Value} (h : MRep own w g c V st (s :: sn) stale) (hst : st.frames = f :: (p :: rest)) (hph : st.phase = 1) (hv : NL (Mu own) w v out) (hmd : createsA f.kind = false) (hn1 : out.length < p.outLen) (hlo : out.length ≠ 0) (hpg : p.gas + f.gas ≤ 1048576) (hps : p.stack.length < 64) (hpp : p.pc ≤ 50000) : Calls Hvah.prog 195 #[.pointer (some ⟨g, 0, none⟩), .int .u8 (0 : Nat), v] w fun e w' => e = .returned (.tuple #[]) ∧ ∃ own' c', MRep own' w' g c' V { st with now := st.now, ret := out, frames := ({ p with gas := p.gas + f.gas, mem := writeA p.mem p.outOff (out.take out.length) } : AFrame).settle 0 [1] 1 :: rest } sn (f.mem ++ stale) ∧ MStep own w own' w' := by
  obtain ⟨hfr, hr7⟩ := h.frame hst
  have hgl := hfr.ok.gas
  have ht := h.m.top
  rw [hst, List.length_cons] at ht
  have HR := fun W (hW : Ext w W) => mRun (h.ext hW) hst hph
  have KB := fun W (hW : Ext w W) => h.v.blk.ext hW
  have kG := hfr.gas
  have kK := hfr.kind
  have kS := hfr.snap
  have HCr := fun W => mCreates f.kind W (by have := hfr.ok.kind; omega)
  rw [hmd] at HCr
  have hsn := h.snl s (List.mem_cons_self ..)
  have hnM := h.v.nM
  obtain ⟨s2, sn2, rfl⟩ : ∃ a b, sn = a :: b := by
    have := h.m.frs.len
    rw [hst] at this
    cases sn with
    | nil => simp at this
    | cons a b => exact ⟨a, b, rfl⟩
  simp only [List.length_cons] at HR kG kK kS ht hr7
  obtain ⟨vo, vc, rfl, i1, i2, i3⟩ := hv
  have hv : NL (Mu own) w (.slice vo out.length vc) out := ⟨vo, vc, rfl, i1, i2, i3⟩
  obtain ⟨lo, hlo9⟩ : ∃ l, Hid (out.length = l) := ⟨_, rfl⟩
  rw [hlo9.out] at hv i1 hn1 hlo
  rw [hlo9.out]
  go_enter Hvah.func195, Hvah.ntmps195
  go_upto_region 14 with (first | (go_at_call 192; refine (HR _ (by (repeat (first | with_reducible exact Ext.refl _ | with_reducible assumption | refine Ext.trans ?_ (by with_reducible assumption) | refine Ext.alloc ?_ _ _ | refine Ext.drew ?_ | refine Ext.drewN ?_ _)))).mono ?_; rintro e w1 ⟨rfl, he⟩) | ((with_reducible (refine Veil.out ?_; apply wl_load1 onel26)); (case hx => rfl); (case hB => exact KB _ (by (repeat (first | with_reducible exact Ext.refl _ | with_reducible assumption | refine Ext.trans ?_ (by with_reducible assumption) | refine Ext.alloc ?_ _ _ | refine Ext.drew ?_ | refine Ext.drewN ?_ _)))); (case ho => omega); rw [kG]) | ((with_reducible (refine Veil.out ?_; apply wl_load1 onel5)); (case hx => rfl); (case hB => exact KB _ (by (repeat (first | with_reducible exact Ext.refl _ | with_reducible assumption | refine Ext.trans ?_ (by with_reducible assumption) | refine Ext.alloc ?_ _ _ | refine Ext.drew ?_ | refine Ext.drewN ?_ _)))); (case ho => omega); rw [kK]) | (go_at_call 189; refine (HCr _).mono ?_; rintro e w1 ⟨rfl, hww⟩; replace hww := hww.symm; subst hww))
  have k10 : c 10 = .int .u8 ((rest.length + 1) + 1 : Nat) := by have := h.m.mem.top; rw [List.length_map] at this; exact this.trans (by rw [hst]; rfl)
  refine w_ext ?_
  rintro W0 hW0
  have h0 := h.ext (show Ext w W0 by (repeat (first | with_reducible exact Ext.refl _ | with_reducible assumption | refine Ext.trans ?_ (by with_reducible assumption) | refine Ext.alloc ?_ _ _ | refine Ext.drew ?_ | refine Ext.drewN ?_ _)))
  refine wp_region_held_drew (S := fun w' => CellS g c w') (by kernel_rfl) (CellS.of (h0.v.blk.ext (Ext.refl _).drew) (fun _ _ _ => rfl)) (fun hHeld => ?_)
  have HH : Hid (CellS g c _) := hHeld
  clear hHeld
  refine wpAnyH_take (i := 0) (v := ?_) rfl (by kernel_rfl) (by kernel_rfl) (by kernel_rfl) (fun _ _ _ h => h) (Or.inl ⟨by rfl, ?_⟩) HH.out ?_
  rotate_left
  · intro w hSw; go_simp; try with_reducible rfl
  change wpAnyH _ _ _ _ _ _ _ (Act.put _ (some 60) _) _
  simp only [Act.put, List.setIfInBounds_toArray, List.set_cons_zero, List.set_cons_succ]
  refine wpAnyH_take (i := 1) (v := ?_) rfl (by kernel_rfl) (by kernel_rfl) (by kernel_rfl) (fun _ _ _ h => h) (Or.inl ⟨by rfl, ?_⟩) HH.out ?_
  rotate_left
  · intro w hSw; go_simp; try with_reducible rfl
  change wpAnyH _ _ _ _ _ _ _ (Act.put _ (some 61) _) _
  simp only [Act.put, List.setIfInBounds_toArray, List.set_cons_zero, List.set_cons_succ]
  refine wpAnyH_take (i := 2) (v := ?_) rfl (by kernel_rfl) (by kernel_rfl) (by kernel_rfl) (fun _ _ _ h => h) (Or.inl ⟨by rfl, ?_⟩) HH.out ?_
  rotate_left
  · intro w hSw; go_simp; try with_reducible rfl
  change wpAnyH _ _ _ _ _ _ _ (Act.put _ (some 62) _) _
  simp only [Act.put, List.setIfInBounds_toArray, List.set_cons_zero, List.set_cons_succ]
  refine wpAnyH_take (i := 3) (v := undef) rfl (by kernel_rfl) (by kernel_rfl) (by kernel_rfl) (fun _ _ _ h => h) (Or.inr ⟨by rfl, rfl⟩) HH.out ?_
  change wpAnyH _ _ _ _ _ _ _ (Act.put _ (some 63) _) _
  simp only [Act.put, List.setIfInBounds_toArray, List.set_cons_zero, List.set_cons_succ]
  refine wpAnyH_take (i := 4) (v := undef) rfl (by kernel_rfl) (by kernel_rfl) (by kernel_rfl) (fun _ _ _ h => h) (Or.inr ⟨by rfl, rfl⟩) HH.out ?_
  change wpAnyH _ _ _ _ _ _ _ (Act.put _ (some 64) _) _
  simp only [Act.put, List.setIfInBounds_toArray, List.set_cons_zero, List.set_cons_succ]
  refine wpAnyH_take (i := 5) (v := undef) rfl (by kernel_rfl) (by kernel_rfl) (by kernel_rfl) (fun _ _ _ h => h) (Or.inr ⟨by rfl, rfl⟩) HH.out ?_
  change wpAnyH _ _ _ _ _ _ _ (Act.put _ (some 65) _) _
  simp only [Act.put, List.setIfInBounds_toArray, List.set_cons_zero, List.set_cons_succ]
  refine wpAnyH_take (i := 6) (v := undef) rfl (by kernel_rfl) (by kernel_rfl) (by kernel_rfl) (fun _ _ _ h => h) (Or.inr ⟨by rfl, rfl⟩) HH.out ?_
  change wpAnyH _ _ _ _ _ _ _ (Act.put _ (some 66) _) _
  simp only [Act.put, List.setIfInBounds_toArray, List.set_cons_zero, List.set_cons_succ]
  refine wpAnyH_take (i := 7) (v := undef) rfl (by kernel_rfl) (by kernel_rfl) (by kernel_rfl) (fun _ _ _ h => h) (Or.inr ⟨by rfl, rfl⟩) HH.out ?_
  change wpAnyH _ _ _ _ _ _ _ (Act.put _ (some 67) _) _
  simp only [Act.put, List.setIfInBounds_toArray, List.set_cons_zero, List.set_cons_succ]
  refine wpAnyH_take (i := 8) (v := undef) rfl (by kernel_rfl) (by kernel_rfl) (by kernel_rfl) (fun _ _ _ h => h) (Or.inr ⟨by rfl, rfl⟩) HH.out ?_
  change wpAnyH _ _ _ _ _ _ _ (Act.put _ (some 68) _) _
  simp only [Act.put, List.setIfInBounds_toArray, List.set_cons_zero, List.set_cons_succ]
  refine wpAnyH_take (i := 9) (v := undef) rfl (by kernel_rfl) (by kernel_rfl) (by kernel_rfl) (fun _ _ _ h => h) (Or.inr ⟨by rfl, rfl⟩) HH.out ?_
  change wpAnyH _ _ _ _ _ _ _ (Act.put _ (some 69) _) _
  simp only [Act.put, List.setIfInBounds_toArray, List.set_cons_zero, List.set_cons_succ]
  refine wpAnyH_take (i := 10) (v := undef) rfl (by kernel_rfl) (by kernel_rfl) (by kernel_rfl) (fun _ _ _ h => h) (Or.inr ⟨by rfl, rfl⟩) HH.out ?_
  change wpAnyH _ _ _ _ _ _ _ (Act.put _ (some 70) _) _
  simp only [Act.put, List.setIfInBounds_toArray, List.set_cons_zero, List.set_cons_succ]
  refine wpAnyH_take (i := 11) (v := undef) rfl (by kernel_rfl) (by kernel_rfl) (by kernel_rfl) (fun _ _ _ h => h) (Or.inr ⟨by rfl, rfl⟩) HH.out ?_
  change wpAnyH _ _ _ _ _ _ _ (Act.put _ (some 71) _) _
  simp only [Act.put, List.setIfInBounds_toArray, List.set_cons_zero, List.set_cons_succ]
  refine wpAnyH_take (i := 12) (v := undef) rfl (by kernel_rfl) (by kernel_rfl) (by kernel_rfl) (fun _ _ _ h => h) (Or.inr ⟨by rfl, rfl⟩) HH.out ?_
  change wpAnyH _ _ _ _ _ _ _ (Act.put _ (some 72) _) _
  simp only [Act.put, List.setIfInBounds_toArray, List.set_cons_zero, List.set_cons_succ]
  refine wpAnyH_take (i := 13) (v := ?_) rfl (by kernel_rfl) (by kernel_rfl) (by kernel_rfl) (fun _ _ _ h => h) (Or.inl ⟨by rfl, ?_⟩) HH.out ?_
  rotate_left
  · intro w hSw; go_simp; try with_reducible rfl
  change wpAnyH _ _ _ _ _ _ _ (Act.put _ (some 73) _) _
  simp only [Act.put, List.setIfInBounds_toArray, List.set_cons_zero, List.set_cons_succ]
  refine wpAnyH_take (i := 14) (v := ?_) rfl (by kernel_rfl) (by kernel_rfl) (by kernel_rfl) (fun _ _ _ h => h) (Or.inl ⟨by rfl, ?_⟩) HH.out ?_
  rotate_left
  · intro w hSw; go_simp; try with_reducible rfl
  change wpAnyH _ _ _ _ _ _ _ (Act.put _ (some 74) _) _
  simp only [Act.put, List.setIfInBounds_toArray, List.set_cons_zero, List.set_cons_succ]
  refine wpAnyH_take (i := 15) (v := ?_) rfl (by kernel_rfl) (by kernel_rfl) (by kernel_rfl) (fun _ _ _ h => h) (Or.inl ⟨by rfl, ?_⟩) HH.out ?_
  rotate_left
  · intro w hSw; go_simp; try with_reducible rfl
  change wpAnyH _ _ _ _ _ _ _ (Act.put _ (some 75) _) _
  simp only [Act.put, List.setIfInBounds_toArray, List.set_cons_zero, List.set_cons_succ]
  refine wpAnyH_take (i := 16) (v := ?_) rfl (by kernel_rfl) (by kernel_rfl) (by kernel_rfl) (fun _ _ _ h => h) (Or.inl ⟨by rfl, ?_⟩) HH.out ?_
  rotate_left
  · intro w hSw; go_simp; try with_reducible rfl
  change wpAnyH _ _ _ _ _ _ _ (Act.put _ (some 76) _) _
  simp only [Act.put, List.setIfInBounds_toArray, List.set_cons_zero, List.set_cons_succ]
  refine wpAnyH_take (i := 17) (v := ?_) rfl (by kernel_rfl) (by kernel_rfl) (by kernel_rfl) (fun _ _ _ h => h) (Or.inl ⟨by rfl, ?_⟩) HH.out ?_
  rotate_left
  · intro w hSw; go_simp; try with_reducible rfl
  change wpAnyH _ _ _ _ _ _ _ (Act.put _ (some 77) _) _
  simp only [Act.put, List.setIfInBounds_toArray, List.set_cons_zero, List.set_cons_succ]
  refine wpAnyH_ready (rs := [18]) (by kernel_rfl) (by simp) ?_
  refine AllReadyH.cons rfl (fun K hK => ?_) AllReadyH.nil
  go_simp
  go_at_call 265; refine (aLeave g (rest.length + 1) c _ (h0.v.blk.ext (by (repeat (first | with_reducible exact Ext.refl _ | with_reducible assumption | refine Ext.trans ?_ (by with_reducible assumption) | refine Ext.alloc ?_ _ _ | refine Ext.drew ?_ | refine Ext.drewN ?_ _)))) (by omega) k10).mono ?_; rintro e w7 ⟨rfl, b7, m7⟩; have hT := b7; have hTc : ∀ i, i < 2435 → i ≠ 10 → updv c 10 (.int .u8 ((rest.length + 1) : Nat)) i = c i := fun i hi h10 => updv_ne _ _ h10
  refine hK.out _ _ ?_ (fun hHeld => ?_)
  · first | exact CellS.of hT hTc | exact HH.out.ext he (by have := h0.v.blk.lt; have := Ext.size (show Ext W0 _ by assumption); omega)
  clear hK K HH
  have HH : Hid (CellS g c _) := hHeld
  clear hHeld
  refine wpAnyH_take (i := 19) (v := ?_) rfl (by kernel_rfl) (by kernel_rfl) (by kernel_rfl) (fun _ _ _ h => h) (Or.inl ⟨by rfl, ?_⟩) HH.out ?_
  rotate_left
  · intro w hSw; go_simp; try with_reducible rfl
  change wpAnyH _ _ _ _ _ _ _ (Act.put _ (some 79) _) _
  simp only [Act.put, List.setIfInBounds_toArray, List.set_cons_zero, List.set_cons_succ]
  refine wpAnyH_take (i := 20) (v := ?_) rfl (by kernel_rfl) (by kernel_rfl) (by kernel_rfl) (fun _ _ _ h => h) (Or.inl ⟨by rfl, ?_⟩) HH.out ?_
  rotate_left
  · intro w hSw; go_simp; try with_reducible rfl
  change wpAnyH _ _ _ _ _ _ _ (Act.put _ (some 80) _) _
  simp only [Act.put, List.setIfInBounds_toArray, List.set_cons_zero, List.set_cons_succ]
  refine wpAnyH_done (by kernel_rfl) ?_ _
  have kV : VStep own w c own w7 c := ⟨fun _ _ => rfl, fun _ _ => rfl, ((Ext.mod (show Ext w _ by (repeat (first | with_reducible exact Ext.refl _ | with_reducible assumption | refine Ext.trans ?_ (by with_reducible assumption) | refine Ext.alloc ?_ _ _ | refine Ext.drew ?_ | refine Ext.drewN ?_ _))) _).trans m7).sub (fun x hx => by rw [hx, h.v.tag]; exact ⟨by decide, by decide⟩)⟩
  have hG := h.goneSame
  have hvX : VRep own w7 g _ V := (h.v.ext (show Ext w _ by (repeat (first | with_reducible exact Ext.refl _ | with_reducible assumption | refine Ext.trans ?_ (by with_reducible assumption) | refine Ext.alloc ?_ _ _ | refine Ext.drew ?_ | refine Ext.drewN ?_ _)))).low b7 (fun i hi => updv_ne _ _ (by omega)) m7
  have hcl : ∀ i, i < 2435 → i ≠ 10 → updv c 10 (.int .u8 ((rest.length + 1) : Nat)) i = c i := fun i hi h10 => updv_ne _ _ h10
  have hbt : updv c 10 (.int .u8 ((rest.length + 1) : Nat)) 27023 = c 27023 := updv_ne _ _ (by decide)
  obtain ⟨c8, hc8⟩ : ∃ x, Hid (updv c 10 (.int .u8 ((rest.length + 1) : Nat)) = x) := ⟨_, rfl⟩
  have h108 : c8 10 = .int .u8 ((rest.length + 1) : Nat) := by rw [← hc8.out, updv_same]
  rw [hc8.out] at b7 hvX hcl hbt
  have ht8 : c8 2258 = .int .i8 ((((rest.length + 1) + 1 : Nat) : Int) - 1) := (hcl _ (by decide) (by decide)).trans ht
  have e8 : (((rest.length + 1) + 1 : Nat) : Int) - 1 = ((rest.length + 1) : Nat) := by omega
  rw [e8] at ht8
  obtain ⟨w8a, w8b⟩ := i8_small (n := (rest.length + 1)) (by omega)
  clear HH
  go_upto_region 17 with (first | ((with_reducible (refine Veil.out ?_; apply wl_storeC (v := (.slice vo lo vc)) one32)); (case hx => rfl); (case hy => rfl); (case h1 => rfl); (case hB => exact b7.ext (by (repeat (first | with_reducible exact Ext.refl _ | with_reducible assumption | refine Ext.trans ?_ (by with_reducible assumption) | refine Ext.alloc ?_ _ _ | refine Ext.drew ?_ | refine Ext.drewN ?_ _)))); (case hi => decide); rintro W9 b9 m9; have M9 : Mod (· = g) w7 W9 := (Ext.mod (show Ext w7 _ by (repeat (first | with_reducible exact Ext.refl _ | with_reducible assumption | refine Ext.trans ?_ (by with_reducible assumption) | refine Ext.alloc ?_ _ _ | refine Ext.drew ?_ | refine Ext.drewN ?_ _))) _).trans m9))
  go_upto_region 18 with (first | ((with_reducible (refine Veil.out ?_; apply wl_load1 onel74)); (case hx => rfl); (case hB => exact b9.ext (by (repeat (first | with_reducible exact Ext.refl _ | with_reducible assumption | refine Ext.trans ?_ (by with_reducible assumption) | refine Ext.alloc ?_ _ _ | refine Ext.drew ?_ | refine Ext.drewN ?_ _)))); (case ho => decide); rw [updv_ne _ _ (by decide), ht8]) | ((with_reducible (refine Veil.out ?_; apply wl_storeC (v := .int .i8 (rest.length : Int)) onel74)); (case hx => rfl); (case hy => rfl); (case h1 => rfl); (case hB => exact b9.ext (by (repeat (first | with_reducible exact Ext.refl _ | with_reducible assumption | refine Ext.trans ?_ (by with_reducible assumption) | refine Ext.alloc ?_ _ _ | refine Ext.drew ?_ | refine Ext.drewN ?_ _)))); (case hi => decide); rintro W10 b10 m10))
  have M10 : Mod (· = g) w7 W10 := (M9.trans_ext (show Ext W9 _ by (repeat (first | with_reducible exact Ext.refl _ | with_reducible assumption | refine Ext.trans ?_ (by with_reducible assumption) | refine Ext.alloc ?_ _ _ | refine Ext.drew ?_ | refine Ext.drewN ?_ _)))).trans m10
  have kX : VStep own w c own W10 c := kV.trans ⟨fun _ _ => rfl, fun _ _ => rfl, M10.sub (fun x hx => by rw [hx, hvX.tag]; exact ⟨by decide, by decide⟩)⟩
  have hvY := hvX.low b10 (fun i hi => by rw [updv_ne _ _ (by omega), updv_ne _ _ (by omega)]) M10
  have hL := h.left_ (o := out) hst hph hG hvY kX (fun i h1 h2 h3 h4 => by rw [updv_ne _ _ h3, updv_ne _ _ h4]; exact hcl i h1 h2) (by rw [updv_ne _ _ (by decide), updv_ne _ _ (by decide)]; exact hbt) (by rw [updv_ne _ _ (by decide), updv_ne _ _ (by decide)]; exact h108) (by rw [updv_same]; simp) (by rw [updv_ne _ _ (by decide), updv_same]; exact kX.nl hv)
  obtain ⟨c10, hc10⟩ : ∃ x, Hid (updv (updv c8 2259 (.slice vo lo vc)) 2258 (.int .i8 (rest.length : Int)) = x) := ⟨_, rfl⟩
  have ht10 : c10 2258 = .int .i8 (rest.length : Int) := by rw [← hc10.out, updv_same]
  have hcf : ∀ i, i < 2435 → i ≠ 10 → i ≠ 2258 → i ≠ 2259 → c10 i = c i := fun i h1 h2 h3 h4 => by rw [← hc10.out, updv_ne _ _ h3, updv_ne _ _ h4]; exact hcl i h1 h2
  have hr10 : c10 2259 = (.slice vo lo vc) := by rw [← hc10.out, updv_ne _ _ (by decide), updv_same]
  rw [hc10.out] at b10 hL
  have mX := MStep.ofV kX
  clear hvX hvY hcl hbt m9 m10 M9 M10 b7 b9 kV kX h108 ht8 hG hc8 hc10 m7
  obtain ⟨hpf, hp7⟩ := hL.frame (f := p) (rest := rest) rfl
  have kPG := hpf.gas
  have kOO := hpf.outOff
  have kOL := hpf.outLen
  have kSf0 : AAt c (1803 + (rest.length + 1) * 65 + 9) f.self := hfr.self
  have kSf : AAt c10 (1803 + (rest.length + 1) * 65 + 9) f.self := kSf0.same hfr.ok.self (fun j hj => hcf _ (by omega) (by omega) (by omega) (by omega))
  have hrl7 : rest.length + 1 < 7 := hr7
  have hoL := hpf.ok.lLt
  have hoO := hpf.ok.oLt
  have hout := hpf.ok.out
  have hpgl := hpf.ok.gas
  have zt : ¬ (rest.length : Int) < 0 := by omega
  have zt7 : (rest.length : Int) < 7 := by omega
  obtain ⟨w9a, w9b⟩ := i8_small (n := rest.length) (by omega)
  obtain ⟨px, hpx⟩ : ∃ x, Hid (p.gas + f.gas = x) := ⟨_, rfl⟩
  have wg : IntKind.u64.wrap ((p.gas : Int) + ((f.gas : Nat) : Int)) = (px : Nat) := by rw [← hpx.out, IntKind.wrap_u64]; omega
  have wg0 : f.gas = 0 → IntKind.u64.wrap (p.gas : Int) = (px : Nat) := fun q => by rw [← hpx.out, q, IntKind.wrap_u64]; omega
  have hpx2 : px ≤ 1048576 := by rw [← hpx.out]; exact hpg
  clear wg0
  go_upto_region 22 with (first | ((with_reducible (refine Veil.out ?_; apply wl_load1 onel74)); (case hx => rfl); (case hB => exact b10.ext (by (repeat (first | with_reducible exact Ext.refl _ | with_reducible assumption | refine Ext.trans ?_ (by with_reducible assumption) | refine Ext.alloc ?_ _ _ | refine Ext.drew ?_ | refine Ext.drewN ?_ _)))); (case ho => decide); rw [ht10]))
  refine w_ext ?_
  rintro W0 hW0
  refine wp_region_held_drew (S := fun w' => Ext W0 w') (by kernel_rfl) (Ext.refl _).drew (fun hHeld => ?_)
  have HH : Hid (Ext W0 _) := hHeld
  clear hHeld
  refine wpAnyH_take (i := 0) (v := ?_) rfl (by kernel_rfl) (by kernel_rfl) (by kernel_rfl) (fun _ _ _ h => h) (Or.inl ⟨by rfl, ?_⟩) HH.out ?_
  rotate_left
  · intro w hSw; go_simp; try with_reducible rfl
  change wpAnyH _ _ _ _ _ _ _ (Act.put _ (some 112) _) _
  simp only [Act.put, List.setIfInBounds_toArray, List.set_cons_zero, List.set_cons_succ]
  refine wpAnyH_take (i := 1) (v := ?_) rfl (by kernel_rfl) (by kernel_rfl) (by kernel_rfl) (fun _ _ _ h => h) (Or.inl ⟨by rfl, ?_⟩) HH.out ?_
  rotate_left
  · intro w hSw; go_simp; try with_reducible rfl
  change wpAnyH _ _ _ _ _ _ _ (Act.put _ (some 113) _) _
  simp only [Act.put, List.setIfInBounds_toArray, List.set_cons_zero, List.set_cons_succ]
  refine wpAnyH_take (i := 2) (v := ?_) rfl (by kernel_rfl) (by kernel_rfl) (by kernel_rfl) (fun _ _ _ h => h) (Or.inl ⟨by rfl, ?_⟩) HH.out ?_
  rotate_left
  · intro w hSw; go_simp; try with_reducible rfl
  change wpAnyH _ _ _ _ _ _ _ (Act.put _ (some 114) _) _
  simp only [Act.put, List.setIfInBounds_toArray, List.set_cons_zero, List.set_cons_succ]
  refine wpAnyH_take (i := 3) (v := ?_) rfl (by kernel_rfl) (by kernel_rfl) (by kernel_rfl) (fun _ _ _ h => h) (Or.inl ⟨by rfl, ?_⟩) HH.out ?_
  rotate_left
  · intro w hSw; go_simp; try with_reducible rfl
  change wpAnyH _ _ _ _ _ _ _ (Act.put _ (some 115) _) _
  simp only [Act.put, List.setIfInBounds_toArray, List.set_cons_zero, List.set_cons_succ]
  refine wpAnyH_take (i := 4) rfl (by kernel_rfl) (by kernel_rfl) (by kernel_rfl) (fun _ _ _ h => h) (yieldsIf_load1 (by rfl) _ _ rfl _ _ rfl onel74 _ (fun w hSw => by rw [(b10.ext (Ext.trans (by (repeat (first | with_reducible exact Ext.refl _ | with_reducible assumption | refine Ext.trans ?_ (by with_reducible assumption) | refine Ext.alloc ?_ _ _ | refine Ext.drew ?_ | refine Ext.drewN ?_ _))) hSw)).cell (by decide), ht10])) HH.out ?_
  change wpAnyH _ _ _ _ _ _ _ (Act.put _ (some 116) _) _
  simp only [Act.put, List.setIfInBounds_toArray, List.set_cons_zero, List.set_cons_succ]
  refine wpAnyH_take (i := 5) (v := ?_) rfl (by kernel_rfl) (by kernel_rfl) (by kernel_rfl) (fun _ _ _ h => h) (Or.inl ⟨by rfl, ?_⟩) HH.out ?_
  rotate_left
  · intro w hSw; go_simp; try with_reducible rfl
  change wpAnyH _ _ _ _ _ _ _ (Act.put _ (some 117) _) _
  simp only [Act.put, List.setIfInBounds_toArray, List.set_cons_zero, List.set_cons_succ]
  refine wpAnyH_take (i := 6) (v := ?_) rfl (by kernel_rfl) (by kernel_rfl) (by kernel_rfl) (fun _ _ _ h => h) (Or.inl ⟨by rfl, ?_⟩) HH.out ?_
  rotate_left
  · intro w hSw; go_simp; try with_reducible rfl
  change wpAnyH _ _ _ _ _ _ _ (Act.put _ (some 118) _) _
  simp only [Act.put, List.setIfInBounds_toArray, List.set_cons_zero, List.set_cons_succ]
  refine wpAnyH_take (i := 7) (v := ?_) rfl (by kernel_rfl) (by kernel_rfl) (by kernel_rfl) (fun _ _ _ h => h) (Or.inl ⟨by rfl, ?_⟩) HH.out ?_
  rotate_left
  · intro w hSw; go_simp; try with_reducible rfl
  change wpAnyH _ _ _ _ _ _ _ (Act.put _ (some 119) _) _
  simp only [Act.put, List.setIfInBounds_toArray, List.set_cons_zero, List.set_cons_succ]
  refine wpAnyH_take (i := 8) (v := ?_) rfl (by kernel_rfl) (by kernel_rfl) (by kernel_rfl) (fun _ _ _ h => h) (Or.inl ⟨by rfl, ?_⟩) HH.out ?_
  rotate_left
  · intro w hSw; go_simp; try with_reducible rfl
  change wpAnyH _ _ _ _ _ _ _ (Act.put _ (some 9) _) _
  simp only [Act.put, List.setIfInBounds_toArray, List.set_cons_zero, List.set_cons_succ]
  refine wpAnyH_done (by kernel_rfl) ?_ _
  go_upto_region 24 with (first | ((with_reducible (refine Veil.out ?_; apply wl_load1 onel26)); (case hx => rfl); (case hB => exact b10.ext (by (repeat (first | with_reducible exact Ext.refl _ | with_reducible assumption | refine Ext.trans ?_ (by with_reducible assumption) | refine Ext.alloc ?_ _ _ | refine Ext.drew ?_ | refine Ext.drewN ?_ _)))); (case ho => omega); rw [kPG]) | ((with_reducible (refine Veil.out ?_; apply wl_storeC (v := .int .u64 (px : Nat)) onel26)); (case hx => rfl); (case hy => rfl); (case h1 => rfl); (case hB => exact b10.ext (by (repeat (first | with_reducible exact Ext.refl _ | with_reducible assumption | refine Ext.trans ?_ (by with_reducible assumption) | refine Ext.alloc ?_ _ _ | refine Ext.drew ?_ | refine Ext.drewN ?_ _)))); (case hi => omega); rintro W23 b23 m23))
  have M23 : Mod (· = g) W10 W23 := (Ext.mod (show Ext W10 _ by (repeat (first | with_reducible exact Ext.refl _ | with_reducible assumption | refine Ext.trans ?_ (by with_reducible assumption) | refine Ext.alloc ?_ _ _ | refine Ext.drew ?_ | refine Ext.drewN ?_ _))) _).trans m23
  obtain ⟨hS, sS⟩ := hL.setGas (f := p) (rest := rest) rfl px hpx2 M23 b23
  obtain ⟨c23, hc23⟩ : ∃ x, Hid (updv c10 (1803 + rest.length * 65 + 7) (.int .u64 (px : Nat)) = x) := ⟨_, rfl⟩
  have hcg : ∀ i, i ≠ 1803 + rest.length * 65 + 7 → c23 i = c10 i := fun i hi => by rw [← hc23.out]; exact updv_ne _ _ hi
  rw [hc23.out] at b23 hS
  replace kOO := (hcg _ (by omega)).trans kOO
  replace hr10 := (hcg 2259 (by omega)).trans hr10
  replace kOL := (hcg _ (by omega)).trans kOL
  replace kSf := kSf.same (c' := c23) hfr.ok.self (fun j hj => hcg _ (by omega))
  have mS := mX.trans sS
  have KD := fun W (hW : Ext W23 W) => b23.ext hW
  clear HH hc23 hcg m23 M23 sS
  go_upto_region 25 with (first | ((with_reducible (refine Veil.out ?_; apply wl_allocW)); rintro B24 Wa24 ca24 ea24 ba24 aa24 ga24; have hC24 : W23.heap.size ≤ B24 := Nat.le_trans (Ext.size (show Ext W23 _ from by (repeat (first | with_reducible exact Ext.refl _ | with_reducible assumption | refine Ext.trans ?_ (by with_reducible assumption) | refine Ext.alloc ?_ _ _ | refine Ext.drew ?_ | refine Ext.drewN ?_ _)))) ga24) | ((with_reducible (refine Veil.out ?_; apply wl_storeWB)); (case hx => rfl); (case hy => first | rfl | exact wv0.symm); (case hB => exact ba24.ext (by (repeat (first | with_reducible exact Ext.refl _ | with_reducible assumption | refine Ext.trans ?_ (by with_reducible assumption) | refine Ext.alloc ?_ _ _ | refine Ext.drew ?_ | refine Ext.drewN ?_ _)))); (case hi => decide); rintro W24 c24 b24 a24 _ m24; have hE24 : Ext W23 W24 := Ext.trans_mod (by (repeat (first | with_reducible exact Ext.refl _ | with_reducible assumption | refine Ext.trans ?_ (by with_reducible assumption) | refine Ext.alloc ?_ _ _ | refine Ext.drew ?_ | refine Ext.drewN ?_ _))) m24 (fun i hi => by have hi2 : i = _ := hi; rw [hi2]; exact hC24); clear ba24 aa24 m24))
  have o24 : own B24 = 0 := hS.v.fresh _ hC24
  go_upto_region 27 with (first | ((with_reducible (refine Veil.out ?_; apply wl_storeC (v := .int .u64 1) onel26)); (case hx => rfl); (case hy => rfl); (case h1 => rfl); (case hB => exact b24.ext (by (repeat (first | with_reducible exact Ext.refl _ | with_reducible assumption | refine Ext.trans ?_ (by with_reducible assumption) | refine Ext.alloc ?_ _ _ | refine Ext.drew ?_ | refine Ext.drewN ?_ _)))); (case hi => decide); rintro W26 b26 m26; have a26 := wat_limb (x := 1) a24 (by decide); have E26 : Ext W23 W26 := Ext.trans_mod (by (repeat (first | with_reducible exact Ext.refl _ | with_reducible assumption | refine Ext.trans ?_ (by with_reducible assumption) | refine Ext.alloc ?_ _ _ | refine Ext.drew ?_ | refine Ext.drewN ?_ _))) m26 (fun i hi => by have hi2 : i = _ := hi; rw [hi2]; exact hC24)))
  obtain ⟨ol, hol⟩ : ∃ x, Hid (p.outLen = x) := ⟨_, rfl⟩
  rw [hol.out] at kOL hn1 hoL hout
  have zc : ((lo : Nat) : Int) < ol := by omega
  have wo : IntKind.u64.wrap (ol : Int) = ol := by rw [IntKind.wrap_u64]; omega
  have wl1 : IntKind.u64.wrap (lo : Int) = lo := by rw [IntKind.wrap_u64]; omega
  have wl2 : IntKind.u32.wrap (lo : Int) = lo := by rw [IntKind.wrap_u32']; omega
  go_upto_region 32 with (first | ((with_reducible (refine Veil.out ?_; apply wl_load1 onel61)); (case hx => rfl); (case hB => exact KD _ (by (repeat (first | with_reducible exact Ext.refl _ | with_reducible assumption | refine Ext.trans ?_ (by with_reducible assumption) | refine Ext.alloc ?_ _ _ | refine Ext.drew ?_ | refine Ext.drewN ?_ _)))); (case ho => omega); rw [kOL]))
  have hnp : 0 < lo := by omega
  have hfit : p.outOff + lo ≤ p.mem.length := by have := hout (by omega); omega
  have ecut : cutA out 0 lo = out.take lo := by
    unfold cutA
    rw [List.drop_zero, List.take_append_of_le_length (by have := hlo9.out; omega)]
  have hvS : NL (Mu own) W23 (.slice vo lo vc) out := by
    have := hS.m.ret
    rw [hr10] at this
    exact this
  have HWr := fun W (hW : Ext W23 W) => mMWrite (f := { p with gas := px }) (rest := rest) (hS.ext hW) rfl (Mu own) _ out (hvS.ext hW) 0 (by decide) p.outOff lo hnp hfit
  rw [ecut] at HWr
  refine w_ext ?_
  rintro W0 hW0
  have h0 := KD W0 (by (repeat (first | with_reducible exact Ext.refl _ | with_reducible assumption | refine Ext.trans ?_ (by with_reducible assumption) | refine Ext.alloc ?_ _ _ | refine Ext.drew ?_ | refine Ext.drewN ?_ _)))
  refine wp_region_held_drew (S := fun w' => CellS g c23 w') (by kernel_rfl) (CellS.of (h0.ext (Ext.refl _).drew) (fun _ _ _ => rfl)) (fun hHeld => ?_)
  have HH : Hid (CellS g c23 _) := hHeld
  clear hHeld
  refine wpAnyH_take (i := 0) (v := ?_) rfl (by kernel_rfl) (by kernel_rfl) (by kernel_rfl) (fun _ _ _ h => h) (Or.inl ⟨by rfl, ?_⟩) HH.out ?_
  rotate_left
  · intro w hSw; go_simp; try with_reducible rfl
  change wpAnyH _ _ _ _ _ _ _ (Act.put _ (some 151) _) _
  simp only [Act.put, List.setIfInBounds_toArray, List.set_cons_zero, List.set_cons_succ]
  refine wpAnyH_take (i := 1) (v := .bool true) rfl (by kernel_rfl) (by kernel_rfl) (by kernel_rfl) (fun _ _ _ h => h) (Or.inl ⟨by rfl, ?_⟩) HH.out ?_
  · intro w hSw; go_simp; try omega
  change wpAnyH _ _ _ _ _ _ _ (Act.put _ (some 152) _) _
  simp only [Act.put, List.setIfInBounds_toArray, List.set_cons_zero, List.set_cons_succ]
  refine wpAnyH_take (i := 2) (v := ?_) rfl (by kernel_rfl) (by kernel_rfl) (by kernel_rfl) (fun _ _ _ h => h) (Or.inl ⟨by rfl, ?_⟩) HH.out ?_
  rotate_left
  · intro w hSw; go_simp; try with_reducible rfl
  change wpAnyH _ _ _ _ _ _ _ (Act.put _ (some 153) _) _
  simp only [Act.put, List.setIfInBounds_toArray, List.set_cons_zero, List.set_cons_succ]
  refine wpAnyH_take (i := 3) (v := ?_) rfl (by kernel_rfl) (by kernel_rfl) (by kernel_rfl) (fun _ _ _ h => h) (Or.inl ⟨by rfl, ?_⟩) HH.out ?_
  rotate_left
  · intro w hSw; go_simp; try with_reducible rfl
  change wpAnyH _ _ _ _ _ _ _ (Act.put _ (some 154) _) _
  simp only [Act.put, List.setIfInBounds_toArray, List.set_cons_zero, List.set_cons_succ]
  refine wpAnyH_take (i := 4) (v := ?_) rfl (by kernel_rfl) (by kernel_rfl) (by kernel_rfl) (fun _ _ _ h => h) (Or.inl ⟨by rfl, ?_⟩) HH.out ?_
  rotate_left
  · intro w hSw; go_simp; try with_reducible rfl
  change wpAnyH _ _ _ _ _ _ _ (Act.put _ (some 155) _) _
  simp only [Act.put, List.setIfInBounds_toArray, List.set_cons_zero, List.set_cons_succ]
  refine wpAnyH_take (i := 5) (v := ?_) rfl (by kernel_rfl) (by kernel_rfl) (by kernel_rfl) (fun _ _ _ h => h) (Or.inl ⟨by rfl, ?_⟩) HH.out ?_
  rotate_left
  · intro w hSw; go_simp; try with_reducible rfl
  change wpAnyH _ _ _ _ _ _ _ (Act.put _ (some 156) _) _
  simp only [Act.put, List.setIfInBounds_toArray, List.set_cons_zero, List.set_cons_succ]
  refine wpAnyH_take (i := 6) (v := ?_) rfl (by kernel_rfl) (by kernel_rfl) (by kernel_rfl) (fun _ _ _ h => h) (Or.inl ⟨by rfl, ?_⟩) HH.out ?_
  rotate_left
  · intro w hSw; go_simp; try with_reducible rfl
  change wpAnyH _ _ _ _ _ _ _ (Act.put _ (some 157) _) _
  simp only [Act.put, List.setIfInBounds_toArray, List.set_cons_zero, List.set_cons_succ]
  refine wpAnyH_take (i := 7) (v := ?_) rfl (by kernel_rfl) (by kernel_rfl) (by kernel_rfl) (fun _ _ _ h => h) (Or.inl ⟨by rfl, ?_⟩) HH.out ?_
  rotate_left
  · intro w hSw; go_simp; try with_reducible rfl
  change wpAnyH _ _ _ _ _ _ _ (Act.put _ (some 158) _) _
  simp only [Act.put, List.setIfInBounds_toArray, List.set_cons_zero, List.set_cons_succ]
  refine wpAnyH_take (i := 8) (v := ?_) rfl (by kernel_rfl) (by kernel_rfl) (by kernel_rfl) (fun _ _ _ h => h) (Or.inl ⟨by rfl, ?_⟩) HH.out ?_
  rotate_left
  · intro w hSw; go_simp; try with_reducible rfl
  change wpAnyH _ _ _ _ _ _ _ (Act.put _ (some 159) _) _
  simp only [Act.put, List.setIfInBounds_toArray, List.set_cons_zero, List.set_cons_succ]
  refine wpAnyH_take (i := 9) rfl (by kernel_rfl) (by kernel_rfl) (by kernel_rfl) (fun _ _ _ h => h) (yieldsIf_load1 (by rfl) _ _ rfl _ _ rfl onel61 _ (fun w hSw => by rw [hSw _ (by omega) (by omega), kOO])) HH.out ?_
  change wpAnyH _ _ _ _ _ _ _ (Act.put _ (some 160) _) _
  simp only [Act.put, List.setIfInBounds_toArray, List.set_cons_zero, List.set_cons_succ]
  refine wpAnyH_take (i := 10) (v := ?_) rfl (by kernel_rfl) (by kernel_rfl) (by kernel_rfl) (fun _ _ _ h => h) (Or.inl ⟨by rfl, ?_⟩) HH.out ?_
  rotate_left
  · intro w hSw; go_simp; try with_reducible rfl
  change wpAnyH _ _ _ _ _ _ _ (Act.put _ (some 161) _) _
  simp only [Act.put, List.setIfInBounds_toArray, List.set_cons_zero, List.set_cons_succ]
  refine wpAnyH_take (i := 11) (v := ?_) rfl (by kernel_rfl) (by kernel_rfl) (by kernel_rfl) (fun _ _ _ h => h) (Or.inl ⟨by rfl, ?_⟩) HH.out ?_
  rotate_left
  · intro w hSw; go_simp; try with_reducible rfl
  change wpAnyH _ _ _ _ _ _ _ (Act.put _ (some 162) _) _
  simp only [Act.put, List.setIfInBounds_toArray, List.set_cons_zero, List.set_cons_succ]
  refine wpAnyH_ready (rs := [12]) (by kernel_rfl) (by simp) ?_
  refine AllReadyH.cons rfl (fun K hK => ?_) AllReadyH.nil
  go_simp
  go_at_call 267; refine (HWr _ (by (repeat (first | with_reducible exact Ext.refl _ | with_reducible assumption | refine Ext.trans ?_ (by with_reducible assumption) | refine Ext.alloc ?_ _ _ | refine Ext.drew ?_ | refine Ext.drewN ?_ _)))).mono ?_; rintro e w33 ⟨rfl, h33, m33⟩
  refine hK.out _ _ ?_ (fun hHeld => ?_)
  · exact CellS.of h33.v.blk (fun _ _ _ => rfl)
  clear hK K HH
  have HH : Hid (CellS g c23 _) := hHeld
  clear hHeld
  refine wpAnyH_take (i := 13) (v := ?_) rfl (by kernel_rfl) (by kernel_rfl) (by kernel_rfl) (fun _ _ _ h => h) (Or.inl ⟨by rfl, ?_⟩) HH.out ?_
  rotate_left
  · intro w hSw; go_simp; try with_reducible rfl
  change wpAnyH _ _ _ _ _ _ _ (Act.put _ (some 164) _) _
  simp only [Act.put, List.setIfInBounds_toArray, List.set_cons_zero, List.set_cons_succ]
  refine wpAnyH_take (i := 14) (v := ?_) rfl (by kernel_rfl) (by kernel_rfl) (by kernel_rfl) (fun _ _ _ h => h) (Or.inl ⟨by rfl, ?_⟩) HH.out ?_
  rotate_left
  · intro w hSw; go_simp; try with_reducible rfl
  change wpAnyH _ _ _ _ _ _ _ (Act.put _ (some 165) _) _
  simp only [Act.put, List.setIfInBounds_toArray, List.set_cons_zero, List.set_cons_succ]
  refine wpAnyH_done (by kernel_rfl) ?_ _
  have b33 := (b26.ext (show Ext _ W0.drew by (repeat (first | with_reducible exact Ext.refl _ | with_reducible assumption | refine Ext.trans ?_ (by with_reducible assumption) | refine Ext.alloc ?_ _ _ | refine Ext.drew ?_ | refine Ext.drewN ?_ _)))).mod m33.mod (fun q => q.1 o24)
  have mS2 := (mS.trans (MStep.ext (show Ext W23 W0.drew by (repeat (first | with_reducible exact Ext.refl _ | with_reducible assumption | refine Ext.trans ?_ (by with_reducible assumption) | refine Ext.alloc ?_ _ _ | refine Ext.drew ?_ | refine Ext.drewN ?_ _))))).trans m33
  have HS := mSetP h33 rfl 0 1 (1) (Nat.zero_le _) (show p.stack.length - 0 < 64 by omega) (by decide) (show p.pc + 1 ≤ 60000 by omega)
  clear HWr mS
  go_wp2_with (first | ((with_reducible (refine Veil.out ?_; apply wl_loadWB)); (case hx => rfl); (case hB => exact b33.ext (by (repeat (first | with_reducible exact Ext.refl _ | with_reducible assumption | refine Ext.trans ?_ (by with_reducible assumption) | refine Ext.alloc ?_ _ _ | refine Ext.drew ?_ | refine Ext.drewN ?_ _)))); (case hW => exact a26); (case hi => decide)) | (go_at_call 268; refine (HS _ (by (repeat (first | with_reducible exact Ext.refl _ | with_reducible assumption | refine Ext.trans ?_ (by with_reducible assumption) | refine Ext.alloc ?_ _ _ | refine Ext.drew ?_ | refine Ext.drewN ?_ _)))).mono ?_; rintro e w9 ⟨rfl, hfin⟩))
  go_end0
  obtain ⟨c9, h9, m9⟩ := hfin
  have el : layN p.mem p.outOff (out.take lo) = writeA p.mem p.outOff (out.take lo) := writeA_lay (by rw [List.length_take]; omega) (by rw [List.length_take]; have := hlo9.out; omega)
  rw [← hpx.out] at h9
  rw [show ({ p with gas := p.gas + f.gas, mem := layN p.mem p.outOff (out.take lo) } : AFrame) = { p with gas := p.gas + f.gas, mem := writeA p.mem p.outOff (out.take lo) } by rw [el]] at h9
  skip
  exact ⟨rfl, _, c9, h9, mS2.trans m9⟩
end
end Go.Proofs.YgvahwGreat
