import Derived.Test.YgvahwGreatOa
namespace Go.Proofs.YgvahwGreat
open Go.RowKit
set_option linter.unusedSimpArgs false
theorem cut_min {L : List Nat} {x k : Nat} (h : L.length ≤ 18446744073709551615) : cutA L (min x 18446744073709551615) k = cutA L x k := by
  by_cases hq : x ≤ 18446744073709551615
  · rw [Nat.min_eq_left hq]
  · unfold cutA
    rw [List.drop_of_length_le (by omega), List.drop_of_length_le (by omega)]
theorem copyA_pos {m src : List Nat} {d o n : Nat} (hn : n ≠ 0) (hf : d + n ≤ m.length) : layN m d (cutA src o n) = copyA m d src o n := by
  have hl : (cutA src o n).length = n := by simp [cutA]
  unfold copyA
  rw [if_neg hn, writeA_lay (by rw [hl]; exact hf) (by rw [hl]; omega)]
section
variable {own : Nat → Nat} {w : World} {g : Nat} {c : Nat → Value} {V : EV} {st : ASt} {sn stale : List Nat} {s : Nat} {f : AFrame} {rest : List AFrame}
set_option maxRecDepth 100000 in
set_option maxHeartbeats 6400000 in
theorem mOpCopy55z (h : MRep own w g c V st (s :: sn) stale) (hst : st.frames = f :: rest) (hph : st.phase = 1) (ho : f.opcode = 55) (hl : 3 ≤ f.stack.length) (hpc : f.pc ≤ 50000) (hz : f.arg 2 = 0) : Calls Hvah.prog 204 #[.pointer (some ⟨g, 0, none⟩)] w fun e w' => e = .returned (.tuple #[]) ∧ ∃ c', MRep own w' g c' V { st with frames := ({ f with mem := copyA f.mem (f.arg 0) f.input (f.arg 1) (f.arg 2) } : AFrame).settle 3 [] 1 :: rest } (s :: sn) stale ∧ MStep own w own w' := by
  obtain ⟨hfr, hr7⟩ := h.frame hst
  have hml := hfr.ok.mLen
  have HR := fun W (hW : Ext w W) => mRun (h.ext hW) hst hph
  have HO := fun W (hW : Ext w W) => mOp (h.ext hW) hst hph
  rw [ho] at HO
  have hx0 := hfr.ok.argLt 0
  have hx1 := hfr.ok.argLt 1
  have hx2 := hfr.ok.argLt 2
  have HA0 := fun W (hW : Ext w W) => mArg (h.ext hW) hst 0 (by decide)
  have HA1 := fun W (hW : Ext w W) => mArg (h.ext hW) hst 1 (by decide)
  have HA2 := fun W (hW : Ext w W) => mArg (h.ext hW) hst 2 (by decide)
  have HZ : ∀ W, Calls Hvah.prog 87 #[wv (f.arg 2)] W fun e w' => e = .returned (.bool (decide (f.arg 2 = 0))) ∧ Ext W w' := fun W => uIsZero _ W hx2
  rw [decide_eq_true hz] at HZ
  obtain ⟨v, hv0⟩ : ∃ v, Hid (c (1803 + rest.length * 65 + 54) = v) := ⟨_, rfl⟩
  have hv := hfr.input
  rw [hv0.out] at hv
  have KC : ∀ W, Ext w W → W.cell? ⟨g, 1803 + rest.length * 65 + 54, none⟩ = some v := fun W hW => by rw [(h.v.blk.ext hW).cell (by omega), hv0.out]
  clear hv0
  rw [show copyA f.mem (f.arg 0) f.input (f.arg 1) (f.arg 2) = f.mem from if_pos hz]
  clear hz
  have HS := mSetN h hst 3 1 0 (by omega) (by omega)
  rw [wv0] at HS
  go_enter Hvah.func204, Hvah.ntmps204
  go_upto_region 3 with (first | (go_at_call 192; refine (HR _ (by (repeat (first | with_reducible exact Ext.refl _ | with_reducible assumption | refine Ext.trans ?_ (by with_reducible assumption) | refine Ext.alloc ?_ _ _ | refine Ext.drew ?_ | refine Ext.drewN ?_ _)))).mono ?_; rintro e w1 ⟨rfl, he⟩) | (go_at_call_of 273 (Value.int IntKind.i64 0); refine (HA0 _ (by (repeat (first | with_reducible exact Ext.refl _ | with_reducible assumption | refine Ext.trans ?_ (by with_reducible assumption) | refine Ext.alloc ?_ _ _ | refine Ext.drew ?_ | refine Ext.drewN ?_ _)))).mono ?_; rintro e w1 ⟨rfl, he⟩) | ((with_reducible (refine Veil.out ?_; apply wl_allocW)); rintro B3 Wa3 ca3 ea3 ba3 aa3 ga3; have hC3 : w.heap.size ≤ B3 := Nat.le_trans (Ext.size (show Ext w _ from by (repeat (first | with_reducible exact Ext.refl _ | with_reducible assumption | refine Ext.trans ?_ (by with_reducible assumption) | refine Ext.alloc ?_ _ _ | refine Ext.drew ?_ | refine Ext.drewN ?_ _)))) ga3) | ((with_reducible (refine Veil.out ?_; apply wl_storeWB)); (case hx => rfl); (case hy => first | rfl | exact wv0.symm); (case hB => exact ba3.ext (by (repeat (first | with_reducible exact Ext.refl _ | with_reducible assumption | refine Ext.trans ?_ (by with_reducible assumption) | refine Ext.alloc ?_ _ _ | refine Ext.drew ?_ | refine Ext.drewN ?_ _)))); (case hi => decide); rintro W3 c3 b3 a3 _ m3; have hE3 : Ext w W3 := Ext.trans_mod (by (repeat (first | with_reducible exact Ext.refl _ | with_reducible assumption | refine Ext.trans ?_ (by with_reducible assumption) | refine Ext.alloc ?_ _ _ | refine Ext.drew ?_ | refine Ext.drewN ?_ _))) m3 (fun i hi => by have hi2 : i = _ := hi; rw [hi2]; exact hC3); clear ba3 aa3 m3))
  go_upto_region 4 with (first | (go_at_call_of 273 (Value.int IntKind.i64 1); refine (HA1 _ (by (repeat (first | with_reducible exact Ext.refl _ | with_reducible assumption | refine Ext.trans ?_ (by with_reducible assumption) | refine Ext.alloc ?_ _ _ | refine Ext.drew ?_ | refine Ext.drewN ?_ _)))).mono ?_; rintro e w1 ⟨rfl, he⟩) | ((with_reducible (refine Veil.out ?_; apply wl_allocW)); rintro B4 Wa4 ca4 ea4 ba4 aa4 ga4; have hC4 : W3.heap.size ≤ B4 := Nat.le_trans (Ext.size (show Ext W3 _ from by (repeat (first | with_reducible exact Ext.refl _ | with_reducible assumption | refine Ext.trans ?_ (by with_reducible assumption) | refine Ext.alloc ?_ _ _ | refine Ext.drew ?_ | refine Ext.drewN ?_ _)))) ga4) | ((with_reducible (refine Veil.out ?_; apply wl_storeWB)); (case hx => rfl); (case hy => first | rfl | exact wv0.symm); (case hB => exact ba4.ext (by (repeat (first | with_reducible exact Ext.refl _ | with_reducible assumption | refine Ext.trans ?_ (by with_reducible assumption) | refine Ext.alloc ?_ _ _ | refine Ext.drew ?_ | refine Ext.drewN ?_ _)))); (case hi => decide); rintro W4 c4 b4 a4 _ m4; have hE4 : Ext W3 W4 := Ext.trans_mod (by (repeat (first | with_reducible exact Ext.refl _ | with_reducible assumption | refine Ext.trans ?_ (by with_reducible assumption) | refine Ext.alloc ?_ _ _ | refine Ext.drew ?_ | refine Ext.drewN ?_ _))) m4 (fun i hi => by have hi2 : i = _ := hi; rw [hi2]; exact hC4); clear ba4 aa4 m4))
  go_upto_region 5 with (first | (go_at_call_of 273 (Value.int IntKind.i64 2); refine (HA2 _ (by (repeat (first | with_reducible exact Ext.refl _ | with_reducible assumption | refine Ext.trans ?_ (by with_reducible assumption) | refine Ext.alloc ?_ _ _ | refine Ext.drew ?_ | refine Ext.drewN ?_ _)))).mono ?_; rintro e w1 ⟨rfl, he⟩) | ((with_reducible (refine Veil.out ?_; apply wl_allocW)); rintro B5 Wa5 ca5 ea5 ba5 aa5 ga5; have hC5 : W4.heap.size ≤ B5 := Nat.le_trans (Ext.size (show Ext W4 _ from by (repeat (first | with_reducible exact Ext.refl _ | with_reducible assumption | refine Ext.trans ?_ (by with_reducible assumption) | refine Ext.alloc ?_ _ _ | refine Ext.drew ?_ | refine Ext.drewN ?_ _)))) ga5) | ((with_reducible (refine Veil.out ?_; apply wl_storeWB)); (case hx => rfl); (case hy => first | rfl | exact wv0.symm); (case hB => exact ba5.ext (by (repeat (first | with_reducible exact Ext.refl _ | with_reducible assumption | refine Ext.trans ?_ (by with_reducible assumption) | refine Ext.alloc ?_ _ _ | refine Ext.drew ?_ | refine Ext.drewN ?_ _)))); (case hi => decide); rintro W5 c5 b5 a5 _ m5; have hE5 : Ext W4 W5 := Ext.trans_mod (by (repeat (first | with_reducible exact Ext.refl _ | with_reducible assumption | refine Ext.trans ?_ (by with_reducible assumption) | refine Ext.alloc ?_ _ _ | refine Ext.drew ?_ | refine Ext.drewN ?_ _))) m5 (fun i hi => by have hi2 : i = _ := hi; rw [hi2]; exact hC5); clear ba5 aa5 m5))
  go_wp2_with (first | (go_at_call 117; refine (HO _ (by (repeat (first | with_reducible exact Ext.refl _ | with_reducible assumption | refine Ext.trans ?_ (by with_reducible assumption) | refine Ext.alloc ?_ _ _ | refine Ext.drew ?_ | refine Ext.drewN ?_ _)))).mono ?_; rintro e w1 ⟨rfl, he⟩) | ((with_reducible (refine Veil.out ?_; apply wl_loadC one32)); (case hw => rfl); (case hx => rfl); (case hc => exact KC _ (by (repeat (first | with_reducible exact Ext.refl _ | with_reducible assumption | refine Ext.trans ?_ (by with_reducible assumption) | refine Ext.alloc ?_ _ _ | refine Ext.drew ?_ | refine Ext.drewN ?_ _))))) | ((with_reducible (refine Veil.out ?_; apply wl_loadWB)); (case hx => rfl); (case hB => exact b5.ext (by (repeat (first | with_reducible exact Ext.refl _ | with_reducible assumption | refine Ext.trans ?_ (by with_reducible assumption) | refine Ext.alloc ?_ _ _ | refine Ext.drew ?_ | refine Ext.drewN ?_ _)))); (case hW => exact a5); (case hi => decide)) | (go_at_call 87; refine (HZ _).mono ?_; rintro e w4 ⟨rfl, he4⟩) | (go_at_call 268; refine (HS _ (by (repeat (first | with_reducible exact Ext.refl _ | with_reducible assumption | refine Ext.trans ?_ (by with_reducible assumption) | refine Ext.alloc ?_ _ _ | refine Ext.drew ?_ | refine Ext.drewN ?_ _)))).mono ?_; rintro e w9 ⟨rfl, hfin⟩))
  go_end0
  exact ⟨rfl, hfin⟩
set_option maxRecDepth 100000 in
set_option maxHeartbeats 6400000 in
theorem mOpCopy55 (h : MRep own w g c V st (s :: sn) stale) (hst : st.frames = f :: rest) (hph : st.phase = 1) (ho : f.opcode = 55) (hl : 3 ≤ f.stack.length) (hpc : f.pc ≤ 50000) (hz : f.arg 2 ≠ 0) (hf : f.arg 0 + f.arg 2 ≤ f.mem.length) : Calls Hvah.prog 204 #[.pointer (some ⟨g, 0, none⟩)] w fun e w' => e = .returned (.tuple #[]) ∧ ∃ c', MRep own w' g c' V { st with frames := ({ f with mem := copyA f.mem (f.arg 0) f.input (f.arg 1) (f.arg 2) } : AFrame).settle 3 [] 1 :: rest } (s :: sn) stale ∧ MStep own w own w' := by
  obtain ⟨hfr, hr7⟩ := h.frame hst
  have hml := hfr.ok.mLen
  have HR := fun W (hW : Ext w W) => mRun (h.ext hW) hst hph
  have HO := fun W (hW : Ext w W) => mOp (h.ext hW) hst hph
  rw [ho] at HO
  have hx0 := hfr.ok.argLt 0
  have hx1 := hfr.ok.argLt 1
  have hx2 := hfr.ok.argLt 2
  have HA0 := fun W (hW : Ext w W) => mArg (h.ext hW) hst 0 (by decide)
  have HA1 := fun W (hW : Ext w W) => mArg (h.ext hW) hst 1 (by decide)
  have HA2 := fun W (hW : Ext w W) => mArg (h.ext hW) hst 2 (by decide)
  have HZ : ∀ W, Calls Hvah.prog 87 #[wv (f.arg 2)] W fun e w' => e = .returned (.bool (decide (f.arg 2 = 0))) ∧ Ext W w' := fun W => uIsZero _ W hx2
  rw [decide_eq_false hz] at HZ
  obtain ⟨v, hv0⟩ : ∃ v, Hid (c (1803 + rest.length * 65 + 54) = v) := ⟨_, rfl⟩
  have hv := hfr.input
  rw [hv0.out] at hv
  have KC : ∀ W, Ext w W → W.cell? ⟨g, 1803 + rest.length * 65 + 54, none⟩ = some v := fun W hW => by rw [(h.v.blk.ext hW).cell (by omega), hv0.out]
  clear hv0
  have hk : 0 < f.arg 2 := by omega
  obtain ⟨vo, vc, rfl, i1, i2, i3⟩ := hv
  have hv : NL (Mu own) w (.slice vo f.input.length vc) f.input := ⟨vo, vc, rfl, i1, i2, i3⟩
  have hms : min (f.arg 1) 18446744073709551615 < 18446744073709551616 := by omega
  have HST := fun W (hW : Ext w W) => mMWrite (h.ext hW) hst (Mu own) _ _ (hv.ext hW) (min (f.arg 1) 18446744073709551615) hms (f.arg 0) (f.arg 2) hk hf
  rw [cut_min (by omega), copyA_pos hz hf] at HST
  have HM0 := fun W => mSmall (f.arg 0) W hx0
  have HM2 := fun W => mSmall (f.arg 2) W hx2
  rw [show min (f.arg 0) 4294967295 = f.arg 0 by omega] at HM0
  rw [show min (f.arg 2) 4294967295 = f.arg 2 by omega] at HM2
  have HM1 := fun W => mSource (f.arg 1) W hx1
  go_enter Hvah.func204, Hvah.ntmps204
  go_upto_region 3 with (first | (go_at_call 192; refine (HR _ (by (repeat (first | with_reducible exact Ext.refl _ | with_reducible assumption | refine Ext.trans ?_ (by with_reducible assumption) | refine Ext.alloc ?_ _ _ | refine Ext.drew ?_ | refine Ext.drewN ?_ _)))).mono ?_; rintro e w1 ⟨rfl, he⟩) | (go_at_call_of 273 (Value.int IntKind.i64 0); refine (HA0 _ (by (repeat (first | with_reducible exact Ext.refl _ | with_reducible assumption | refine Ext.trans ?_ (by with_reducible assumption) | refine Ext.alloc ?_ _ _ | refine Ext.drew ?_ | refine Ext.drewN ?_ _)))).mono ?_; rintro e w1 ⟨rfl, he⟩) | ((with_reducible (refine Veil.out ?_; apply wl_allocW)); rintro B3 Wa3 ca3 ea3 ba3 aa3 ga3; have hC3 : w.heap.size ≤ B3 := Nat.le_trans (Ext.size (show Ext w _ from by (repeat (first | with_reducible exact Ext.refl _ | with_reducible assumption | refine Ext.trans ?_ (by with_reducible assumption) | refine Ext.alloc ?_ _ _ | refine Ext.drew ?_ | refine Ext.drewN ?_ _)))) ga3) | ((with_reducible (refine Veil.out ?_; apply wl_storeWB)); (case hx => rfl); (case hy => first | rfl | exact wv0.symm); (case hB => exact ba3.ext (by (repeat (first | with_reducible exact Ext.refl _ | with_reducible assumption | refine Ext.trans ?_ (by with_reducible assumption) | refine Ext.alloc ?_ _ _ | refine Ext.drew ?_ | refine Ext.drewN ?_ _)))); (case hi => decide); rintro W3 c3 b3 a3 _ m3; have hE3 : Ext w W3 := Ext.trans_mod (by (repeat (first | with_reducible exact Ext.refl _ | with_reducible assumption | refine Ext.trans ?_ (by with_reducible assumption) | refine Ext.alloc ?_ _ _ | refine Ext.drew ?_ | refine Ext.drewN ?_ _))) m3 (fun i hi => by have hi2 : i = _ := hi; rw [hi2]; exact hC3); clear ba3 aa3 m3))
  go_upto_region 4 with (first | (go_at_call_of 273 (Value.int IntKind.i64 1); refine (HA1 _ (by (repeat (first | with_reducible exact Ext.refl _ | with_reducible assumption | refine Ext.trans ?_ (by with_reducible assumption) | refine Ext.alloc ?_ _ _ | refine Ext.drew ?_ | refine Ext.drewN ?_ _)))).mono ?_; rintro e w1 ⟨rfl, he⟩) | ((with_reducible (refine Veil.out ?_; apply wl_allocW)); rintro B4 Wa4 ca4 ea4 ba4 aa4 ga4; have hC4 : W3.heap.size ≤ B4 := Nat.le_trans (Ext.size (show Ext W3 _ from by (repeat (first | with_reducible exact Ext.refl _ | with_reducible assumption | refine Ext.trans ?_ (by with_reducible assumption) | refine Ext.alloc ?_ _ _ | refine Ext.drew ?_ | refine Ext.drewN ?_ _)))) ga4) | ((with_reducible (refine Veil.out ?_; apply wl_storeWB)); (case hx => rfl); (case hy => first | rfl | exact wv0.symm); (case hB => exact ba4.ext (by (repeat (first | with_reducible exact Ext.refl _ | with_reducible assumption | refine Ext.trans ?_ (by with_reducible assumption) | refine Ext.alloc ?_ _ _ | refine Ext.drew ?_ | refine Ext.drewN ?_ _)))); (case hi => decide); rintro W4 c4 b4 a4 _ m4; have hE4 : Ext W3 W4 := Ext.trans_mod (by (repeat (first | with_reducible exact Ext.refl _ | with_reducible assumption | refine Ext.trans ?_ (by with_reducible assumption) | refine Ext.alloc ?_ _ _ | refine Ext.drew ?_ | refine Ext.drewN ?_ _))) m4 (fun i hi => by have hi2 : i = _ := hi; rw [hi2]; exact hC4); clear ba4 aa4 m4))
  go_upto_region 5 with (first | (go_at_call_of 273 (Value.int IntKind.i64 2); refine (HA2 _ (by (repeat (first | with_reducible exact Ext.refl _ | with_reducible assumption | refine Ext.trans ?_ (by with_reducible assumption) | refine Ext.alloc ?_ _ _ | refine Ext.drew ?_ | refine Ext.drewN ?_ _)))).mono ?_; rintro e w1 ⟨rfl, he⟩) | ((with_reducible (refine Veil.out ?_; apply wl_allocW)); rintro B5 Wa5 ca5 ea5 ba5 aa5 ga5; have hC5 : W4.heap.size ≤ B5 := Nat.le_trans (Ext.size (show Ext W4 _ from by (repeat (first | with_reducible exact Ext.refl _ | with_reducible assumption | refine Ext.trans ?_ (by with_reducible assumption) | refine Ext.alloc ?_ _ _ | refine Ext.drew ?_ | refine Ext.drewN ?_ _)))) ga5) | ((with_reducible (refine Veil.out ?_; apply wl_storeWB)); (case hx => rfl); (case hy => first | rfl | exact wv0.symm); (case hB => exact ba5.ext (by (repeat (first | with_reducible exact Ext.refl _ | with_reducible assumption | refine Ext.trans ?_ (by with_reducible assumption) | refine Ext.alloc ?_ _ _ | refine Ext.drew ?_ | refine Ext.drewN ?_ _)))); (case hi => decide); rintro W5 c5 b5 a5 _ m5; have hE5 : Ext W4 W5 := Ext.trans_mod (by (repeat (first | with_reducible exact Ext.refl _ | with_reducible assumption | refine Ext.trans ?_ (by with_reducible assumption) | refine Ext.alloc ?_ _ _ | refine Ext.drew ?_ | refine Ext.drewN ?_ _))) m5 (fun i hi => by have hi2 : i = _ := hi; rw [hi2]; exact hC5); clear ba5 aa5 m5))
  have hq4 : w.heap.size ≤ B4 := Nat.le_trans (Ext.size hE3) hC4
  have hq5 : w.heap.size ≤ B5 := Nat.le_trans (Ext.size (show Ext w W4 from by (repeat (first | with_reducible exact Ext.refl _ | with_reducible assumption | refine Ext.trans ?_ (by with_reducible assumption) | refine Ext.alloc ?_ _ _ | refine Ext.drew ?_ | refine Ext.drewN ?_ _)))) hC5
  have hn3 : ¬ (own B3 ≠ 0 ∧ own B3 ≠ 9) := fun q => q.1 (h.v.fresh _ hC3)
  have hn4 : ¬ (own B4 ≠ 0 ∧ own B4 ≠ 9) := fun q => q.1 (h.v.fresh _ hq4)
  have hn5 : ¬ (own B5 ≠ 0 ∧ own B5 ≠ 9) := fun q => q.1 (h.v.fresh _ hq5)
  go_upto_region 28 with (first | (go_at_call 117; refine (HO _ (by (repeat (first | with_reducible exact Ext.refl _ | with_reducible assumption | refine Ext.trans ?_ (by with_reducible assumption) | refine Ext.alloc ?_ _ _ | refine Ext.drew ?_ | refine Ext.drewN ?_ _)))).mono ?_; rintro e w1 ⟨rfl, he⟩) | ((with_reducible (refine Veil.out ?_; apply wl_loadC one32)); (case hw => rfl); (case hx => rfl); (case hc => exact KC _ (by (repeat (first | with_reducible exact Ext.refl _ | with_reducible assumption | refine Ext.trans ?_ (by with_reducible assumption) | refine Ext.alloc ?_ _ _ | refine Ext.drew ?_ | refine Ext.drewN ?_ _))))) | ((with_reducible (refine Veil.out ?_; apply wl_loadWB)); (case hx => rfl); (case hB => exact b5.ext (by (repeat (first | with_reducible exact Ext.refl _ | with_reducible assumption | refine Ext.trans ?_ (by with_reducible assumption) | refine Ext.alloc ?_ _ _ | refine Ext.drew ?_ | refine Ext.drewN ?_ _)))); (case hW => exact a5); (case hi => decide)) | (go_at_call 87; refine (HZ _).mono ?_; rintro e w4 ⟨rfl, he4⟩))
  clear HR HO HA0 HA1 HA2
  refine w_ext ?_
  rintro W0 hW0
  refine wp_region_held_drew (S := fun w' => Mod (fun b => own b ≠ 0 ∧ own b ≠ 9) W0 w') (by kernel_rfl) (Mod.refl _ _).drew (fun hHeld => ?_)
  have HH : Hid (Mod (fun b => own b ≠ 0 ∧ own b ≠ 9) W0 _) := hHeld
  clear hHeld
  refine wpAnyH_take (i := 0) (v := ?_) rfl (by kernel_rfl) (by kernel_rfl) (by kernel_rfl) (fun _ _ _ h => h) (Or.inl ⟨by rfl, ?_⟩) HH.out ?_
  rotate_left
  · intro w hSw; go_simp; try with_reducible rfl
  change wpAnyH _ _ _ _ _ _ _ (Act.put _ (some 85) _) _
  simp only [Act.put, List.setIfInBounds_toArray, List.set_cons_zero, List.set_cons_succ]
  refine wpAnyH_take (i := 1) (v := ?_) rfl (by kernel_rfl) (by kernel_rfl) (by kernel_rfl) (fun _ _ _ h => h) (Or.inl ⟨by rfl, ?_⟩) HH.out ?_
  rotate_left
  · intro w hSw; go_simp; try with_reducible rfl
  change wpAnyH _ _ _ _ _ _ _ (Act.put _ (some 86) _) _
  simp only [Act.put, List.setIfInBounds_toArray, List.set_cons_zero, List.set_cons_succ]
  refine wpAnyH_take (i := 2) (v := ?_) rfl (by kernel_rfl) (by kernel_rfl) (by kernel_rfl) (fun _ _ _ h => h) (Or.inl ⟨by rfl, ?_⟩) HH.out ?_
  rotate_left
  · intro w hSw; go_simp; try with_reducible rfl
  change wpAnyH _ _ _ _ _ _ _ (Act.put _ (some 87) _) _
  simp only [Act.put, List.setIfInBounds_toArray, List.set_cons_zero, List.set_cons_succ]
  refine wpAnyH_take (i := 3) rfl (by kernel_rfl) (by kernel_rfl) (by kernel_rfl) (fun _ _ _ h => h) (yields_W (by rfl) rfl rfl (fun w hSw => (b3.ext (show Ext _ W0 from by (repeat (first | with_reducible exact Ext.refl _ | with_reducible assumption | refine Ext.trans ?_ (by with_reducible assumption) | refine Ext.alloc ?_ _ _ | refine Ext.drew ?_ | refine Ext.drewN ?_ _)))).mod hSw hn3) a3 (by decide)) HH.out ?_
  change wpAnyH _ _ _ _ _ _ _ (Act.put _ (some 88) _) _
  simp only [Act.put, List.setIfInBounds_toArray, List.set_cons_zero, List.set_cons_succ]
  refine wpAnyH_take (i := 5) (v := ?_) rfl (by kernel_rfl) (by kernel_rfl) (by kernel_rfl) (fun _ _ _ h => h) (Or.inl ⟨by rfl, ?_⟩) HH.out ?_
  rotate_left
  · intro w hSw; go_simp; try with_reducible rfl
  change wpAnyH _ _ _ _ _ _ _ (Act.put _ (some 90) _) _
  simp only [Act.put, List.setIfInBounds_toArray, List.set_cons_zero, List.set_cons_succ]
  refine wpAnyH_take (i := 6) rfl (by kernel_rfl) (by kernel_rfl) (by kernel_rfl) (fun _ _ _ h => h) (yields_W (by rfl) rfl rfl (fun w hSw => (b4.ext (show Ext _ W0 from by (repeat (first | with_reducible exact Ext.refl _ | with_reducible assumption | refine Ext.trans ?_ (by with_reducible assumption) | refine Ext.alloc ?_ _ _ | refine Ext.drew ?_ | refine Ext.drewN ?_ _)))).mod hSw hn4) a4 (by decide)) HH.out ?_
  change wpAnyH _ _ _ _ _ _ _ (Act.put _ (some 91) _) _
  simp only [Act.put, List.setIfInBounds_toArray, List.set_cons_zero, List.set_cons_succ]
  refine wpAnyH_take (i := 8) rfl (by kernel_rfl) (by kernel_rfl) (by kernel_rfl) (fun _ _ _ h => h) (yields_W (by rfl) rfl rfl (fun w hSw => (b5.ext (show Ext _ W0 from by (repeat (first | with_reducible exact Ext.refl _ | with_reducible assumption | refine Ext.trans ?_ (by with_reducible assumption) | refine Ext.alloc ?_ _ _ | refine Ext.drew ?_ | refine Ext.drewN ?_ _)))).mod hSw hn5) a5 (by decide)) HH.out ?_
  change wpAnyH _ _ _ _ _ _ _ (Act.put _ (some 93) _) _
  simp only [Act.put, List.setIfInBounds_toArray, List.set_cons_zero, List.set_cons_succ]
  refine wpAnyH_ready (rs := [4]) (by kernel_rfl) (by simp) ?_
  refine AllReadyH.cons rfl (fun K hK => ?_) AllReadyH.nil
  go_simp
  go_at_call 308; refine (HM0 _).mono ?_; rintro e w4 ⟨rfl, he⟩
  refine hK.out _ _ ?_ (fun hHeld => ?_)
  · first | exact HH.out.trans_ext he | exact HH.out.trans m5.mod
  clear hK K HH
  have HH : Hid (Mod (fun b => own b ≠ 0 ∧ own b ≠ 9) W0 _) := hHeld
  clear hHeld
  refine wpAnyH_ready (rs := [7]) (by kernel_rfl) (by simp) ?_
  refine AllReadyH.cons rfl (fun K hK => ?_) AllReadyH.nil
  go_simp
  go_at_call 306; refine (HM1 _).mono ?_; rintro e w4 ⟨rfl, he⟩
  refine hK.out _ _ ?_ (fun hHeld => ?_)
  · first | exact HH.out.trans_ext he | exact HH.out.trans m5.mod
  clear hK K HH
  have HH : Hid (Mod (fun b => own b ≠ 0 ∧ own b ≠ 9) W0 _) := hHeld
  clear hHeld
  refine wpAnyH_ready (rs := [9]) (by kernel_rfl) (by simp) ?_
  refine AllReadyH.cons rfl (fun K hK => ?_) AllReadyH.nil
  go_simp
  go_at_call 308; refine (HM2 _).mono ?_; rintro e w4 ⟨rfl, he⟩
  refine hK.out _ _ ?_ (fun hHeld => ?_)
  · first | exact HH.out.trans_ext he | exact HH.out.trans m5.mod
  clear hK K HH
  have HH : Hid (Mod (fun b => own b ≠ 0 ∧ own b ≠ 9) W0 _) := hHeld
  clear hHeld
  refine wpAnyH_ready (rs := [10]) (by kernel_rfl) (by simp) ?_
  refine AllReadyH.cons rfl (fun K hK => ?_) AllReadyH.nil
  go_simp
  go_at_call 267; refine (HST _ (by (repeat (first | with_reducible exact Ext.refl _ | with_reducible assumption | refine Ext.trans ?_ (by with_reducible assumption) | refine Ext.alloc ?_ _ _ | refine Ext.drew ?_ | refine Ext.drewN ?_ _)))).mono ?_; rintro e w5 ⟨rfl, h5, m5⟩
  refine hK.out _ _ ?_ (fun hHeld => ?_)
  · first | exact HH.out.trans_ext he | exact HH.out.trans m5.mod
  clear hK K HH
  have HH : Hid (Mod (fun b => own b ≠ 0 ∧ own b ≠ 9) W0 _) := hHeld
  clear hHeld
  refine wpAnyH_take (i := 11) (v := ?_) rfl (by kernel_rfl) (by kernel_rfl) (by kernel_rfl) (fun _ _ _ h => h) (Or.inl ⟨by rfl, ?_⟩) HH.out ?_
  rotate_left
  · intro w hSw; go_simp; try with_reducible rfl
  change wpAnyH _ _ _ _ _ _ _ (Act.put _ (some 10) _) _
  simp only [Act.put, List.setIfInBounds_toArray, List.set_cons_zero, List.set_cons_succ]
  refine wpAnyH_done (by kernel_rfl) ?_ _
  have mS : MStep own w own w5 := (MStep.ext (by (repeat (first | with_reducible exact Ext.refl _ | with_reducible assumption | refine Ext.trans ?_ (by with_reducible assumption) | refine Ext.alloc ?_ _ _ | refine Ext.drew ?_ | refine Ext.drewN ?_ _)))).trans m5
  have HS := mSetN h5 rfl 3 1 0 hl (show f.pc + 1 ≤ 60000 by omega)
  rw [wv0] at HS
  clear HST m5
  go_wp2_with (first | (go_at_call 268; refine (HS _ (by (repeat (first | with_reducible exact Ext.refl _ | with_reducible assumption | refine Ext.trans ?_ (by with_reducible assumption) | refine Ext.alloc ?_ _ _ | refine Ext.drew ?_ | refine Ext.drewN ?_ _)))).mono ?_; rintro e w9 ⟨rfl, hfin⟩))
  go_end0
  obtain ⟨c9, h9, m9⟩ := hfin
  exact ⟨rfl, c9, h9, mS.trans m9⟩
set_option maxRecDepth 100000 in
set_option maxHeartbeats 6400000 in
theorem mOpCopy57z (h : MRep own w g c V st (s :: sn) stale) (hst : st.frames = f :: rest) (hph : st.phase = 1) (ho : f.opcode = 57) (hl : 3 ≤ f.stack.length) (hpc : f.pc ≤ 50000) (hz : f.arg 2 = 0) : Calls Hvah.prog 204 #[.pointer (some ⟨g, 0, none⟩)] w fun e w' => e = .returned (.tuple #[]) ∧ ∃ c', MRep own w' g c' V { st with frames := ({ f with mem := copyA f.mem (f.arg 0) f.code (f.arg 1) (f.arg 2) } : AFrame).settle 3 [] 1 :: rest } (s :: sn) stale ∧ MStep own w own w' := by
  obtain ⟨hfr, hr7⟩ := h.frame hst
  have hml := hfr.ok.mLen
  have HR := fun W (hW : Ext w W) => mRun (h.ext hW) hst hph
  have HO := fun W (hW : Ext w W) => mOp (h.ext hW) hst hph
  rw [ho] at HO
  have hx0 := hfr.ok.argLt 0
  have hx1 := hfr.ok.argLt 1
  have hx2 := hfr.ok.argLt 2
  have HA0 := fun W (hW : Ext w W) => mArg (h.ext hW) hst 0 (by decide)
  have HA1 := fun W (hW : Ext w W) => mArg (h.ext hW) hst 1 (by decide)
  have HA2 := fun W (hW : Ext w W) => mArg (h.ext hW) hst 2 (by decide)
  have HZ : ∀ W, Calls Hvah.prog 87 #[wv (f.arg 2)] W fun e w' => e = .returned (.bool (decide (f.arg 2 = 0))) ∧ Ext W w' := fun W => uIsZero _ W hx2
  rw [decide_eq_true hz] at HZ
  obtain ⟨v, hv0⟩ : ∃ v, Hid (c (1803 + rest.length * 65 + 53) = v) := ⟨_, rfl⟩
  have hv := hfr.code
  rw [hv0.out] at hv
  have KC : ∀ W, Ext w W → W.cell? ⟨g, 1803 + rest.length * 65 + 53, none⟩ = some v := fun W hW => by rw [(h.v.blk.ext hW).cell (by omega), hv0.out]
  clear hv0
  rw [show copyA f.mem (f.arg 0) f.code (f.arg 1) (f.arg 2) = f.mem from if_pos hz]
  clear hz
  have HS := mSetN h hst 3 1 0 (by omega) (by omega)
  rw [wv0] at HS
  go_enter Hvah.func204, Hvah.ntmps204
  go_upto_region 3 with (first | (go_at_call 192; refine (HR _ (by (repeat (first | with_reducible exact Ext.refl _ | with_reducible assumption | refine Ext.trans ?_ (by with_reducible assumption) | refine Ext.alloc ?_ _ _ | refine Ext.drew ?_ | refine Ext.drewN ?_ _)))).mono ?_; rintro e w1 ⟨rfl, he⟩) | (go_at_call_of 273 (Value.int IntKind.i64 0); refine (HA0 _ (by (repeat (first | with_reducible exact Ext.refl _ | with_reducible assumption | refine Ext.trans ?_ (by with_reducible assumption) | refine Ext.alloc ?_ _ _ | refine Ext.drew ?_ | refine Ext.drewN ?_ _)))).mono ?_; rintro e w1 ⟨rfl, he⟩) | ((with_reducible (refine Veil.out ?_; apply wl_allocW)); rintro B3 Wa3 ca3 ea3 ba3 aa3 ga3; have hC3 : w.heap.size ≤ B3 := Nat.le_trans (Ext.size (show Ext w _ from by (repeat (first | with_reducible exact Ext.refl _ | with_reducible assumption | refine Ext.trans ?_ (by with_reducible assumption) | refine Ext.alloc ?_ _ _ | refine Ext.drew ?_ | refine Ext.drewN ?_ _)))) ga3) | ((with_reducible (refine Veil.out ?_; apply wl_storeWB)); (case hx => rfl); (case hy => first | rfl | exact wv0.symm); (case hB => exact ba3.ext (by (repeat (first | with_reducible exact Ext.refl _ | with_reducible assumption | refine Ext.trans ?_ (by with_reducible assumption) | refine Ext.alloc ?_ _ _ | refine Ext.drew ?_ | refine Ext.drewN ?_ _)))); (case hi => decide); rintro W3 c3 b3 a3 _ m3; have hE3 : Ext w W3 := Ext.trans_mod (by (repeat (first | with_reducible exact Ext.refl _ | with_reducible assumption | refine Ext.trans ?_ (by with_reducible assumption) | refine Ext.alloc ?_ _ _ | refine Ext.drew ?_ | refine Ext.drewN ?_ _))) m3 (fun i hi => by have hi2 : i = _ := hi; rw [hi2]; exact hC3); clear ba3 aa3 m3))
  go_upto_region 4 with (first | (go_at_call_of 273 (Value.int IntKind.i64 1); refine (HA1 _ (by (repeat (first | with_reducible exact Ext.refl _ | with_reducible assumption | refine Ext.trans ?_ (by with_reducible assumption) | refine Ext.alloc ?_ _ _ | refine Ext.drew ?_ | refine Ext.drewN ?_ _)))).mono ?_; rintro e w1 ⟨rfl, he⟩) | ((with_reducible (refine Veil.out ?_; apply wl_allocW)); rintro B4 Wa4 ca4 ea4 ba4 aa4 ga4; have hC4 : W3.heap.size ≤ B4 := Nat.le_trans (Ext.size (show Ext W3 _ from by (repeat (first | with_reducible exact Ext.refl _ | with_reducible assumption | refine Ext.trans ?_ (by with_reducible assumption) | refine Ext.alloc ?_ _ _ | refine Ext.drew ?_ | refine Ext.drewN ?_ _)))) ga4) | ((with_reducible (refine Veil.out ?_; apply wl_storeWB)); (case hx => rfl); (case hy => first | rfl | exact wv0.symm); (case hB => exact ba4.ext (by (repeat (first | with_reducible exact Ext.refl _ | with_reducible assumption | refine Ext.trans ?_ (by with_reducible assumption) | refine Ext.alloc ?_ _ _ | refine Ext.drew ?_ | refine Ext.drewN ?_ _)))); (case hi => decide); rintro W4 c4 b4 a4 _ m4; have hE4 : Ext W3 W4 := Ext.trans_mod (by (repeat (first | with_reducible exact Ext.refl _ | with_reducible assumption | refine Ext.trans ?_ (by with_reducible assumption) | refine Ext.alloc ?_ _ _ | refine Ext.drew ?_ | refine Ext.drewN ?_ _))) m4 (fun i hi => by have hi2 : i = _ := hi; rw [hi2]; exact hC4); clear ba4 aa4 m4))
  go_upto_region 5 with (first | (go_at_call_of 273 (Value.int IntKind.i64 2); refine (HA2 _ (by (repeat (first | with_reducible exact Ext.refl _ | with_reducible assumption | refine Ext.trans ?_ (by with_reducible assumption) | refine Ext.alloc ?_ _ _ | refine Ext.drew ?_ | refine Ext.drewN ?_ _)))).mono ?_; rintro e w1 ⟨rfl, he⟩) | ((with_reducible (refine Veil.out ?_; apply wl_allocW)); rintro B5 Wa5 ca5 ea5 ba5 aa5 ga5; have hC5 : W4.heap.size ≤ B5 := Nat.le_trans (Ext.size (show Ext W4 _ from by (repeat (first | with_reducible exact Ext.refl _ | with_reducible assumption | refine Ext.trans ?_ (by with_reducible assumption) | refine Ext.alloc ?_ _ _ | refine Ext.drew ?_ | refine Ext.drewN ?_ _)))) ga5) | ((with_reducible (refine Veil.out ?_; apply wl_storeWB)); (case hx => rfl); (case hy => first | rfl | exact wv0.symm); (case hB => exact ba5.ext (by (repeat (first | with_reducible exact Ext.refl _ | with_reducible assumption | refine Ext.trans ?_ (by with_reducible assumption) | refine Ext.alloc ?_ _ _ | refine Ext.drew ?_ | refine Ext.drewN ?_ _)))); (case hi => decide); rintro W5 c5 b5 a5 _ m5; have hE5 : Ext W4 W5 := Ext.trans_mod (by (repeat (first | with_reducible exact Ext.refl _ | with_reducible assumption | refine Ext.trans ?_ (by with_reducible assumption) | refine Ext.alloc ?_ _ _ | refine Ext.drew ?_ | refine Ext.drewN ?_ _))) m5 (fun i hi => by have hi2 : i = _ := hi; rw [hi2]; exact hC5); clear ba5 aa5 m5))
  go_wp2_with (first | (go_at_call 117; refine (HO _ (by (repeat (first | with_reducible exact Ext.refl _ | with_reducible assumption | refine Ext.trans ?_ (by with_reducible assumption) | refine Ext.alloc ?_ _ _ | refine Ext.drew ?_ | refine Ext.drewN ?_ _)))).mono ?_; rintro e w1 ⟨rfl, he⟩) | ((with_reducible (refine Veil.out ?_; apply wl_loadC one32)); (case hw => rfl); (case hx => rfl); (case hc => exact KC _ (by (repeat (first | with_reducible exact Ext.refl _ | with_reducible assumption | refine Ext.trans ?_ (by with_reducible assumption) | refine Ext.alloc ?_ _ _ | refine Ext.drew ?_ | refine Ext.drewN ?_ _))))) | ((with_reducible (refine Veil.out ?_; apply wl_loadWB)); (case hx => rfl); (case hB => exact b5.ext (by (repeat (first | with_reducible exact Ext.refl _ | with_reducible assumption | refine Ext.trans ?_ (by with_reducible assumption) | refine Ext.alloc ?_ _ _ | refine Ext.drew ?_ | refine Ext.drewN ?_ _)))); (case hW => exact a5); (case hi => decide)) | (go_at_call 87; refine (HZ _).mono ?_; rintro e w4 ⟨rfl, he4⟩) | (go_at_call 268; refine (HS _ (by (repeat (first | with_reducible exact Ext.refl _ | with_reducible assumption | refine Ext.trans ?_ (by with_reducible assumption) | refine Ext.alloc ?_ _ _ | refine Ext.drew ?_ | refine Ext.drewN ?_ _)))).mono ?_; rintro e w9 ⟨rfl, hfin⟩))
  go_end0
  exact ⟨rfl, hfin⟩
set_option maxRecDepth 100000 in
set_option maxHeartbeats 6400000 in
theorem mOpCopy57 (h : MRep own w g c V st (s :: sn) stale) (hst : st.frames = f :: rest) (hph : st.phase = 1) (ho : f.opcode = 57) (hl : 3 ≤ f.stack.length) (hpc : f.pc ≤ 50000) (hz : f.arg 2 ≠ 0) (hf : f.arg 0 + f.arg 2 ≤ f.mem.length) : Calls Hvah.prog 204 #[.pointer (some ⟨g, 0, none⟩)] w fun e w' => e = .returned (.tuple #[]) ∧ ∃ c', MRep own w' g c' V { st with frames := ({ f with mem := copyA f.mem (f.arg 0) f.code (f.arg 1) (f.arg 2) } : AFrame).settle 3 [] 1 :: rest } (s :: sn) stale ∧ MStep own w own w' := by
  obtain ⟨hfr, hr7⟩ := h.frame hst
  have hml := hfr.ok.mLen
  have HR := fun W (hW : Ext w W) => mRun (h.ext hW) hst hph
  have HO := fun W (hW : Ext w W) => mOp (h.ext hW) hst hph
  rw [ho] at HO
  have hx0 := hfr.ok.argLt 0
  have hx1 := hfr.ok.argLt 1
  have hx2 := hfr.ok.argLt 2
  have HA0 := fun W (hW : Ext w W) => mArg (h.ext hW) hst 0 (by decide)
  have HA1 := fun W (hW : Ext w W) => mArg (h.ext hW) hst 1 (by decide)
  have HA2 := fun W (hW : Ext w W) => mArg (h.ext hW) hst 2 (by decide)
  have HZ : ∀ W, Calls Hvah.prog 87 #[wv (f.arg 2)] W fun e w' => e = .returned (.bool (decide (f.arg 2 = 0))) ∧ Ext W w' := fun W => uIsZero _ W hx2
  rw [decide_eq_false hz] at HZ
  obtain ⟨v, hv0⟩ : ∃ v, Hid (c (1803 + rest.length * 65 + 53) = v) := ⟨_, rfl⟩
  have hv := hfr.code
  rw [hv0.out] at hv
  have KC : ∀ W, Ext w W → W.cell? ⟨g, 1803 + rest.length * 65 + 53, none⟩ = some v := fun W hW => by rw [(h.v.blk.ext hW).cell (by omega), hv0.out]
  clear hv0
  have hk : 0 < f.arg 2 := by omega
  obtain ⟨vo, vc, rfl, i1, i2, i3⟩ := hv
  have hv : NL (Mu own) w (.slice vo f.code.length vc) f.code := ⟨vo, vc, rfl, i1, i2, i3⟩
  have hms : min (f.arg 1) 18446744073709551615 < 18446744073709551616 := by omega
  have HST := fun W (hW : Ext w W) => mMWrite (h.ext hW) hst (Mu own) _ _ (hv.ext hW) (min (f.arg 1) 18446744073709551615) hms (f.arg 0) (f.arg 2) hk hf
  rw [cut_min (by omega), copyA_pos hz hf] at HST
  have HM0 := fun W => mSmall (f.arg 0) W hx0
  have HM2 := fun W => mSmall (f.arg 2) W hx2
  rw [show min (f.arg 0) 4294967295 = f.arg 0 by omega] at HM0
  rw [show min (f.arg 2) 4294967295 = f.arg 2 by omega] at HM2
  have HM1 := fun W => mSource (f.arg 1) W hx1
  go_enter Hvah.func204, Hvah.ntmps204
  go_upto_region 3 with (first | (go_at_call 192; refine (HR _ (by (repeat (first | with_reducible exact Ext.refl _ | with_reducible assumption | refine Ext.trans ?_ (by with_reducible assumption) | refine Ext.alloc ?_ _ _ | refine Ext.drew ?_ | refine Ext.drewN ?_ _)))).mono ?_; rintro e w1 ⟨rfl, he⟩) | (go_at_call_of 273 (Value.int IntKind.i64 0); refine (HA0 _ (by (repeat (first | with_reducible exact Ext.refl _ | with_reducible assumption | refine Ext.trans ?_ (by with_reducible assumption) | refine Ext.alloc ?_ _ _ | refine Ext.drew ?_ | refine Ext.drewN ?_ _)))).mono ?_; rintro e w1 ⟨rfl, he⟩) | ((with_reducible (refine Veil.out ?_; apply wl_allocW)); rintro B3 Wa3 ca3 ea3 ba3 aa3 ga3; have hC3 : w.heap.size ≤ B3 := Nat.le_trans (Ext.size (show Ext w _ from by (repeat (first | with_reducible exact Ext.refl _ | with_reducible assumption | refine Ext.trans ?_ (by with_reducible assumption) | refine Ext.alloc ?_ _ _ | refine Ext.drew ?_ | refine Ext.drewN ?_ _)))) ga3) | ((with_reducible (refine Veil.out ?_; apply wl_storeWB)); (case hx => rfl); (case hy => first | rfl | exact wv0.symm); (case hB => exact ba3.ext (by (repeat (first | with_reducible exact Ext.refl _ | with_reducible assumption | refine Ext.trans ?_ (by with_reducible assumption) | refine Ext.alloc ?_ _ _ | refine Ext.drew ?_ | refine Ext.drewN ?_ _)))); (case hi => decide); rintro W3 c3 b3 a3 _ m3; have hE3 : Ext w W3 := Ext.trans_mod (by (repeat (first | with_reducible exact Ext.refl _ | with_reducible assumption | refine Ext.trans ?_ (by with_reducible assumption) | refine Ext.alloc ?_ _ _ | refine Ext.drew ?_ | refine Ext.drewN ?_ _))) m3 (fun i hi => by have hi2 : i = _ := hi; rw [hi2]; exact hC3); clear ba3 aa3 m3))
  go_upto_region 4 with (first | (go_at_call_of 273 (Value.int IntKind.i64 1); refine (HA1 _ (by (repeat (first | with_reducible exact Ext.refl _ | with_reducible assumption | refine Ext.trans ?_ (by with_reducible assumption) | refine Ext.alloc ?_ _ _ | refine Ext.drew ?_ | refine Ext.drewN ?_ _)))).mono ?_; rintro e w1 ⟨rfl, he⟩) | ((with_reducible (refine Veil.out ?_; apply wl_allocW)); rintro B4 Wa4 ca4 ea4 ba4 aa4 ga4; have hC4 : W3.heap.size ≤ B4 := Nat.le_trans (Ext.size (show Ext W3 _ from by (repeat (first | with_reducible exact Ext.refl _ | with_reducible assumption | refine Ext.trans ?_ (by with_reducible assumption) | refine Ext.alloc ?_ _ _ | refine Ext.drew ?_ | refine Ext.drewN ?_ _)))) ga4) | ((with_reducible (refine Veil.out ?_; apply wl_storeWB)); (case hx => rfl); (case hy => first | rfl | exact wv0.symm); (case hB => exact ba4.ext (by (repeat (first | with_reducible exact Ext.refl _ | with_reducible assumption | refine Ext.trans ?_ (by with_reducible assumption) | refine Ext.alloc ?_ _ _ | refine Ext.drew ?_ | refine Ext.drewN ?_ _)))); (case hi => decide); rintro W4 c4 b4 a4 _ m4; have hE4 : Ext W3 W4 := Ext.trans_mod (by (repeat (first | with_reducible exact Ext.refl _ | with_reducible assumption | refine Ext.trans ?_ (by with_reducible assumption) | refine Ext.alloc ?_ _ _ | refine Ext.drew ?_ | refine Ext.drewN ?_ _))) m4 (fun i hi => by have hi2 : i = _ := hi; rw [hi2]; exact hC4); clear ba4 aa4 m4))
  go_upto_region 5 with (first | (go_at_call_of 273 (Value.int IntKind.i64 2); refine (HA2 _ (by (repeat (first | with_reducible exact Ext.refl _ | with_reducible assumption | refine Ext.trans ?_ (by with_reducible assumption) | refine Ext.alloc ?_ _ _ | refine Ext.drew ?_ | refine Ext.drewN ?_ _)))).mono ?_; rintro e w1 ⟨rfl, he⟩) | ((with_reducible (refine Veil.out ?_; apply wl_allocW)); rintro B5 Wa5 ca5 ea5 ba5 aa5 ga5; have hC5 : W4.heap.size ≤ B5 := Nat.le_trans (Ext.size (show Ext W4 _ from by (repeat (first | with_reducible exact Ext.refl _ | with_reducible assumption | refine Ext.trans ?_ (by with_reducible assumption) | refine Ext.alloc ?_ _ _ | refine Ext.drew ?_ | refine Ext.drewN ?_ _)))) ga5) | ((with_reducible (refine Veil.out ?_; apply wl_storeWB)); (case hx => rfl); (case hy => first | rfl | exact wv0.symm); (case hB => exact ba5.ext (by (repeat (first | with_reducible exact Ext.refl _ | with_reducible assumption | refine Ext.trans ?_ (by with_reducible assumption) | refine Ext.alloc ?_ _ _ | refine Ext.drew ?_ | refine Ext.drewN ?_ _)))); (case hi => decide); rintro W5 c5 b5 a5 _ m5; have hE5 : Ext W4 W5 := Ext.trans_mod (by (repeat (first | with_reducible exact Ext.refl _ | with_reducible assumption | refine Ext.trans ?_ (by with_reducible assumption) | refine Ext.alloc ?_ _ _ | refine Ext.drew ?_ | refine Ext.drewN ?_ _))) m5 (fun i hi => by have hi2 : i = _ := hi; rw [hi2]; exact hC5); clear ba5 aa5 m5))
  have hq4 : w.heap.size ≤ B4 := Nat.le_trans (Ext.size hE3) hC4
  have hq5 : w.heap.size ≤ B5 := Nat.le_trans (Ext.size (show Ext w W4 from by (repeat (first | with_reducible exact Ext.refl _ | with_reducible assumption | refine Ext.trans ?_ (by with_reducible assumption) | refine Ext.alloc ?_ _ _ | refine Ext.drew ?_ | refine Ext.drewN ?_ _)))) hC5
  have hn3 : ¬ (own B3 ≠ 0 ∧ own B3 ≠ 9) := fun q => q.1 (h.v.fresh _ hC3)
  have hn4 : ¬ (own B4 ≠ 0 ∧ own B4 ≠ 9) := fun q => q.1 (h.v.fresh _ hq4)
  have hn5 : ¬ (own B5 ≠ 0 ∧ own B5 ≠ 9) := fun q => q.1 (h.v.fresh _ hq5)
  go_upto_region 28 with (first | (go_at_call 117; refine (HO _ (by (repeat (first | with_reducible exact Ext.refl _ | with_reducible assumption | refine Ext.trans ?_ (by with_reducible assumption) | refine Ext.alloc ?_ _ _ | refine Ext.drew ?_ | refine Ext.drewN ?_ _)))).mono ?_; rintro e w1 ⟨rfl, he⟩) | ((with_reducible (refine Veil.out ?_; apply wl_loadC one32)); (case hw => rfl); (case hx => rfl); (case hc => exact KC _ (by (repeat (first | with_reducible exact Ext.refl _ | with_reducible assumption | refine Ext.trans ?_ (by with_reducible assumption) | refine Ext.alloc ?_ _ _ | refine Ext.drew ?_ | refine Ext.drewN ?_ _))))) | ((with_reducible (refine Veil.out ?_; apply wl_loadWB)); (case hx => rfl); (case hB => exact b5.ext (by (repeat (first | with_reducible exact Ext.refl _ | with_reducible assumption | refine Ext.trans ?_ (by with_reducible assumption) | refine Ext.alloc ?_ _ _ | refine Ext.drew ?_ | refine Ext.drewN ?_ _)))); (case hW => exact a5); (case hi => decide)) | (go_at_call 87; refine (HZ _).mono ?_; rintro e w4 ⟨rfl, he4⟩))
  clear HR HO HA0 HA1 HA2
  refine w_ext ?_
  rintro W0 hW0
  refine wp_region_held_drew (S := fun w' => Mod (fun b => own b ≠ 0 ∧ own b ≠ 9) W0 w') (by kernel_rfl) (Mod.refl _ _).drew (fun hHeld => ?_)
  have HH : Hid (Mod (fun b => own b ≠ 0 ∧ own b ≠ 9) W0 _) := hHeld
  clear hHeld
  refine wpAnyH_take (i := 0) (v := ?_) rfl (by kernel_rfl) (by kernel_rfl) (by kernel_rfl) (fun _ _ _ h => h) (Or.inl ⟨by rfl, ?_⟩) HH.out ?_
  rotate_left
  · intro w hSw; go_simp; try with_reducible rfl
  change wpAnyH _ _ _ _ _ _ _ (Act.put _ (some 85) _) _
  simp only [Act.put, List.setIfInBounds_toArray, List.set_cons_zero, List.set_cons_succ]
  refine wpAnyH_take (i := 1) (v := ?_) rfl (by kernel_rfl) (by kernel_rfl) (by kernel_rfl) (fun _ _ _ h => h) (Or.inl ⟨by rfl, ?_⟩) HH.out ?_
  rotate_left
  · intro w hSw; go_simp; try with_reducible rfl
  change wpAnyH _ _ _ _ _ _ _ (Act.put _ (some 86) _) _
  simp only [Act.put, List.setIfInBounds_toArray, List.set_cons_zero, List.set_cons_succ]
  refine wpAnyH_take (i := 2) (v := ?_) rfl (by kernel_rfl) (by kernel_rfl) (by kernel_rfl) (fun _ _ _ h => h) (Or.inl ⟨by rfl, ?_⟩) HH.out ?_
  rotate_left
  · intro w hSw; go_simp; try with_reducible rfl
  change wpAnyH _ _ _ _ _ _ _ (Act.put _ (some 87) _) _
  simp only [Act.put, List.setIfInBounds_toArray, List.set_cons_zero, List.set_cons_succ]
  refine wpAnyH_take (i := 3) rfl (by kernel_rfl) (by kernel_rfl) (by kernel_rfl) (fun _ _ _ h => h) (yields_W (by rfl) rfl rfl (fun w hSw => (b3.ext (show Ext _ W0 from by (repeat (first | with_reducible exact Ext.refl _ | with_reducible assumption | refine Ext.trans ?_ (by with_reducible assumption) | refine Ext.alloc ?_ _ _ | refine Ext.drew ?_ | refine Ext.drewN ?_ _)))).mod hSw hn3) a3 (by decide)) HH.out ?_
  change wpAnyH _ _ _ _ _ _ _ (Act.put _ (some 88) _) _
  simp only [Act.put, List.setIfInBounds_toArray, List.set_cons_zero, List.set_cons_succ]
  refine wpAnyH_take (i := 5) (v := ?_) rfl (by kernel_rfl) (by kernel_rfl) (by kernel_rfl) (fun _ _ _ h => h) (Or.inl ⟨by rfl, ?_⟩) HH.out ?_
  rotate_left
  · intro w hSw; go_simp; try with_reducible rfl
  change wpAnyH _ _ _ _ _ _ _ (Act.put _ (some 90) _) _
  simp only [Act.put, List.setIfInBounds_toArray, List.set_cons_zero, List.set_cons_succ]
  refine wpAnyH_take (i := 6) rfl (by kernel_rfl) (by kernel_rfl) (by kernel_rfl) (fun _ _ _ h => h) (yields_W (by rfl) rfl rfl (fun w hSw => (b4.ext (show Ext _ W0 from by (repeat (first | with_reducible exact Ext.refl _ | with_reducible assumption | refine Ext.trans ?_ (by with_reducible assumption) | refine Ext.alloc ?_ _ _ | refine Ext.drew ?_ | refine Ext.drewN ?_ _)))).mod hSw hn4) a4 (by decide)) HH.out ?_
  change wpAnyH _ _ _ _ _ _ _ (Act.put _ (some 91) _) _
  simp only [Act.put, List.setIfInBounds_toArray, List.set_cons_zero, List.set_cons_succ]
  refine wpAnyH_take (i := 8) rfl (by kernel_rfl) (by kernel_rfl) (by kernel_rfl) (fun _ _ _ h => h) (yields_W (by rfl) rfl rfl (fun w hSw => (b5.ext (show Ext _ W0 from by (repeat (first | with_reducible exact Ext.refl _ | with_reducible assumption | refine Ext.trans ?_ (by with_reducible assumption) | refine Ext.alloc ?_ _ _ | refine Ext.drew ?_ | refine Ext.drewN ?_ _)))).mod hSw hn5) a5 (by decide)) HH.out ?_
  change wpAnyH _ _ _ _ _ _ _ (Act.put _ (some 93) _) _
  simp only [Act.put, List.setIfInBounds_toArray, List.set_cons_zero, List.set_cons_succ]
  refine wpAnyH_ready (rs := [4]) (by kernel_rfl) (by simp) ?_
  refine AllReadyH.cons rfl (fun K hK => ?_) AllReadyH.nil
  go_simp
  go_at_call 308; refine (HM0 _).mono ?_; rintro e w4 ⟨rfl, he⟩
  refine hK.out _ _ ?_ (fun hHeld => ?_)
  · first | exact HH.out.trans_ext he | exact HH.out.trans m5.mod
  clear hK K HH
  have HH : Hid (Mod (fun b => own b ≠ 0 ∧ own b ≠ 9) W0 _) := hHeld
  clear hHeld
  refine wpAnyH_ready (rs := [7]) (by kernel_rfl) (by simp) ?_
  refine AllReadyH.cons rfl (fun K hK => ?_) AllReadyH.nil
  go_simp
  go_at_call 306; refine (HM1 _).mono ?_; rintro e w4 ⟨rfl, he⟩
  refine hK.out _ _ ?_ (fun hHeld => ?_)
  · first | exact HH.out.trans_ext he | exact HH.out.trans m5.mod
  clear hK K HH
  have HH : Hid (Mod (fun b => own b ≠ 0 ∧ own b ≠ 9) W0 _) := hHeld
  clear hHeld
  refine wpAnyH_ready (rs := [9]) (by kernel_rfl) (by simp) ?_
  refine AllReadyH.cons rfl (fun K hK => ?_) AllReadyH.nil
  go_simp
  go_at_call 308; refine (HM2 _).mono ?_; rintro e w4 ⟨rfl, he⟩
  refine hK.out _ _ ?_ (fun hHeld => ?_)
  · first | exact HH.out.trans_ext he | exact HH.out.trans m5.mod
  clear hK K HH
  have HH : Hid (Mod (fun b => own b ≠ 0 ∧ own b ≠ 9) W0 _) := hHeld
  clear hHeld
  refine wpAnyH_ready (rs := [10]) (by kernel_rfl) (by simp) ?_
  refine AllReadyH.cons rfl (fun K hK => ?_) AllReadyH.nil
  go_simp
  go_at_call 267; refine (HST _ (by (repeat (first | with_reducible exact Ext.refl _ | with_reducible assumption | refine Ext.trans ?_ (by with_reducible assumption) | refine Ext.alloc ?_ _ _ | refine Ext.drew ?_ | refine Ext.drewN ?_ _)))).mono ?_; rintro e w5 ⟨rfl, h5, m5⟩
  refine hK.out _ _ ?_ (fun hHeld => ?_)
  · first | exact HH.out.trans_ext he | exact HH.out.trans m5.mod
  clear hK K HH
  have HH : Hid (Mod (fun b => own b ≠ 0 ∧ own b ≠ 9) W0 _) := hHeld
  clear hHeld
  refine wpAnyH_take (i := 11) (v := ?_) rfl (by kernel_rfl) (by kernel_rfl) (by kernel_rfl) (fun _ _ _ h => h) (Or.inl ⟨by rfl, ?_⟩) HH.out ?_
  rotate_left
  · intro w hSw; go_simp; try with_reducible rfl
  change wpAnyH _ _ _ _ _ _ _ (Act.put _ (some 10) _) _
  simp only [Act.put, List.setIfInBounds_toArray, List.set_cons_zero, List.set_cons_succ]
  refine wpAnyH_done (by kernel_rfl) ?_ _
  have mS : MStep own w own w5 := (MStep.ext (by (repeat (first | with_reducible exact Ext.refl _ | with_reducible assumption | refine Ext.trans ?_ (by with_reducible assumption) | refine Ext.alloc ?_ _ _ | refine Ext.drew ?_ | refine Ext.drewN ?_ _)))).trans m5
  have HS := mSetN h5 rfl 3 1 0 hl (show f.pc + 1 ≤ 60000 by omega)
  rw [wv0] at HS
  clear HST m5
  go_wp2_with (first | (go_at_call 268; refine (HS _ (by (repeat (first | with_reducible exact Ext.refl _ | with_reducible assumption | refine Ext.trans ?_ (by with_reducible assumption) | refine Ext.alloc ?_ _ _ | refine Ext.drew ?_ | refine Ext.drewN ?_ _)))).mono ?_; rintro e w9 ⟨rfl, hfin⟩))
  go_end0
  obtain ⟨c9, h9, m9⟩ := hfin
  exact ⟨rfl, c9, h9, mS.trans m9⟩
set_option maxRecDepth 100000 in
set_option maxHeartbeats 6400000 in
theorem mOpCopy62z (h : MRep own w g c V st (s :: sn) stale) (hst : st.frames = f :: rest) (hph : st.phase = 1) (ho : f.opcode = 62) (hl : 3 ≤ f.stack.length) (hpc : f.pc ≤ 50000) (hz : f.arg 2 = 0) : Calls Hvah.prog 204 #[.pointer (some ⟨g, 0, none⟩)] w fun e w' => e = .returned (.tuple #[]) ∧ ∃ c', MRep own w' g c' V { st with frames := ({ f with mem := copyA f.mem (f.arg 0) st.ret (f.arg 1) (f.arg 2) } : AFrame).settle 3 [] 1 :: rest } (s :: sn) stale ∧ MStep own w own w' := by
  obtain ⟨hfr, hr7⟩ := h.frame hst
  have hml := hfr.ok.mLen
  have HR := fun W (hW : Ext w W) => mRun (h.ext hW) hst hph
  have HO := fun W (hW : Ext w W) => mOp (h.ext hW) hst hph
  rw [ho] at HO
  have hx0 := hfr.ok.argLt 0
  have hx1 := hfr.ok.argLt 1
  have hx2 := hfr.ok.argLt 2
  have HA0 := fun W (hW : Ext w W) => mArg (h.ext hW) hst 0 (by decide)
  have HA1 := fun W (hW : Ext w W) => mArg (h.ext hW) hst 1 (by decide)
  have HA2 := fun W (hW : Ext w W) => mArg (h.ext hW) hst 2 (by decide)
  have HZ : ∀ W, Calls Hvah.prog 87 #[wv (f.arg 2)] W fun e w' => e = .returned (.bool (decide (f.arg 2 = 0))) ∧ Ext W w' := fun W => uIsZero _ W hx2
  rw [decide_eq_true hz] at HZ
  obtain ⟨v, hv0⟩ : ∃ v, Hid (c (2259) = v) := ⟨_, rfl⟩
  have hv := h.m.ret
  rw [hv0.out] at hv
  have KC : ∀ W, Ext w W → W.cell? ⟨g, 2259, none⟩ = some v := fun W hW => by rw [(h.v.blk.ext hW).cell (by decide), hv0.out]
  clear hv0
  rw [show copyA f.mem (f.arg 0) st.ret (f.arg 1) (f.arg 2) = f.mem from if_pos hz]
  clear hz
  have HS := mSetN h hst 3 1 0 (by omega) (by omega)
  rw [wv0] at HS
  go_enter Hvah.func204, Hvah.ntmps204
  go_upto_region 3 with (first | (go_at_call 192; refine (HR _ (by (repeat (first | with_reducible exact Ext.refl _ | with_reducible assumption | refine Ext.trans ?_ (by with_reducible assumption) | refine Ext.alloc ?_ _ _ | refine Ext.drew ?_ | refine Ext.drewN ?_ _)))).mono ?_; rintro e w1 ⟨rfl, he⟩) | (go_at_call_of 273 (Value.int IntKind.i64 0); refine (HA0 _ (by (repeat (first | with_reducible exact Ext.refl _ | with_reducible assumption | refine Ext.trans ?_ (by with_reducible assumption) | refine Ext.alloc ?_ _ _ | refine Ext.drew ?_ | refine Ext.drewN ?_ _)))).mono ?_; rintro e w1 ⟨rfl, he⟩) | ((with_reducible (refine Veil.out ?_; apply wl_allocW)); rintro B3 Wa3 ca3 ea3 ba3 aa3 ga3; have hC3 : w.heap.size ≤ B3 := Nat.le_trans (Ext.size (show Ext w _ from by (repeat (first | with_reducible exact Ext.refl _ | with_reducible assumption | refine Ext.trans ?_ (by with_reducible assumption) | refine Ext.alloc ?_ _ _ | refine Ext.drew ?_ | refine Ext.drewN ?_ _)))) ga3) | ((with_reducible (refine Veil.out ?_; apply wl_storeWB)); (case hx => rfl); (case hy => first | rfl | exact wv0.symm); (case hB => exact ba3.ext (by (repeat (first | with_reducible exact Ext.refl _ | with_reducible assumption | refine Ext.trans ?_ (by with_reducible assumption) | refine Ext.alloc ?_ _ _ | refine Ext.drew ?_ | refine Ext.drewN ?_ _)))); (case hi => decide); rintro W3 c3 b3 a3 _ m3; have hE3 : Ext w W3 := Ext.trans_mod (by (repeat (first | with_reducible exact Ext.refl _ | with_reducible assumption | refine Ext.trans ?_ (by with_reducible assumption) | refine Ext.alloc ?_ _ _ | refine Ext.drew ?_ | refine Ext.drewN ?_ _))) m3 (fun i hi => by have hi2 : i = _ := hi; rw [hi2]; exact hC3); clear ba3 aa3 m3))
  go_upto_region 4 with (first | (go_at_call_of 273 (Value.int IntKind.i64 1); refine (HA1 _ (by (repeat (first | with_reducible exact Ext.refl _ | with_reducible assumption | refine Ext.trans ?_ (by with_reducible assumption) | refine Ext.alloc ?_ _ _ | refine Ext.drew ?_ | refine Ext.drewN ?_ _)))).mono ?_; rintro e w1 ⟨rfl, he⟩) | ((with_reducible (refine Veil.out ?_; apply wl_allocW)); rintro B4 Wa4 ca4 ea4 ba4 aa4 ga4; have hC4 : W3.heap.size ≤ B4 := Nat.le_trans (Ext.size (show Ext W3 _ from by (repeat (first | with_reducible exact Ext.refl _ | with_reducible assumption | refine Ext.trans ?_ (by with_reducible assumption) | refine Ext.alloc ?_ _ _ | refine Ext.drew ?_ | refine Ext.drewN ?_ _)))) ga4) | ((with_reducible (refine Veil.out ?_; apply wl_storeWB)); (case hx => rfl); (case hy => first | rfl | exact wv0.symm); (case hB => exact ba4.ext (by (repeat (first | with_reducible exact Ext.refl _ | with_reducible assumption | refine Ext.trans ?_ (by with_reducible assumption) | refine Ext.alloc ?_ _ _ | refine Ext.drew ?_ | refine Ext.drewN ?_ _)))); (case hi => decide); rintro W4 c4 b4 a4 _ m4; have hE4 : Ext W3 W4 := Ext.trans_mod (by (repeat (first | with_reducible exact Ext.refl _ | with_reducible assumption | refine Ext.trans ?_ (by with_reducible assumption) | refine Ext.alloc ?_ _ _ | refine Ext.drew ?_ | refine Ext.drewN ?_ _))) m4 (fun i hi => by have hi2 : i = _ := hi; rw [hi2]; exact hC4); clear ba4 aa4 m4))
  go_upto_region 5 with (first | (go_at_call_of 273 (Value.int IntKind.i64 2); refine (HA2 _ (by (repeat (first | with_reducible exact Ext.refl _ | with_reducible assumption | refine Ext.trans ?_ (by with_reducible assumption) | refine Ext.alloc ?_ _ _ | refine Ext.drew ?_ | refine Ext.drewN ?_ _)))).mono ?_; rintro e w1 ⟨rfl, he⟩) | ((with_reducible (refine Veil.out ?_; apply wl_allocW)); rintro B5 Wa5 ca5 ea5 ba5 aa5 ga5; have hC5 : W4.heap.size ≤ B5 := Nat.le_trans (Ext.size (show Ext W4 _ from by (repeat (first | with_reducible exact Ext.refl _ | with_reducible assumption | refine Ext.trans ?_ (by with_reducible assumption) | refine Ext.alloc ?_ _ _ | refine Ext.drew ?_ | refine Ext.drewN ?_ _)))) ga5) | ((with_reducible (refine Veil.out ?_; apply wl_storeWB)); (case hx => rfl); (case hy => first | rfl | exact wv0.symm); (case hB => exact ba5.ext (by (repeat (first | with_reducible exact Ext.refl _ | with_reducible assumption | refine Ext.trans ?_ (by with_reducible assumption) | refine Ext.alloc ?_ _ _ | refine Ext.drew ?_ | refine Ext.drewN ?_ _)))); (case hi => decide); rintro W5 c5 b5 a5 _ m5; have hE5 : Ext W4 W5 := Ext.trans_mod (by (repeat (first | with_reducible exact Ext.refl _ | with_reducible assumption | refine Ext.trans ?_ (by with_reducible assumption) | refine Ext.alloc ?_ _ _ | refine Ext.drew ?_ | refine Ext.drewN ?_ _))) m5 (fun i hi => by have hi2 : i = _ := hi; rw [hi2]; exact hC5); clear ba5 aa5 m5))
  go_wp2_with (first | (go_at_call 117; refine (HO _ (by (repeat (first | with_reducible exact Ext.refl _ | with_reducible assumption | refine Ext.trans ?_ (by with_reducible assumption) | refine Ext.alloc ?_ _ _ | refine Ext.drew ?_ | refine Ext.drewN ?_ _)))).mono ?_; rintro e w1 ⟨rfl, he⟩) | ((with_reducible (refine Veil.out ?_; apply wl_loadC one32)); (case hw => rfl); (case hx => rfl); (case hc => exact KC _ (by (repeat (first | with_reducible exact Ext.refl _ | with_reducible assumption | refine Ext.trans ?_ (by with_reducible assumption) | refine Ext.alloc ?_ _ _ | refine Ext.drew ?_ | refine Ext.drewN ?_ _))))) | ((with_reducible (refine Veil.out ?_; apply wl_loadWB)); (case hx => rfl); (case hB => exact b5.ext (by (repeat (first | with_reducible exact Ext.refl _ | with_reducible assumption | refine Ext.trans ?_ (by with_reducible assumption) | refine Ext.alloc ?_ _ _ | refine Ext.drew ?_ | refine Ext.drewN ?_ _)))); (case hW => exact a5); (case hi => decide)) | (go_at_call 87; refine (HZ _).mono ?_; rintro e w4 ⟨rfl, he4⟩) | (go_at_call 268; refine (HS _ (by (repeat (first | with_reducible exact Ext.refl _ | with_reducible assumption | refine Ext.trans ?_ (by with_reducible assumption) | refine Ext.alloc ?_ _ _ | refine Ext.drew ?_ | refine Ext.drewN ?_ _)))).mono ?_; rintro e w9 ⟨rfl, hfin⟩))
  go_end0
  exact ⟨rfl, hfin⟩
set_option maxRecDepth 100000 in
set_option maxHeartbeats 6400000 in
theorem mOpCopy62 (h : MRep own w g c V st (s :: sn) stale) (hst : st.frames = f :: rest) (hph : st.phase = 1) (ho : f.opcode = 62) (hl : 3 ≤ f.stack.length) (hpc : f.pc ≤ 50000) (hz : f.arg 2 ≠ 0) (hf : f.arg 0 + f.arg 2 ≤ f.mem.length) : Calls Hvah.prog 204 #[.pointer (some ⟨g, 0, none⟩)] w fun e w' => e = .returned (.tuple #[]) ∧ ∃ c', MRep own w' g c' V { st with frames := ({ f with mem := copyA f.mem (f.arg 0) st.ret (f.arg 1) (f.arg 2) } : AFrame).settle 3 [] 1 :: rest } (s :: sn) stale ∧ MStep own w own w' := by
  obtain ⟨hfr, hr7⟩ := h.frame hst
  have hml := hfr.ok.mLen
  have HR := fun W (hW : Ext w W) => mRun (h.ext hW) hst hph
  have HO := fun W (hW : Ext w W) => mOp (h.ext hW) hst hph
  rw [ho] at HO
  have hx0 := hfr.ok.argLt 0
  have hx1 := hfr.ok.argLt 1
  have hx2 := hfr.ok.argLt 2
  have HA0 := fun W (hW : Ext w W) => mArg (h.ext hW) hst 0 (by decide)
  have HA1 := fun W (hW : Ext w W) => mArg (h.ext hW) hst 1 (by decide)
  have HA2 := fun W (hW : Ext w W) => mArg (h.ext hW) hst 2 (by decide)
  have HZ : ∀ W, Calls Hvah.prog 87 #[wv (f.arg 2)] W fun e w' => e = .returned (.bool (decide (f.arg 2 = 0))) ∧ Ext W w' := fun W => uIsZero _ W hx2
  rw [decide_eq_false hz] at HZ
  obtain ⟨v, hv0⟩ : ∃ v, Hid (c (2259) = v) := ⟨_, rfl⟩
  have hv := h.m.ret
  rw [hv0.out] at hv
  have KC : ∀ W, Ext w W → W.cell? ⟨g, 2259, none⟩ = some v := fun W hW => by rw [(h.v.blk.ext hW).cell (by decide), hv0.out]
  clear hv0
  have hk : 0 < f.arg 2 := by omega
  obtain ⟨vo, vc, rfl, i1, i2, i3⟩ := hv
  have hv : NL (Mu own) w (.slice vo st.ret.length vc) st.ret := ⟨vo, vc, rfl, i1, i2, i3⟩
  have hms : min (f.arg 1) 18446744073709551615 < 18446744073709551616 := by omega
  have HST := fun W (hW : Ext w W) => mMWrite (h.ext hW) hst (Mu own) _ _ (hv.ext hW) (min (f.arg 1) 18446744073709551615) hms (f.arg 0) (f.arg 2) hk hf
  rw [cut_min (by omega), copyA_pos hz hf] at HST
  have HM0 := fun W => mSmall (f.arg 0) W hx0
  have HM2 := fun W => mSmall (f.arg 2) W hx2
  rw [show min (f.arg 0) 4294967295 = f.arg 0 by omega] at HM0
  rw [show min (f.arg 2) 4294967295 = f.arg 2 by omega] at HM2
  have HM1 := fun W => mSource (f.arg 1) W hx1
  go_enter Hvah.func204, Hvah.ntmps204
  go_upto_region 3 with (first | (go_at_call 192; refine (HR _ (by (repeat (first | with_reducible exact Ext.refl _ | with_reducible assumption | refine Ext.trans ?_ (by with_reducible assumption) | refine Ext.alloc ?_ _ _ | refine Ext.drew ?_ | refine Ext.drewN ?_ _)))).mono ?_; rintro e w1 ⟨rfl, he⟩) | (go_at_call_of 273 (Value.int IntKind.i64 0); refine (HA0 _ (by (repeat (first | with_reducible exact Ext.refl _ | with_reducible assumption | refine Ext.trans ?_ (by with_reducible assumption) | refine Ext.alloc ?_ _ _ | refine Ext.drew ?_ | refine Ext.drewN ?_ _)))).mono ?_; rintro e w1 ⟨rfl, he⟩) | ((with_reducible (refine Veil.out ?_; apply wl_allocW)); rintro B3 Wa3 ca3 ea3 ba3 aa3 ga3; have hC3 : w.heap.size ≤ B3 := Nat.le_trans (Ext.size (show Ext w _ from by (repeat (first | with_reducible exact Ext.refl _ | with_reducible assumption | refine Ext.trans ?_ (by with_reducible assumption) | refine Ext.alloc ?_ _ _ | refine Ext.drew ?_ | refine Ext.drewN ?_ _)))) ga3) | ((with_reducible (refine Veil.out ?_; apply wl_storeWB)); (case hx => rfl); (case hy => first | rfl | exact wv0.symm); (case hB => exact ba3.ext (by (repeat (first | with_reducible exact Ext.refl _ | with_reducible assumption | refine Ext.trans ?_ (by with_reducible assumption) | refine Ext.alloc ?_ _ _ | refine Ext.drew ?_ | refine Ext.drewN ?_ _)))); (case hi => decide); rintro W3 c3 b3 a3 _ m3; have hE3 : Ext w W3 := Ext.trans_mod (by (repeat (first | with_reducible exact Ext.refl _ | with_reducible assumption | refine Ext.trans ?_ (by with_reducible assumption) | refine Ext.alloc ?_ _ _ | refine Ext.drew ?_ | refine Ext.drewN ?_ _))) m3 (fun i hi => by have hi2 : i = _ := hi; rw [hi2]; exact hC3); clear ba3 aa3 m3))
  go_upto_region 4 with (first | (go_at_call_of 273 (Value.int IntKind.i64 1); refine (HA1 _ (by (repeat (first | with_reducible exact Ext.refl _ | with_reducible assumption | refine Ext.trans ?_ (by with_reducible assumption) | refine Ext.alloc ?_ _ _ | refine Ext.drew ?_ | refine Ext.drewN ?_ _)))).mono ?_; rintro e w1 ⟨rfl, he⟩) | ((with_reducible (refine Veil.out ?_; apply wl_allocW)); rintro B4 Wa4 ca4 ea4 ba4 aa4 ga4; have hC4 : W3.heap.size ≤ B4 := Nat.le_trans (Ext.size (show Ext W3 _ from by (repeat (first | with_reducible exact Ext.refl _ | with_reducible assumption | refine Ext.trans ?_ (by with_reducible assumption) | refine Ext.alloc ?_ _ _ | refine Ext.drew ?_ | refine Ext.drewN ?_ _)))) ga4) | ((with_reducible (refine Veil.out ?_; apply wl_storeWB)); (case hx => rfl); (case hy => first | rfl | exact wv0.symm); (case hB => exact ba4.ext (by (repeat (first | with_reducible exact Ext.refl _ | with_reducible assumption | refine Ext.trans ?_ (by with_reducible assumption) | refine Ext.alloc ?_ _ _ | refine Ext.drew ?_ | refine Ext.drewN ?_ _)))); (case hi => decide); rintro W4 c4 b4 a4 _ m4; have hE4 : Ext W3 W4 := Ext.trans_mod (by (repeat (first | with_reducible exact Ext.refl _ | with_reducible assumption | refine Ext.trans ?_ (by with_reducible assumption) | refine Ext.alloc ?_ _ _ | refine Ext.drew ?_ | refine Ext.drewN ?_ _))) m4 (fun i hi => by have hi2 : i = _ := hi; rw [hi2]; exact hC4); clear ba4 aa4 m4))
  go_upto_region 5 with (first | (go_at_call_of 273 (Value.int IntKind.i64 2); refine (HA2 _ (by (repeat (first | with_reducible exact Ext.refl _ | with_reducible assumption | refine Ext.trans ?_ (by with_reducible assumption) | refine Ext.alloc ?_ _ _ | refine Ext.drew ?_ | refine Ext.drewN ?_ _)))).mono ?_; rintro e w1 ⟨rfl, he⟩) | ((with_reducible (refine Veil.out ?_; apply wl_allocW)); rintro B5 Wa5 ca5 ea5 ba5 aa5 ga5; have hC5 : W4.heap.size ≤ B5 := Nat.le_trans (Ext.size (show Ext W4 _ from by (repeat (first | with_reducible exact Ext.refl _ | with_reducible assumption | refine Ext.trans ?_ (by with_reducible assumption) | refine Ext.alloc ?_ _ _ | refine Ext.drew ?_ | refine Ext.drewN ?_ _)))) ga5) | ((with_reducible (refine Veil.out ?_; apply wl_storeWB)); (case hx => rfl); (case hy => first | rfl | exact wv0.symm); (case hB => exact ba5.ext (by (repeat (first | with_reducible exact Ext.refl _ | with_reducible assumption | refine Ext.trans ?_ (by with_reducible assumption) | refine Ext.alloc ?_ _ _ | refine Ext.drew ?_ | refine Ext.drewN ?_ _)))); (case hi => decide); rintro W5 c5 b5 a5 _ m5; have hE5 : Ext W4 W5 := Ext.trans_mod (by (repeat (first | with_reducible exact Ext.refl _ | with_reducible assumption | refine Ext.trans ?_ (by with_reducible assumption) | refine Ext.alloc ?_ _ _ | refine Ext.drew ?_ | refine Ext.drewN ?_ _))) m5 (fun i hi => by have hi2 : i = _ := hi; rw [hi2]; exact hC5); clear ba5 aa5 m5))
  have hq4 : w.heap.size ≤ B4 := Nat.le_trans (Ext.size hE3) hC4
  have hq5 : w.heap.size ≤ B5 := Nat.le_trans (Ext.size (show Ext w W4 from by (repeat (first | with_reducible exact Ext.refl _ | with_reducible assumption | refine Ext.trans ?_ (by with_reducible assumption) | refine Ext.alloc ?_ _ _ | refine Ext.drew ?_ | refine Ext.drewN ?_ _)))) hC5
  have hn3 : ¬ (own B3 ≠ 0 ∧ own B3 ≠ 9) := fun q => q.1 (h.v.fresh _ hC3)
  have hn4 : ¬ (own B4 ≠ 0 ∧ own B4 ≠ 9) := fun q => q.1 (h.v.fresh _ hq4)
  have hn5 : ¬ (own B5 ≠ 0 ∧ own B5 ≠ 9) := fun q => q.1 (h.v.fresh _ hq5)
  go_upto_region 28 with (first | (go_at_call 117; refine (HO _ (by (repeat (first | with_reducible exact Ext.refl _ | with_reducible assumption | refine Ext.trans ?_ (by with_reducible assumption) | refine Ext.alloc ?_ _ _ | refine Ext.drew ?_ | refine Ext.drewN ?_ _)))).mono ?_; rintro e w1 ⟨rfl, he⟩) | ((with_reducible (refine Veil.out ?_; apply wl_loadC one32)); (case hw => rfl); (case hx => rfl); (case hc => exact KC _ (by (repeat (first | with_reducible exact Ext.refl _ | with_reducible assumption | refine Ext.trans ?_ (by with_reducible assumption) | refine Ext.alloc ?_ _ _ | refine Ext.drew ?_ | refine Ext.drewN ?_ _))))) | ((with_reducible (refine Veil.out ?_; apply wl_loadWB)); (case hx => rfl); (case hB => exact b5.ext (by (repeat (first | with_reducible exact Ext.refl _ | with_reducible assumption | refine Ext.trans ?_ (by with_reducible assumption) | refine Ext.alloc ?_ _ _ | refine Ext.drew ?_ | refine Ext.drewN ?_ _)))); (case hW => exact a5); (case hi => decide)) | (go_at_call 87; refine (HZ _).mono ?_; rintro e w4 ⟨rfl, he4⟩))
  clear HR HO HA0 HA1 HA2
  refine w_ext ?_
  rintro W0 hW0
  refine wp_region_held_drew (S := fun w' => Mod (fun b => own b ≠ 0 ∧ own b ≠ 9) W0 w') (by kernel_rfl) (Mod.refl _ _).drew (fun hHeld => ?_)
  have HH : Hid (Mod (fun b => own b ≠ 0 ∧ own b ≠ 9) W0 _) := hHeld
  clear hHeld
  refine wpAnyH_take (i := 0) (v := ?_) rfl (by kernel_rfl) (by kernel_rfl) (by kernel_rfl) (fun _ _ _ h => h) (Or.inl ⟨by rfl, ?_⟩) HH.out ?_
  rotate_left
  · intro w hSw; go_simp; try with_reducible rfl
  change wpAnyH _ _ _ _ _ _ _ (Act.put _ (some 85) _) _
  simp only [Act.put, List.setIfInBounds_toArray, List.set_cons_zero, List.set_cons_succ]
  refine wpAnyH_take (i := 1) (v := ?_) rfl (by kernel_rfl) (by kernel_rfl) (by kernel_rfl) (fun _ _ _ h => h) (Or.inl ⟨by rfl, ?_⟩) HH.out ?_
  rotate_left
  · intro w hSw; go_simp; try with_reducible rfl
  change wpAnyH _ _ _ _ _ _ _ (Act.put _ (some 86) _) _
  simp only [Act.put, List.setIfInBounds_toArray, List.set_cons_zero, List.set_cons_succ]
  refine wpAnyH_take (i := 2) (v := ?_) rfl (by kernel_rfl) (by kernel_rfl) (by kernel_rfl) (fun _ _ _ h => h) (Or.inl ⟨by rfl, ?_⟩) HH.out ?_
  rotate_left
  · intro w hSw; go_simp; try with_reducible rfl
  change wpAnyH _ _ _ _ _ _ _ (Act.put _ (some 87) _) _
  simp only [Act.put, List.setIfInBounds_toArray, List.set_cons_zero, List.set_cons_succ]
  refine wpAnyH_take (i := 3) rfl (by kernel_rfl) (by kernel_rfl) (by kernel_rfl) (fun _ _ _ h => h) (yields_W (by rfl) rfl rfl (fun w hSw => (b3.ext (show Ext _ W0 from by (repeat (first | with_reducible exact Ext.refl _ | with_reducible assumption | refine Ext.trans ?_ (by with_reducible assumption) | refine Ext.alloc ?_ _ _ | refine Ext.drew ?_ | refine Ext.drewN ?_ _)))).mod hSw hn3) a3 (by decide)) HH.out ?_
  change wpAnyH _ _ _ _ _ _ _ (Act.put _ (some 88) _) _
  simp only [Act.put, List.setIfInBounds_toArray, List.set_cons_zero, List.set_cons_succ]
  refine wpAnyH_take (i := 5) (v := ?_) rfl (by kernel_rfl) (by kernel_rfl) (by kernel_rfl) (fun _ _ _ h => h) (Or.inl ⟨by rfl, ?_⟩) HH.out ?_
  rotate_left
  · intro w hSw; go_simp; try with_reducible rfl
  change wpAnyH _ _ _ _ _ _ _ (Act.put _ (some 90) _) _
  simp only [Act.put, List.setIfInBounds_toArray, List.set_cons_zero, List.set_cons_succ]
  refine wpAnyH_take (i := 6) rfl (by kernel_rfl) (by kernel_rfl) (by kernel_rfl) (fun _ _ _ h => h) (yields_W (by rfl) rfl rfl (fun w hSw => (b4.ext (show Ext _ W0 from by (repeat (first | with_reducible exact Ext.refl _ | with_reducible assumption | refine Ext.trans ?_ (by with_reducible assumption) | refine Ext.alloc ?_ _ _ | refine Ext.drew ?_ | refine Ext.drewN ?_ _)))).mod hSw hn4) a4 (by decide)) HH.out ?_
  change wpAnyH _ _ _ _ _ _ _ (Act.put _ (some 91) _) _
  simp only [Act.put, List.setIfInBounds_toArray, List.set_cons_zero, List.set_cons_succ]
  refine wpAnyH_take (i := 8) rfl (by kernel_rfl) (by kernel_rfl) (by kernel_rfl) (fun _ _ _ h => h) (yields_W (by rfl) rfl rfl (fun w hSw => (b5.ext (show Ext _ W0 from by (repeat (first | with_reducible exact Ext.refl _ | with_reducible assumption | refine Ext.trans ?_ (by with_reducible assumption) | refine Ext.alloc ?_ _ _ | refine Ext.drew ?_ | refine Ext.drewN ?_ _)))).mod hSw hn5) a5 (by decide)) HH.out ?_
  change wpAnyH _ _ _ _ _ _ _ (Act.put _ (some 93) _) _
  simp only [Act.put, List.setIfInBounds_toArray, List.set_cons_zero, List.set_cons_succ]
  refine wpAnyH_ready (rs := [4]) (by kernel_rfl) (by simp) ?_
  refine AllReadyH.cons rfl (fun K hK => ?_) AllReadyH.nil
  go_simp
  go_at_call 308; refine (HM0 _).mono ?_; rintro e w4 ⟨rfl, he⟩
  refine hK.out _ _ ?_ (fun hHeld => ?_)
  · first | exact HH.out.trans_ext he | exact HH.out.trans m5.mod
  clear hK K HH
  have HH : Hid (Mod (fun b => own b ≠ 0 ∧ own b ≠ 9) W0 _) := hHeld
  clear hHeld
  refine wpAnyH_ready (rs := [7]) (by kernel_rfl) (by simp) ?_
  refine AllReadyH.cons rfl (fun K hK => ?_) AllReadyH.nil
  go_simp
  go_at_call 306; refine (HM1 _).mono ?_; rintro e w4 ⟨rfl, he⟩
  refine hK.out _ _ ?_ (fun hHeld => ?_)
  · first | exact HH.out.trans_ext he | exact HH.out.trans m5.mod
  clear hK K HH
  have HH : Hid (Mod (fun b => own b ≠ 0 ∧ own b ≠ 9) W0 _) := hHeld
  clear hHeld
  refine wpAnyH_ready (rs := [9]) (by kernel_rfl) (by simp) ?_
  refine AllReadyH.cons rfl (fun K hK => ?_) AllReadyH.nil
  go_simp
  go_at_call 308; refine (HM2 _).mono ?_; rintro e w4 ⟨rfl, he⟩
  refine hK.out _ _ ?_ (fun hHeld => ?_)
  · first | exact HH.out.trans_ext he | exact HH.out.trans m5.mod
  clear hK K HH
  have HH : Hid (Mod (fun b => own b ≠ 0 ∧ own b ≠ 9) W0 _) := hHeld
  clear hHeld
  refine wpAnyH_ready (rs := [10]) (by kernel_rfl) (by simp) ?_
  refine AllReadyH.cons rfl (fun K hK => ?_) AllReadyH.nil
  go_simp
  go_at_call 267; refine (HST _ (by (repeat (first | with_reducible exact Ext.refl _ | with_reducible assumption | refine Ext.trans ?_ (by with_reducible assumption) | refine Ext.alloc ?_ _ _ | refine Ext.drew ?_ | refine Ext.drewN ?_ _)))).mono ?_; rintro e w5 ⟨rfl, h5, m5⟩
  refine hK.out _ _ ?_ (fun hHeld => ?_)
  · first | exact HH.out.trans_ext he | exact HH.out.trans m5.mod
  clear hK K HH
  have HH : Hid (Mod (fun b => own b ≠ 0 ∧ own b ≠ 9) W0 _) := hHeld
  clear hHeld
  refine wpAnyH_take (i := 11) (v := ?_) rfl (by kernel_rfl) (by kernel_rfl) (by kernel_rfl) (fun _ _ _ h => h) (Or.inl ⟨by rfl, ?_⟩) HH.out ?_
  rotate_left
  · intro w hSw; go_simp; try with_reducible rfl
  change wpAnyH _ _ _ _ _ _ _ (Act.put _ (some 10) _) _
  simp only [Act.put, List.setIfInBounds_toArray, List.set_cons_zero, List.set_cons_succ]
  refine wpAnyH_done (by kernel_rfl) ?_ _
  have mS : MStep own w own w5 := (MStep.ext (by (repeat (first | with_reducible exact Ext.refl _ | with_reducible assumption | refine Ext.trans ?_ (by with_reducible assumption) | refine Ext.alloc ?_ _ _ | refine Ext.drew ?_ | refine Ext.drewN ?_ _)))).trans m5
  have HS := mSetN h5 rfl 3 1 0 hl (show f.pc + 1 ≤ 60000 by omega)
  rw [wv0] at HS
  clear HST m5
  go_wp2_with (first | (go_at_call 268; refine (HS _ (by (repeat (first | with_reducible exact Ext.refl _ | with_reducible assumption | refine Ext.trans ?_ (by with_reducible assumption) | refine Ext.alloc ?_ _ _ | refine Ext.drew ?_ | refine Ext.drewN ?_ _)))).mono ?_; rintro e w9 ⟨rfl, hfin⟩))
  go_end0
  obtain ⟨c9, h9, m9⟩ := hfin
  exact ⟨rfl, c9, h9, mS.trans m9⟩
set_option maxRecDepth 100000 in
set_option maxHeartbeats 6400000 in
theorem mOpCopy94z (h : MRep own w g c V st (s :: sn) stale) (hst : st.frames = f :: rest) (hph : st.phase = 1) (ho : f.opcode = 94) (hl : 3 ≤ f.stack.length) (hpc : f.pc ≤ 50000) (hz : f.arg 2 = 0) : Calls Hvah.prog 204 #[.pointer (some ⟨g, 0, none⟩)] w fun e w' => e = .returned (.tuple #[]) ∧ ∃ c', MRep own w' g c' V { st with frames := ({ f with mem := copyA f.mem (f.arg 0) f.mem (f.arg 1) (f.arg 2) } : AFrame).settle 3 [] 1 :: rest } (s :: sn) stale ∧ MStep own w own w' := by
  obtain ⟨hfr, hr7⟩ := h.frame hst
  have hml := hfr.ok.mLen
  have HR := fun W (hW : Ext w W) => mRun (h.ext hW) hst hph
  have HO := fun W (hW : Ext w W) => mOp (h.ext hW) hst hph
  rw [ho] at HO
  have hx0 := hfr.ok.argLt 0
  have hx1 := hfr.ok.argLt 1
  have hx2 := hfr.ok.argLt 2
  have HA0 := fun W (hW : Ext w W) => mArg (h.ext hW) hst 0 (by decide)
  have HA1 := fun W (hW : Ext w W) => mArg (h.ext hW) hst 1 (by decide)
  have HA2 := fun W (hW : Ext w W) => mArg (h.ext hW) hst 2 (by decide)
  have HZ : ∀ W, Calls Hvah.prog 87 #[wv (f.arg 2)] W fun e w' => e = .returned (.bool (decide (f.arg 2 = 0))) ∧ Ext W w' := fun W => uIsZero _ W hx2
  rw [decide_eq_true hz] at HZ
  rw [show copyA f.mem (f.arg 0) f.mem (f.arg 1) (f.arg 2) = f.mem from if_pos hz]
  clear hz
  have HS := mSetN h hst 3 1 0 (by omega) (by omega)
  rw [wv0] at HS
  go_enter Hvah.func204, Hvah.ntmps204
  go_upto_region 3 with (first | (go_at_call 192; refine (HR _ (by (repeat (first | with_reducible exact Ext.refl _ | with_reducible assumption | refine Ext.trans ?_ (by with_reducible assumption) | refine Ext.alloc ?_ _ _ | refine Ext.drew ?_ | refine Ext.drewN ?_ _)))).mono ?_; rintro e w1 ⟨rfl, he⟩) | (go_at_call_of 273 (Value.int IntKind.i64 0); refine (HA0 _ (by (repeat (first | with_reducible exact Ext.refl _ | with_reducible assumption | refine Ext.trans ?_ (by with_reducible assumption) | refine Ext.alloc ?_ _ _ | refine Ext.drew ?_ | refine Ext.drewN ?_ _)))).mono ?_; rintro e w1 ⟨rfl, he⟩) | ((with_reducible (refine Veil.out ?_; apply wl_allocW)); rintro B3 Wa3 ca3 ea3 ba3 aa3 ga3; have hC3 : w.heap.size ≤ B3 := Nat.le_trans (Ext.size (show Ext w _ from by (repeat (first | with_reducible exact Ext.refl _ | with_reducible assumption | refine Ext.trans ?_ (by with_reducible assumption) | refine Ext.alloc ?_ _ _ | refine Ext.drew ?_ | refine Ext.drewN ?_ _)))) ga3) | ((with_reducible (refine Veil.out ?_; apply wl_storeWB)); (case hx => rfl); (case hy => first | rfl | exact wv0.symm); (case hB => exact ba3.ext (by (repeat (first | with_reducible exact Ext.refl _ | with_reducible assumption | refine Ext.trans ?_ (by with_reducible assumption) | refine Ext.alloc ?_ _ _ | refine Ext.drew ?_ | refine Ext.drewN ?_ _)))); (case hi => decide); rintro W3 c3 b3 a3 _ m3; have hE3 : Ext w W3 := Ext.trans_mod (by (repeat (first | with_reducible exact Ext.refl _ | with_reducible assumption | refine Ext.trans ?_ (by with_reducible assumption) | refine Ext.alloc ?_ _ _ | refine Ext.drew ?_ | refine Ext.drewN ?_ _))) m3 (fun i hi => by have hi2 : i = _ := hi; rw [hi2]; exact hC3); clear ba3 aa3 m3))
  go_upto_region 4 with (first | (go_at_call_of 273 (Value.int IntKind.i64 1); refine (HA1 _ (by (repeat (first | with_reducible exact Ext.refl _ | with_reducible assumption | refine Ext.trans ?_ (by with_reducible assumption) | refine Ext.alloc ?_ _ _ | refine Ext.drew ?_ | refine Ext.drewN ?_ _)))).mono ?_; rintro e w1 ⟨rfl, he⟩) | ((with_reducible (refine Veil.out ?_; apply wl_allocW)); rintro B4 Wa4 ca4 ea4 ba4 aa4 ga4; have hC4 : W3.heap.size ≤ B4 := Nat.le_trans (Ext.size (show Ext W3 _ from by (repeat (first | with_reducible exact Ext.refl _ | with_reducible assumption | refine Ext.trans ?_ (by with_reducible assumption) | refine Ext.alloc ?_ _ _ | refine Ext.drew ?_ | refine Ext.drewN ?_ _)))) ga4) | ((with_reducible (refine Veil.out ?_; apply wl_storeWB)); (case hx => rfl); (case hy => first | rfl | exact wv0.symm); (case hB => exact ba4.ext (by (repeat (first | with_reducible exact Ext.refl _ | with_reducible assumption | refine Ext.trans ?_ (by with_reducible assumption) | refine Ext.alloc ?_ _ _ | refine Ext.drew ?_ | refine Ext.drewN ?_ _)))); (case hi => decide); rintro W4 c4 b4 a4 _ m4; have hE4 : Ext W3 W4 := Ext.trans_mod (by (repeat (first | with_reducible exact Ext.refl _ | with_reducible assumption | refine Ext.trans ?_ (by with_reducible assumption) | refine Ext.alloc ?_ _ _ | refine Ext.drew ?_ | refine Ext.drewN ?_ _))) m4 (fun i hi => by have hi2 : i = _ := hi; rw [hi2]; exact hC4); clear ba4 aa4 m4))
  go_upto_region 5 with (first | (go_at_call_of 273 (Value.int IntKind.i64 2); refine (HA2 _ (by (repeat (first | with_reducible exact Ext.refl _ | with_reducible assumption | refine Ext.trans ?_ (by with_reducible assumption) | refine Ext.alloc ?_ _ _ | refine Ext.drew ?_ | refine Ext.drewN ?_ _)))).mono ?_; rintro e w1 ⟨rfl, he⟩) | ((with_reducible (refine Veil.out ?_; apply wl_allocW)); rintro B5 Wa5 ca5 ea5 ba5 aa5 ga5; have hC5 : W4.heap.size ≤ B5 := Nat.le_trans (Ext.size (show Ext W4 _ from by (repeat (first | with_reducible exact Ext.refl _ | with_reducible assumption | refine Ext.trans ?_ (by with_reducible assumption) | refine Ext.alloc ?_ _ _ | refine Ext.drew ?_ | refine Ext.drewN ?_ _)))) ga5) | ((with_reducible (refine Veil.out ?_; apply wl_storeWB)); (case hx => rfl); (case hy => first | rfl | exact wv0.symm); (case hB => exact ba5.ext (by (repeat (first | with_reducible exact Ext.refl _ | with_reducible assumption | refine Ext.trans ?_ (by with_reducible assumption) | refine Ext.alloc ?_ _ _ | refine Ext.drew ?_ | refine Ext.drewN ?_ _)))); (case hi => decide); rintro W5 c5 b5 a5 _ m5; have hE5 : Ext W4 W5 := Ext.trans_mod (by (repeat (first | with_reducible exact Ext.refl _ | with_reducible assumption | refine Ext.trans ?_ (by with_reducible assumption) | refine Ext.alloc ?_ _ _ | refine Ext.drew ?_ | refine Ext.drewN ?_ _))) m5 (fun i hi => by have hi2 : i = _ := hi; rw [hi2]; exact hC5); clear ba5 aa5 m5))
  go_upto_region 26 with (first | (go_at_call 117; refine (HO _ (by (repeat (first | with_reducible exact Ext.refl _ | with_reducible assumption | refine Ext.trans ?_ (by with_reducible assumption) | refine Ext.alloc ?_ _ _ | refine Ext.drew ?_ | refine Ext.drewN ?_ _)))).mono ?_; rintro e w1 ⟨rfl, he⟩))
  clear HR HO HA0 HA1 HA2
  refine w_ext ?_
  rintro W0 hW0
  refine wp_region_held_drew (S := fun w' => Ext W0 w') (by kernel_rfl) (Ext.refl _).drew (fun hHeld => ?_)
  have HH : Hid (Ext W0 _) := hHeld
  clear hHeld
  refine wpAnyH_take (i := 0) rfl (by kernel_rfl) (by kernel_rfl) (by kernel_rfl) (fun _ _ _ h => h) (yields_W (by rfl) rfl rfl (fun w hSw => b5.ext (Ext.trans (by (repeat (first | with_reducible exact Ext.refl _ | with_reducible assumption | refine Ext.trans ?_ (by with_reducible assumption) | refine Ext.alloc ?_ _ _ | refine Ext.drew ?_ | refine Ext.drewN ?_ _))) hSw)) a5 (by decide)) HH.out ?_
  change wpAnyH _ _ _ _ _ _ _ (Act.put _ (some 68) _) _
  simp only [Act.put, List.setIfInBounds_toArray, List.set_cons_zero, List.set_cons_succ]
  refine wpAnyH_ready (rs := [1]) (by kernel_rfl) (by simp) ?_
  refine AllReadyH.cons rfl (fun K hK => ?_) AllReadyH.nil
  go_simp
  go_at_call 87; refine (HZ _).mono ?_; rintro e w4 ⟨rfl, he⟩
  refine hK.out _ _ ?_ (fun hHeld => ?_)
  · first | exact HH.out.trans hmY | exact HH.out.trans he | exact HH.out
  clear hK K HH
  have HH : Hid (Ext W0 _) := hHeld
  clear hHeld
  refine wpAnyH_take (i := 2) (v := ?_) rfl (by kernel_rfl) (by kernel_rfl) (by kernel_rfl) (fun _ _ _ h => h) (Or.inl ⟨by rfl, ?_⟩) HH.out ?_
  rotate_left
  · intro w hSw; go_simp; try with_reducible rfl
  change wpAnyH _ _ _ _ _ _ _ (Act.put _ (some 70) _) _
  simp only [Act.put, List.setIfInBounds_toArray, List.set_cons_zero, List.set_cons_succ]
  refine wpAnyH_take (i := 3) (v := undef) rfl (by kernel_rfl) (by kernel_rfl) (by kernel_rfl) (fun _ _ _ h => h) (Or.inr ⟨by rfl, rfl⟩) HH.out ?_
  change wpAnyH _ _ _ _ _ _ _ (Act.put _ (some 71) _) _
  simp only [Act.put, List.setIfInBounds_toArray, List.set_cons_zero, List.set_cons_succ]
  refine wpAnyH_take (i := 4) (v := undef) rfl (by kernel_rfl) (by kernel_rfl) (by kernel_rfl) (fun _ _ _ h => h) (Or.inr ⟨by rfl, rfl⟩) HH.out ?_
  change wpAnyH _ _ _ _ _ _ _ (Act.put _ (some 72) _) _
  simp only [Act.put, List.setIfInBounds_toArray, List.set_cons_zero, List.set_cons_succ]
  refine wpAnyH_take (i := 5) (v := undef) rfl (by kernel_rfl) (by kernel_rfl) (by kernel_rfl) (fun _ _ _ h => h) (Or.inr ⟨by rfl, rfl⟩) HH.out ?_
  change wpAnyH _ _ _ _ _ _ _ (Act.put _ (some 73) _) _
  simp only [Act.put, List.setIfInBounds_toArray, List.set_cons_zero, List.set_cons_succ]
  refine wpAnyH_take (i := 6) (v := undef) rfl (by kernel_rfl) (by kernel_rfl) (by kernel_rfl) (fun _ _ _ h => h) (Or.inr ⟨by rfl, rfl⟩) HH.out ?_
  change wpAnyH _ _ _ _ _ _ _ (Act.put _ (some 74) _) _
  simp only [Act.put, List.setIfInBounds_toArray, List.set_cons_zero, List.set_cons_succ]
  refine wpAnyH_take (i := 7) (v := undef) rfl (by kernel_rfl) (by kernel_rfl) (by kernel_rfl) (fun _ _ _ h => h) (Or.inr ⟨by rfl, rfl⟩) HH.out ?_
  change wpAnyH _ _ _ _ _ _ _ (Act.put _ (some 75) _) _
  simp only [Act.put, List.setIfInBounds_toArray, List.set_cons_zero, List.set_cons_succ]
  refine wpAnyH_take (i := 8) (v := undef) rfl (by kernel_rfl) (by kernel_rfl) (by kernel_rfl) (fun _ _ _ h => h) (Or.inr ⟨by rfl, rfl⟩) HH.out ?_
  change wpAnyH _ _ _ _ _ _ _ (Act.put _ (some 76) _) _
  simp only [Act.put, List.setIfInBounds_toArray, List.set_cons_zero, List.set_cons_succ]
  refine wpAnyH_take (i := 9) (v := undef) rfl (by kernel_rfl) (by kernel_rfl) (by kernel_rfl) (fun _ _ _ h => h) (Or.inr ⟨by rfl, rfl⟩) HH.out ?_
  change wpAnyH _ _ _ _ _ _ _ (Act.put _ (some 77) _) _
  simp only [Act.put, List.setIfInBounds_toArray, List.set_cons_zero, List.set_cons_succ]
  refine wpAnyH_take (i := 10) (v := undef) rfl (by kernel_rfl) (by kernel_rfl) (by kernel_rfl) (fun _ _ _ h => h) (Or.inr ⟨by rfl, rfl⟩) HH.out ?_
  change wpAnyH _ _ _ _ _ _ _ (Act.put _ (some 78) _) _
  simp only [Act.put, List.setIfInBounds_toArray, List.set_cons_zero, List.set_cons_succ]
  refine wpAnyH_take (i := 11) (v := undef) rfl (by kernel_rfl) (by kernel_rfl) (by kernel_rfl) (fun _ _ _ h => h) (Or.inr ⟨by rfl, rfl⟩) HH.out ?_
  change wpAnyH _ _ _ _ _ _ _ (Act.put _ (some 79) _) _
  simp only [Act.put, List.setIfInBounds_toArray, List.set_cons_zero, List.set_cons_succ]
  refine wpAnyH_take (i := 12) (v := undef) rfl (by kernel_rfl) (by kernel_rfl) (by kernel_rfl) (fun _ _ _ h => h) (Or.inr ⟨by rfl, rfl⟩) HH.out ?_
  change wpAnyH _ _ _ _ _ _ _ (Act.put _ (some 80) _) _
  simp only [Act.put, List.setIfInBounds_toArray, List.set_cons_zero, List.set_cons_succ]
  refine wpAnyH_take (i := 13) (v := ?_) rfl (by kernel_rfl) (by kernel_rfl) (by kernel_rfl) (fun _ _ _ h => h) (Or.inl ⟨by rfl, ?_⟩) HH.out ?_
  rotate_left
  · intro w hSw; go_simp; try with_reducible rfl
  change wpAnyH _ _ _ _ _ _ _ (Act.put _ (some 81) _) _
  simp only [Act.put, List.setIfInBounds_toArray, List.set_cons_zero, List.set_cons_succ]
  refine wpAnyH_take (i := 14) (v := ?_) rfl (by kernel_rfl) (by kernel_rfl) (by kernel_rfl) (fun _ _ _ h => h) (Or.inl ⟨by rfl, ?_⟩) HH.out ?_
  rotate_left
  · intro w hSw; go_simp; try with_reducible rfl
  change wpAnyH _ _ _ _ _ _ _ (Act.put _ (some 10) _) _
  simp only [Act.put, List.setIfInBounds_toArray, List.set_cons_zero, List.set_cons_succ]
  refine wpAnyH_done (by kernel_rfl) ?_ _
  go_wp2_with (first | (go_at_call 268; refine (HS _ (by (repeat (first | with_reducible exact Ext.refl _ | with_reducible assumption | refine Ext.trans ?_ (by with_reducible assumption) | refine Ext.alloc ?_ _ _ | refine Ext.drew ?_ | refine Ext.drewN ?_ _)))).mono ?_; rintro e w9 ⟨rfl, hfin⟩))
  go_end0
  exact ⟨rfl, hfin⟩
set_option maxRecDepth 100000 in
set_option maxHeartbeats 6400000 in
theorem mOpCopy94 (h : MRep own w g c V st (s :: sn) stale) (hst : st.frames = f :: rest) (hph : st.phase = 1) (ho : f.opcode = 94) (hl : 3 ≤ f.stack.length) (hpc : f.pc ≤ 50000) (hz : f.arg 2 ≠ 0) (hf : f.arg 0 + f.arg 2 ≤ f.mem.length) (hf2 : f.arg 1 + f.arg 2 ≤ f.mem.length) : Calls Hvah.prog 204 #[.pointer (some ⟨g, 0, none⟩)] w fun e w' => e = .returned (.tuple #[]) ∧ ∃ c', MRep own w' g c' V { st with frames := ({ f with mem := copyA f.mem (f.arg 0) f.mem (f.arg 1) (f.arg 2) } : AFrame).settle 3 [] 1 :: rest } (s :: sn) stale ∧ MStep own w own w' := by
  obtain ⟨hfr, hr7⟩ := h.frame hst
  have hml := hfr.ok.mLen
  have HR := fun W (hW : Ext w W) => mRun (h.ext hW) hst hph
  have HO := fun W (hW : Ext w W) => mOp (h.ext hW) hst hph
  rw [ho] at HO
  have hx0 := hfr.ok.argLt 0
  have hx1 := hfr.ok.argLt 1
  have hx2 := hfr.ok.argLt 2
  have HA0 := fun W (hW : Ext w W) => mArg (h.ext hW) hst 0 (by decide)
  have HA1 := fun W (hW : Ext w W) => mArg (h.ext hW) hst 1 (by decide)
  have HA2 := fun W (hW : Ext w W) => mArg (h.ext hW) hst 2 (by decide)
  have HZ : ∀ W, Calls Hvah.prog 87 #[wv (f.arg 2)] W fun e w' => e = .returned (.bool (decide (f.arg 2 = 0))) ∧ Ext W w' := fun W => uIsZero _ W hx2
  rw [decide_eq_false hz] at HZ
  have hk : 0 < f.arg 2 := by omega
  have ec : (f.mem.drop (f.arg 1)).take (f.arg 2) = cutA f.mem (f.arg 1) (f.arg 2) := by
    unfold cutA
    rw [List.take_append_of_le_length (by rw [List.length_drop]; omega)]
  have HST := fun W (hW : Ext w W) => mMMove (h.ext hW) hst (f.arg 0) (f.arg 1) (f.arg 2) hk hf hf2
  rw [ec, copyA_pos hz hf] at HST
  clear ec
  have HM0 := fun W => mSmall (f.arg 0) W hx0
  have HM2 := fun W => mSmall (f.arg 2) W hx2
  rw [show min (f.arg 0) 4294967295 = f.arg 0 by omega] at HM0
  rw [show min (f.arg 2) 4294967295 = f.arg 2 by omega] at HM2
  have HM1 := fun W => mSmall (f.arg 1) W hx1
  rw [show min (f.arg 1) 4294967295 = f.arg 1 by omega] at HM1
  go_enter Hvah.func204, Hvah.ntmps204
  go_upto_region 3 with (first | (go_at_call 192; refine (HR _ (by (repeat (first | with_reducible exact Ext.refl _ | with_reducible assumption | refine Ext.trans ?_ (by with_reducible assumption) | refine Ext.alloc ?_ _ _ | refine Ext.drew ?_ | refine Ext.drewN ?_ _)))).mono ?_; rintro e w1 ⟨rfl, he⟩) | (go_at_call_of 273 (Value.int IntKind.i64 0); refine (HA0 _ (by (repeat (first | with_reducible exact Ext.refl _ | with_reducible assumption | refine Ext.trans ?_ (by with_reducible assumption) | refine Ext.alloc ?_ _ _ | refine Ext.drew ?_ | refine Ext.drewN ?_ _)))).mono ?_; rintro e w1 ⟨rfl, he⟩) | ((with_reducible (refine Veil.out ?_; apply wl_allocW)); rintro B3 Wa3 ca3 ea3 ba3 aa3 ga3; have hC3 : w.heap.size ≤ B3 := Nat.le_trans (Ext.size (show Ext w _ from by (repeat (first | with_reducible exact Ext.refl _ | with_reducible assumption | refine Ext.trans ?_ (by with_reducible assumption) | refine Ext.alloc ?_ _ _ | refine Ext.drew ?_ | refine Ext.drewN ?_ _)))) ga3) | ((with_reducible (refine Veil.out ?_; apply wl_storeWB)); (case hx => rfl); (case hy => first | rfl | exact wv0.symm); (case hB => exact ba3.ext (by (repeat (first | with_reducible exact Ext.refl _ | with_reducible assumption | refine Ext.trans ?_ (by with_reducible assumption) | refine Ext.alloc ?_ _ _ | refine Ext.drew ?_ | refine Ext.drewN ?_ _)))); (case hi => decide); rintro W3 c3 b3 a3 _ m3; have hE3 : Ext w W3 := Ext.trans_mod (by (repeat (first | with_reducible exact Ext.refl _ | with_reducible assumption | refine Ext.trans ?_ (by with_reducible assumption) | refine Ext.alloc ?_ _ _ | refine Ext.drew ?_ | refine Ext.drewN ?_ _))) m3 (fun i hi => by have hi2 : i = _ := hi; rw [hi2]; exact hC3); clear ba3 aa3 m3))
  go_upto_region 4 with (first | (go_at_call_of 273 (Value.int IntKind.i64 1); refine (HA1 _ (by (repeat (first | with_reducible exact Ext.refl _ | with_reducible assumption | refine Ext.trans ?_ (by with_reducible assumption) | refine Ext.alloc ?_ _ _ | refine Ext.drew ?_ | refine Ext.drewN ?_ _)))).mono ?_; rintro e w1 ⟨rfl, he⟩) | ((with_reducible (refine Veil.out ?_; apply wl_allocW)); rintro B4 Wa4 ca4 ea4 ba4 aa4 ga4; have hC4 : W3.heap.size ≤ B4 := Nat.le_trans (Ext.size (show Ext W3 _ from by (repeat (first | with_reducible exact Ext.refl _ | with_reducible assumption | refine Ext.trans ?_ (by with_reducible assumption) | refine Ext.alloc ?_ _ _ | refine Ext.drew ?_ | refine Ext.drewN ?_ _)))) ga4) | ((with_reducible (refine Veil.out ?_; apply wl_storeWB)); (case hx => rfl); (case hy => first | rfl | exact wv0.symm); (case hB => exact ba4.ext (by (repeat (first | with_reducible exact Ext.refl _ | with_reducible assumption | refine Ext.trans ?_ (by with_reducible assumption) | refine Ext.alloc ?_ _ _ | refine Ext.drew ?_ | refine Ext.drewN ?_ _)))); (case hi => decide); rintro W4 c4 b4 a4 _ m4; have hE4 : Ext W3 W4 := Ext.trans_mod (by (repeat (first | with_reducible exact Ext.refl _ | with_reducible assumption | refine Ext.trans ?_ (by with_reducible assumption) | refine Ext.alloc ?_ _ _ | refine Ext.drew ?_ | refine Ext.drewN ?_ _))) m4 (fun i hi => by have hi2 : i = _ := hi; rw [hi2]; exact hC4); clear ba4 aa4 m4))
  go_upto_region 5 with (first | (go_at_call_of 273 (Value.int IntKind.i64 2); refine (HA2 _ (by (repeat (first | with_reducible exact Ext.refl _ | with_reducible assumption | refine Ext.trans ?_ (by with_reducible assumption) | refine Ext.alloc ?_ _ _ | refine Ext.drew ?_ | refine Ext.drewN ?_ _)))).mono ?_; rintro e w1 ⟨rfl, he⟩) | ((with_reducible (refine Veil.out ?_; apply wl_allocW)); rintro B5 Wa5 ca5 ea5 ba5 aa5 ga5; have hC5 : W4.heap.size ≤ B5 := Nat.le_trans (Ext.size (show Ext W4 _ from by (repeat (first | with_reducible exact Ext.refl _ | with_reducible assumption | refine Ext.trans ?_ (by with_reducible assumption) | refine Ext.alloc ?_ _ _ | refine Ext.drew ?_ | refine Ext.drewN ?_ _)))) ga5) | ((with_reducible (refine Veil.out ?_; apply wl_storeWB)); (case hx => rfl); (case hy => first | rfl | exact wv0.symm); (case hB => exact ba5.ext (by (repeat (first | with_reducible exact Ext.refl _ | with_reducible assumption | refine Ext.trans ?_ (by with_reducible assumption) | refine Ext.alloc ?_ _ _ | refine Ext.drew ?_ | refine Ext.drewN ?_ _)))); (case hi => decide); rintro W5 c5 b5 a5 _ m5; have hE5 : Ext W4 W5 := Ext.trans_mod (by (repeat (first | with_reducible exact Ext.refl _ | with_reducible assumption | refine Ext.trans ?_ (by with_reducible assumption) | refine Ext.alloc ?_ _ _ | refine Ext.drew ?_ | refine Ext.drewN ?_ _))) m5 (fun i hi => by have hi2 : i = _ := hi; rw [hi2]; exact hC5); clear ba5 aa5 m5))
  have hq4 : w.heap.size ≤ B4 := Nat.le_trans (Ext.size hE3) hC4
  have hq5 : w.heap.size ≤ B5 := Nat.le_trans (Ext.size (show Ext w W4 from by (repeat (first | with_reducible exact Ext.refl _ | with_reducible assumption | refine Ext.trans ?_ (by with_reducible assumption) | refine Ext.alloc ?_ _ _ | refine Ext.drew ?_ | refine Ext.drewN ?_ _)))) hC5
  have hn3 : ¬ (own B3 ≠ 0 ∧ own B3 ≠ 9) := fun q => q.1 (h.v.fresh _ hC3)
  have hn4 : ¬ (own B4 ≠ 0 ∧ own B4 ≠ 9) := fun q => q.1 (h.v.fresh _ hq4)
  have hn5 : ¬ (own B5 ≠ 0 ∧ own B5 ≠ 9) := fun q => q.1 (h.v.fresh _ hq5)
  go_upto_region 26 with (first | (go_at_call 117; refine (HO _ (by (repeat (first | with_reducible exact Ext.refl _ | with_reducible assumption | refine Ext.trans ?_ (by with_reducible assumption) | refine Ext.alloc ?_ _ _ | refine Ext.drew ?_ | refine Ext.drewN ?_ _)))).mono ?_; rintro e w1 ⟨rfl, he⟩))
  clear HR HO HA0 HA1 HA2
  refine w_ext ?_
  rintro W0 hW0
  refine wp_region_held_drew (S := fun w' => Mod (fun b => own b ≠ 0 ∧ own b ≠ 9) W0 w') (by kernel_rfl) (Mod.refl _ _).drew (fun hHeld => ?_)
  have HH : Hid (Mod (fun b => own b ≠ 0 ∧ own b ≠ 9) W0 _) := hHeld
  clear hHeld
  refine wpAnyH_take (i := 0) rfl (by kernel_rfl) (by kernel_rfl) (by kernel_rfl) (fun _ _ _ h => h) (yields_W (by rfl) rfl rfl (fun w hSw => (b5.ext (show Ext _ W0 from by (repeat (first | with_reducible exact Ext.refl _ | with_reducible assumption | refine Ext.trans ?_ (by with_reducible assumption) | refine Ext.alloc ?_ _ _ | refine Ext.drew ?_ | refine Ext.drewN ?_ _)))).mod hSw hn5) a5 (by decide)) HH.out ?_
  change wpAnyH _ _ _ _ _ _ _ (Act.put _ (some 68) _) _
  simp only [Act.put, List.setIfInBounds_toArray, List.set_cons_zero, List.set_cons_succ]
  refine wpAnyH_ready (rs := [1]) (by kernel_rfl) (by simp) ?_
  refine AllReadyH.cons rfl (fun K hK => ?_) AllReadyH.nil
  go_simp
  go_at_call 87; refine (HZ _).mono ?_; rintro e w4 ⟨rfl, he⟩
  refine hK.out _ _ ?_ (fun hHeld => ?_)
  · first | exact HH.out.trans_ext he | exact HH.out.trans m5.mod
  clear hK K HH
  have HH : Hid (Mod (fun b => own b ≠ 0 ∧ own b ≠ 9) W0 _) := hHeld
  clear hHeld
  refine wpAnyH_take (i := 2) (v := ?_) rfl (by kernel_rfl) (by kernel_rfl) (by kernel_rfl) (fun _ _ _ h => h) (Or.inl ⟨by rfl, ?_⟩) HH.out ?_
  rotate_left
  · intro w hSw; go_simp; try with_reducible rfl
  change wpAnyH _ _ _ _ _ _ _ (Act.put _ (some 70) _) _
  simp only [Act.put, List.setIfInBounds_toArray, List.set_cons_zero, List.set_cons_succ]
  refine wpAnyH_take (i := 3) (v := ?_) rfl (by kernel_rfl) (by kernel_rfl) (by kernel_rfl) (fun _ _ _ h => h) (Or.inl ⟨by rfl, ?_⟩) HH.out ?_
  rotate_left
  · intro w hSw; go_simp; try with_reducible rfl
  change wpAnyH _ _ _ _ _ _ _ (Act.put _ (some 71) _) _
  simp only [Act.put, List.setIfInBounds_toArray, List.set_cons_zero, List.set_cons_succ]
  refine wpAnyH_take (i := 4) (v := ?_) rfl (by kernel_rfl) (by kernel_rfl) (by kernel_rfl) (fun _ _ _ h => h) (Or.inl ⟨by rfl, ?_⟩) HH.out ?_
  rotate_left
  · intro w hSw; go_simp; try with_reducible rfl
  change wpAnyH _ _ _ _ _ _ _ (Act.put _ (some 72) _) _
  simp only [Act.put, List.setIfInBounds_toArray, List.set_cons_zero, List.set_cons_succ]
  refine wpAnyH_take (i := 5) (v := ?_) rfl (by kernel_rfl) (by kernel_rfl) (by kernel_rfl) (fun _ _ _ h => h) (Or.inl ⟨by rfl, ?_⟩) HH.out ?_
  rotate_left
  · intro w hSw; go_simp; try with_reducible rfl
  change wpAnyH _ _ _ _ _ _ _ (Act.put _ (some 73) _) _
  simp only [Act.put, List.setIfInBounds_toArray, List.set_cons_zero, List.set_cons_succ]
  refine wpAnyH_take (i := 6) rfl (by kernel_rfl) (by kernel_rfl) (by kernel_rfl) (fun _ _ _ h => h) (yields_W (by rfl) rfl rfl (fun w hSw => (b3.ext (show Ext _ W0 from by (repeat (first | with_reducible exact Ext.refl _ | with_reducible assumption | refine Ext.trans ?_ (by with_reducible assumption) | refine Ext.alloc ?_ _ _ | refine Ext.drew ?_ | refine Ext.drewN ?_ _)))).mod hSw hn3) a3 (by decide)) HH.out ?_
  change wpAnyH _ _ _ _ _ _ _ (Act.put _ (some 74) _) _
  simp only [Act.put, List.setIfInBounds_toArray, List.set_cons_zero, List.set_cons_succ]
  refine wpAnyH_take (i := 8) rfl (by kernel_rfl) (by kernel_rfl) (by kernel_rfl) (fun _ _ _ h => h) (yields_W (by rfl) rfl rfl (fun w hSw => (b4.ext (show Ext _ W0 from by (repeat (first | with_reducible exact Ext.refl _ | with_reducible assumption | refine Ext.trans ?_ (by with_reducible assumption) | refine Ext.alloc ?_ _ _ | refine Ext.drew ?_ | refine Ext.drewN ?_ _)))).mod hSw hn4) a4 (by decide)) HH.out ?_
  change wpAnyH _ _ _ _ _ _ _ (Act.put _ (some 76) _) _
  simp only [Act.put, List.setIfInBounds_toArray, List.set_cons_zero, List.set_cons_succ]
  refine wpAnyH_take (i := 10) rfl (by kernel_rfl) (by kernel_rfl) (by kernel_rfl) (fun _ _ _ h => h) (yields_W (by rfl) rfl rfl (fun w hSw => (b5.ext (show Ext _ W0 from by (repeat (first | with_reducible exact Ext.refl _ | with_reducible assumption | refine Ext.trans ?_ (by with_reducible assumption) | refine Ext.alloc ?_ _ _ | refine Ext.drew ?_ | refine Ext.drewN ?_ _)))).mod hSw hn5) a5 (by decide)) HH.out ?_
  change wpAnyH _ _ _ _ _ _ _ (Act.put _ (some 78) _) _
  simp only [Act.put, List.setIfInBounds_toArray, List.set_cons_zero, List.set_cons_succ]
  refine wpAnyH_ready (rs := [7]) (by kernel_rfl) (by simp) ?_
  refine AllReadyH.cons rfl (fun K hK => ?_) AllReadyH.nil
  go_simp
  go_at_call 308; refine (HM0 _).mono ?_; rintro e w4 ⟨rfl, he⟩
  refine hK.out _ _ ?_ (fun hHeld => ?_)
  · first | exact HH.out.trans_ext he | exact HH.out.trans m5.mod
  clear hK K HH
  have HH : Hid (Mod (fun b => own b ≠ 0 ∧ own b ≠ 9) W0 _) := hHeld
  clear hHeld
  refine wpAnyH_ready (rs := [9]) (by kernel_rfl) (by simp) ?_
  refine AllReadyH.cons rfl (fun K hK => ?_) AllReadyH.nil
  go_simp
  go_at_call 308; refine (HM1 _).mono ?_; rintro e w4 ⟨rfl, he⟩
  refine hK.out _ _ ?_ (fun hHeld => ?_)
  · first | exact HH.out.trans_ext he | exact HH.out.trans m5.mod
  clear hK K HH
  have HH : Hid (Mod (fun b => own b ≠ 0 ∧ own b ≠ 9) W0 _) := hHeld
  clear hHeld
  refine wpAnyH_ready (rs := [11]) (by kernel_rfl) (by simp) ?_
  refine AllReadyH.cons rfl (fun K hK => ?_) AllReadyH.nil
  go_simp
  go_at_call 308; refine (HM2 _).mono ?_; rintro e w4 ⟨rfl, he⟩
  refine hK.out _ _ ?_ (fun hHeld => ?_)
  · first | exact HH.out.trans_ext he | exact HH.out.trans m5.mod
  clear hK K HH
  have HH : Hid (Mod (fun b => own b ≠ 0 ∧ own b ≠ 9) W0 _) := hHeld
  clear hHeld
  refine wpAnyH_ready (rs := [12]) (by kernel_rfl) (by simp) ?_
  refine AllReadyH.cons rfl (fun K hK => ?_) AllReadyH.nil
  go_simp
  go_at_call 307; refine (HST _ (by (repeat (first | with_reducible exact Ext.refl _ | with_reducible assumption | refine Ext.trans ?_ (by with_reducible assumption) | refine Ext.alloc ?_ _ _ | refine Ext.drew ?_ | refine Ext.drewN ?_ _)))).mono ?_; rintro e w5 ⟨rfl, h5, m5⟩
  refine hK.out _ _ ?_ (fun hHeld => ?_)
  · first | exact HH.out.trans_ext he | exact HH.out.trans m5.mod
  clear hK K HH
  have HH : Hid (Mod (fun b => own b ≠ 0 ∧ own b ≠ 9) W0 _) := hHeld
  clear hHeld
  refine wpAnyH_take (i := 13) (v := ?_) rfl (by kernel_rfl) (by kernel_rfl) (by kernel_rfl) (fun _ _ _ h => h) (Or.inl ⟨by rfl, ?_⟩) HH.out ?_
  rotate_left
  · intro w hSw; go_simp; try with_reducible rfl
  change wpAnyH _ _ _ _ _ _ _ (Act.put _ (some 81) _) _
  simp only [Act.put, List.setIfInBounds_toArray, List.set_cons_zero, List.set_cons_succ]
  refine wpAnyH_take (i := 14) (v := ?_) rfl (by kernel_rfl) (by kernel_rfl) (by kernel_rfl) (fun _ _ _ h => h) (Or.inl ⟨by rfl, ?_⟩) HH.out ?_
  rotate_left
  · intro w hSw; go_simp; try with_reducible rfl
  change wpAnyH _ _ _ _ _ _ _ (Act.put _ (some 10) _) _
  simp only [Act.put, List.setIfInBounds_toArray, List.set_cons_zero, List.set_cons_succ]
  refine wpAnyH_done (by kernel_rfl) ?_ _
  have mS : MStep own w own w5 := (MStep.ext (by (repeat (first | with_reducible exact Ext.refl _ | with_reducible assumption | refine Ext.trans ?_ (by with_reducible assumption) | refine Ext.alloc ?_ _ _ | refine Ext.drew ?_ | refine Ext.drewN ?_ _)))).trans m5
  have HS := mSetN h5 rfl 3 1 0 hl (show f.pc + 1 ≤ 60000 by omega)
  rw [wv0] at HS
  clear HST m5
  go_wp2_with (first | (go_at_call 268; refine (HS _ (by (repeat (first | with_reducible exact Ext.refl _ | with_reducible assumption | refine Ext.trans ?_ (by with_reducible assumption) | refine Ext.alloc ?_ _ _ | refine Ext.drew ?_ | refine Ext.drewN ?_ _)))).mono ?_; rintro e w9 ⟨rfl, hfin⟩))
  go_end0
  obtain ⟨c9, h9, m9⟩ := hfin
  exact ⟨rfl, c9, h9, mS.trans m9⟩
end
end Go.Proofs.YgvahwGreat
