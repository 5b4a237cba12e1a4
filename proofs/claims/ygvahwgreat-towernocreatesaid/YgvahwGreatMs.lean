import Derived.Test.YgvahwGreatMr
namespace Go.Proofs.YgvahwGreat
open Go.RowKit
set_option linter.unusedSimpArgs false
section
variable {own : Nat → Nat} {w : World} {g : Nat} {c : Nat → Value} {V : EV} {st : ASt} {sn stale : List Nat} {s : Nat} {f : AFrame} {rest : List AFrame}
theorem AW.warm_self {A : AW} {a : Nat} (h : A.warmA a = true) : A.warm a = A := by
  unfold AW.warm
  rw [← h, up_self]
theorem VStep.mstep {own own' : Nat → Nat} {w w' : World} {c c' : Nat → Value} (k : VStep own w c own' w' c') : MStep own w own' w' := ⟨k.keep, k.mod.sub (fun _ q => q.1)⟩
/-- warmAcct, warm or cold. -/
theorem mWarm (h : MRep own w g c V st sn stale) (a : Nat) (ha : a < 2 ^ 160) (hJ : V.journal.length < 65536) (hroom : V.ix a = none → V.accts.length < 2560) : Calls Hvah.prog 303 #[.pointer (some ⟨g, 0, none⟩), .agg (av a)] w fun e w' => e = .returned (.bool true) ∧ ∃ own' c' V', MRep own' w' g c' V' { st with now := st.now.warm a } sn stale ∧ VStep own w c own' w' c' ∧ (V' = V ∨ V' = V.warmA a) := by
  cases hw : st.now.warmA a with
  | true =>
    refine (mWarm_t h a ha hw).mono ?_
    rintro e w1 ⟨rfl, he⟩
    refine ⟨rfl, own, c, V, ?_, ⟨fun _ _ => rfl, fun _ _ => rfl, he.mod _⟩, Or.inl rfl⟩
    rw [AW.warm_self hw]; exact h.ext he
  | false =>
    refine (mWarm_f h a ha hw hJ hroom).mono ?_
    rintro e w1 ⟨rfl, own', c', h1, k⟩
    exact ⟨rfl, own', c', _, h1, k, Or.inr rfl⟩
set_option maxRecDepth 100000 in
set_option maxHeartbeats 6400000 in
theorem mOpAcc49 (h : MRep own w g c V st (s :: sn) stale) (hst : st.frames = f :: rest) (hph : st.phase = 1) (ho : f.opcode = 49) (hl : 1 ≤ f.stack.length) (hpc : f.pc ≤ 50000) (hJ : V.journal.length < 65536) (hroom : V.ix (addrA (f.arg 0)) = none → V.accts.length < 2560) : Calls Hvah.prog 202 #[.pointer (some ⟨g, 0, none⟩)] w fun e w' => e = .returned (.tuple #[]) ∧ ∃ own' c' V', MRep own' w' g c' V' { st with now := st.now.warm (addrA (f.arg 0)), frames := f.settle 1 [st.now.bal (addrA (f.arg 0))] 1 :: rest } (s :: sn) stale ∧ MStep own w own' w' ∧ (V' = V ∨ V' = V.warmA (addrA (f.arg 0))) := by
  obtain ⟨hfr, hr7⟩ := h.frame hst
  have hsl := hfr.ok.sLen
  have hx := hfr.ok.argLt 0
  have hal : addrA (f.arg 0) < 2 ^ 160 := Nat.mod_lt _ (by decide)
  have HR := fun W (hW : Ext w W) => mRun (h.ext hW) hst hph
  have HA0 := fun W (hW : Ext w W) => mArg (h.ext hW) hst 0 (by decide)
  have HWm := fun W (hW : Ext w W) => mWarm (h.ext hW) (addrA (f.arg 0)) hal hJ hroom
  go_enter Hvah.func202, Hvah.ntmps202
  go_upto_region 5 with (first | (go_at_call 192; refine (HR _ (by (repeat (first | with_reducible exact Ext.refl _ | with_reducible assumption | refine Ext.trans ?_ (by with_reducible assumption) | refine Ext.alloc ?_ _ _ | refine Ext.drew ?_ | refine Ext.drewN ?_ _)))).mono ?_; rintro e w1 ⟨rfl, he⟩) | (go_at_call 273; refine (HA0 _ (by (repeat (first | with_reducible exact Ext.refl _ | with_reducible assumption | refine Ext.trans ?_ (by with_reducible assumption) | refine Ext.alloc ?_ _ _ | refine Ext.drew ?_ | refine Ext.drewN ?_ _)))).mono ?_; rintro e w1 ⟨rfl, he⟩) | (go_at_call 302; refine (mAddrOf _ hx _).mono ?_; rintro e w2 ⟨rfl, he2⟩) | ((with_reducible (refine Veil.out ?_; apply wl_allocA)); rintro B2 W2 c2 e2 b2 a2 g2) | ((with_reducible (refine Veil.out ?_; apply wl_storeA)); (case hx => rfl); (case hy => rfl); (case hv => exact hal); (case hB => exact Blk.ext b2 (by (repeat (first | with_reducible exact Ext.refl _ | with_reducible assumption | refine Ext.trans ?_ (by with_reducible assumption) | refine Ext.alloc ?_ _ _ | refine Ext.drew ?_ | refine Ext.drewN ?_ _)))); (case hi => decide); rintro W3 c3 b3 a3 _ m3; have hE3 : Ext w W3 := Ext.trans_mod (by (repeat (first | with_reducible exact Ext.refl _ | with_reducible assumption | refine Ext.trans ?_ (by with_reducible assumption) | refine Ext.alloc ?_ _ _ | refine Ext.drew ?_ | refine Ext.drewN ?_ _))) m3 (fun i hi => by have hi2 : i = B2 := hi; rw [hi2]; exact Nat.le_trans (Ext.size (by (repeat (first | with_reducible exact Ext.refl _ | with_reducible assumption | refine Ext.trans ?_ (by with_reducible assumption) | refine Ext.alloc ?_ _ _ | refine Ext.drew ?_ | refine Ext.drewN ?_ _)))) g2)) | ((with_reducible (refine Veil.out ?_; apply wl_loadA)); (case hx => rfl); (case hB => exact b3); (case hA => exact a3); (case hs => exact hal); (case ho => decide)) | (go_at_call 303; refine (HWm _ (by (repeat (first | with_reducible exact Ext.refl _ | with_reducible assumption | refine Ext.trans ?_ (by with_reducible assumption) | refine Ext.alloc ?_ _ _ | refine Ext.drew ?_ | refine Ext.drewN ?_ _)))).mono ?_; rintro e w5 ⟨rfl, own5, c5, V5, h5, k5, hV5⟩))
  have hgB2 : w.heap.size ≤ B2 := Nat.le_trans (Ext.size (by (repeat (first | with_reducible exact Ext.refl _ | with_reducible assumption | refine Ext.trans ?_ (by with_reducible assumption) | refine Ext.alloc ?_ _ _ | refine Ext.drew ?_ | refine Ext.drewN ?_ _)))) g2
  have b5 := b3.mod k5.mod (fun q => q.1.1 (h.v.fresh _ hgB2))
  have m5 : MStep own w own5 w5 := (MStep.ext hE3).trans k5.mstep
  have hB25 : B2 < w5.heap.size := b5.lt
  clear b3 m3 b2 a2 HWm HR HA0
  have hst5 : ({ st with now := st.now.warm (addrA (f.arg 0)) } : ASt).frames = f :: rest := hst
  have HO := fun W (hW : Ext w5 W) => mOp (h5.ext hW) hst5 hph
  rw [ho] at HO
  have HV := fun W (hW : Ext w5 W) => vBalance (h5.v.ext hW) hal
  have hbv : (V5.acct (addrA (f.arg 0))).bal < P256 := h5.v.balLt _
  have ev : (V5.acct (addrA (f.arg 0))).bal = st.now.bal (addrA (f.arg 0)) := by have := h5.abs; exact congrFun (congrArg AW.bal this) (addrA (f.arg 0))
  rw [ev] at HV hbv
  have HS := mSetP h5 hst5 1 1 (st.now.bal (addrA (f.arg 0))) (by omega) (by omega) hbv (by omega)
  clear ev
  obtain ⟨x, hX9⟩ : ∃ x, Hid (st.now.bal (addrA (f.arg 0)) = x) := ⟨_, rfl⟩
  rw [hX9.out] at HV hbv HS
  go_upto_region 8 with (first | ((with_reducible (refine Veil.out ?_; apply wl_allocW)); rintro B6 W6 c6 e6 b6 a6 g6) | ((with_reducible (refine Veil.out ?_; apply wl_storeWB)); (case hx => rfl); (case hy => exact wv0.symm); (case hB => exact b6); (case hi => decide); rintro W7 c7 b7 a7 _ m7; have hE7 : Ext w5 W7 := Ext.trans_mod (by (repeat (first | with_reducible exact Ext.refl _ | with_reducible assumption | refine Ext.trans ?_ (by with_reducible assumption) | refine Ext.alloc ?_ _ _ | refine Ext.drew ?_ | refine Ext.drewN ?_ _))) m7 (fun i hi => by have hi2 : i = B6 := hi; rw [hi2]; exact g6); clear b6 a6) | (go_at_call 117; refine (HO _ (by (repeat (first | with_reducible exact Ext.refl _ | with_reducible assumption | refine Ext.trans ?_ (by with_reducible assumption) | refine Ext.alloc ?_ _ _ | refine Ext.drew ?_ | refine Ext.drewN ?_ _)))).mono ?_; rintro e w1 ⟨rfl, he⟩))
  have hgB : ¬ g = B6 := fun q => by have := h5.v.blk.lt; omega
  have hBB : ¬ B2 = B6 := fun q => by omega
  refine w_ext ?_
  rintro W0 hW0
  have h0 := h5.ext (show Ext w5 W0 by (repeat (first | with_reducible exact Ext.refl _ | with_reducible assumption | refine Ext.trans ?_ (by with_reducible assumption) | refine Ext.alloc ?_ _ _ | refine Ext.drew ?_ | refine Ext.drewN ?_ _)))
  refine wp_region_held_drew (S := fun w' => Mod (fun x => x = B6) W0 w') (by kernel_rfl) (Mod.refl _ _).drew (fun hHeld => ?_)
  have HH : Hid (Mod (fun x => x = B6) W0 _) := hHeld
  clear hHeld
  refine wpAnyH_take (i := 0) (v := ?_) rfl (by kernel_rfl) (by kernel_rfl) (by kernel_rfl) (fun _ _ _ h => h) (Or.inl ⟨by rfl, ?_⟩) HH.out ?_
  rotate_left
  · intro w hSw; go_simp; try with_reducible rfl
  change wpAnyH _ _ _ _ _ _ _ (Act.put _ (some 24) _) _
  simp only [Act.put, List.setIfInBounds_toArray, List.set_cons_zero, List.set_cons_succ]
  refine wpAnyH_take (i := 1) (v := ?_) rfl (by kernel_rfl) (by kernel_rfl) (by kernel_rfl) (fun _ _ _ h => h) (Or.inl ⟨by rfl, ?_⟩) HH.out ?_
  rotate_left
  · intro w hSw; go_simp; try with_reducible rfl
  change wpAnyH _ _ _ _ _ _ _ (Act.put _ (some 25) _) _
  simp only [Act.put, List.setIfInBounds_toArray, List.set_cons_zero, List.set_cons_succ]
  refine wpAnyH_take (i := 2) (v := ?_) rfl (by kernel_rfl) (by kernel_rfl) (by kernel_rfl) (fun _ _ _ h => h) (Or.inl ⟨by rfl, ?_⟩) HH.out ?_
  rotate_left
  · intro w hSw; go_simp; try with_reducible rfl
  change wpAnyH _ _ _ _ _ _ _ (Act.put _ (some 26) _) _
  simp only [Act.put, List.setIfInBounds_toArray, List.set_cons_zero, List.set_cons_succ]
  refine wpAnyH_take (i := 3) rfl (by kernel_rfl) (by kernel_rfl) (by kernel_rfl) (fun _ _ _ h => h) (yieldsIf_load1 (by rfl) _ _ rfl _ _ rfl onet60 _ (fun w hSw => by rw [(h0.v.blk.mod hSw hgB).cell (by decide), h0.m.ptr])) HH.out ?_
  change wpAnyH _ _ _ _ _ _ _ (Act.put _ (some 27) _) _
  simp only [Act.put, List.setIfInBounds_toArray, List.set_cons_zero, List.set_cons_succ]
  refine wpAnyH_take (i := 4) rfl (by kernel_rfl) (by kernel_rfl) (by kernel_rfl) (fun _ _ _ h => h) (yields_A (by rfl) rfl rfl (fun w hSw => (b5.ext (by (repeat (first | with_reducible exact Ext.refl _ | with_reducible assumption | refine Ext.trans ?_ (by with_reducible assumption) | refine Ext.alloc ?_ _ _ | refine Ext.drew ?_ | refine Ext.drewN ?_ _)))).mod hSw hBB) a3 hal (by decide)) HH.out ?_
  change wpAnyH _ _ _ _ _ _ _ (Act.put _ (some 28) _) _
  simp only [Act.put, List.setIfInBounds_toArray, List.set_cons_zero, List.set_cons_succ]
  refine wpAnyH_ready (rs := [5]) (by kernel_rfl) (by simp) ?_
  refine AllReadyH.cons rfl (fun K hK => ?_) AllReadyH.nil
  go_simp
  go_at_call 108; refine (HV _ (by (repeat (first | with_reducible exact Ext.refl _ | with_reducible assumption | refine Ext.trans ?_ (by with_reducible assumption) | refine Ext.alloc ?_ _ _ | refine Ext.drew ?_ | refine Ext.drewN ?_ _)))).mono ?_; rintro e w1 ⟨rfl, he⟩
  refine hK.out _ _ ?_ (fun hHeld => ?_)
  · first | exact HH.out.trans hmY | exact HH.out.trans_ext he | exact HH.out
  clear hK K HH
  have HH : Hid (Mod (fun x => x = B6) W0 _) := hHeld
  clear hHeld
  refine wpAnyH_ready (rs := [6]) (by kernel_rfl) (by simp) ?_
  refine AllReadyH.cons rfl (fun K hK => ?_) AllReadyH.nil
  refine step_any rfl (op_storeWB rfl rfl rfl (b7.ext (by (repeat (first | with_reducible exact Ext.refl _ | with_reducible assumption | refine Ext.trans ?_ (by with_reducible assumption) | refine Ext.alloc ?_ _ _ | refine Ext.drew ?_ | refine Ext.drewN ?_ _)))) (by decide) ?_)
  rintro W8 c8 b8 a8 _ m8
  refine hK.out _ _ ?_ (fun hHeld => ?_)
  · exact HH.out.trans m8
  clear hK K HH
  have HH : Hid (Mod (fun x => x = B6) W0 _) := hHeld
  clear hHeld
  change wpAnyH _ _ _ _ _ _ _ (Act.put _ none _) _
  simp only [Act.put, List.setIfInBounds_toArray, List.set_cons_zero, List.set_cons_succ]
  refine wpAnyH_done (by kernel_rfl) ?_ _
  have hE8 : Ext w5 W8 := by
    refine Ext.trans_mod (b := W0) (by (repeat (first | with_reducible exact Ext.refl _ | with_reducible assumption | refine Ext.trans ?_ (by with_reducible assumption) | refine Ext.alloc ?_ _ _ | refine Ext.drew ?_ | refine Ext.drewN ?_ _))) (show Mod (fun x => x = B6) W0 W8 by (repeat (first | with_reducible exact Mod.refl _ _ | with_reducible assumption | refine Mod.trans ?_ (by with_reducible assumption) | refine Mod.trans_ext ?_ (by with_reducible assumption) | refine Mod.alloc ?_ _ _ | refine Mod.drew ?_ | refine Mod.drewN ?_ _))) (fun i hi => ?_)
    have hi2 : i = B6 := hi
    rw [hi2]; exact g6
  go_wp2_with (first | ((with_reducible (refine Veil.out ?_; apply wl_loadWB)); (case hx => rfl); (case hB => exact b8); (case hW => exact a8); (case hi => decide)) | (go_at_call 268; refine (HS _ (by (repeat (first | with_reducible exact Ext.refl _ | with_reducible assumption | refine Ext.trans ?_ (by with_reducible assumption) | refine Ext.alloc ?_ _ _ | refine Ext.drew ?_ | refine Ext.drewN ?_ _)))).mono ?_; rintro e w9 ⟨rfl, hfin⟩))
  go_end0
  obtain ⟨c9, h9, m9⟩ := hfin
  rw [← hX9.out] at h9
  exact ⟨rfl, own5, c9, V5, h9, m5.trans m9, hV5⟩
end
end Go.Proofs.YgvahwGreat
