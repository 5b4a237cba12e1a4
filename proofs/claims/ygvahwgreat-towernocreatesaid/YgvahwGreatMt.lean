import Derived.Test.YgvahwGreatMs
namespace Go.Proofs.YgvahwGreat
open Go.RowKit
set_option linter.unusedSimpArgs false
section
variable {own : Nat → Nat} {w : World} {g : Nat} {c : Nat → Value} {V : EV} {st : ASt} {sn stale : List Nat} {s : Nat} {f : AFrame} {rest : List AFrame}
theorem VRep.codeLe {own : Nat → Nat} {w : World} {g : Nat} {c : Nat → Value} {V : EV} (h : VRep own w g c V) (a : Nat) : (V.acct a).code.length ≤ 140737488355328 := by
  unfold EV.acct
  cases e : look EAcct.addr a V.accts with
  | none => exact Nat.zero_le _
  | some x =>
    obtain ⟨hm, _⟩ := look_some e
    obtain ⟨i, hi, rfl⟩ := List.getElem_of_mem hm
    obtain ⟨b, cap, cc, _, _, _, _, _, hrow⟩ := GRow.at_ h.accts (fun q => by rw [q] at hi; cases hi)
    obtain ⟨o, cp, _, h1, h2, _⟩ := (hrow i hi).code
    exact Nat.le_trans h1 h2
set_option maxRecDepth 100000 in
set_option maxHeartbeats 6400000 in
theorem mOpAcc59 (h : MRep own w g c V st (s :: sn) stale) (hst : st.frames = f :: rest) (hph : st.phase = 1) (ho : f.opcode = 59) (hl : 1 ≤ f.stack.length) (hpc : f.pc ≤ 50000) (hJ : V.journal.length < 65536) (hroom : V.ix (addrA (f.arg 0)) = none → V.accts.length < 2560) : Calls Hvah.prog 202 #[.pointer (some ⟨g, 0, none⟩)] w fun e w' => e = .returned (.tuple #[]) ∧ ∃ own' c' V', MRep own' w' g c' V' { st with now := st.now.warm (addrA (f.arg 0)), frames := f.settle 1 [(st.now.code (addrA (f.arg 0))).length] 1 :: rest } (s :: sn) stale ∧ MStep own w own' w' ∧ (V' = V ∨ V' = V.warmA (addrA (f.arg 0))) := by
  obtain ⟨hfr, hr7⟩ := h.frame hst
  have hsl := hfr.ok.sLen
  have hx := hfr.ok.argLt 0
  have hal : addrA (f.arg 0) < 2 ^ 160 := Nat.mod_lt _ (by decide)
  have HR := fun W (hW : Ext w W) => mRun (h.ext hW) hst hph
  have HA0 := fun W (hW : Ext w W) => mArg (h.ext hW) hst 0 (by decide)
  have HWm := fun W (hW : Ext w W) => mWarm (h.ext hW) (addrA (f.arg 0)) hal hJ hroom
  go_enter Hvah.func202, Hvah.ntmps202
  go_upto_region 5 with (first | (go_at_call 192; refine (HR _ (by (repeat (first | with_reducible exact Ext.refl _ | with_reducible assumption | refine Ext.trans ?_ (by with_reducible assumption) | refine Ext.alloc ?_ _ _ | refine Ext.drew ?_ | refine Ext.drewN ?_ _)))).mono ?_; rintro e w1 ⟨rfl, he⟩) | (go_at_call 273; refine (HA0 _ (by (repeat (first | with_reducible exact Ext.refl _ | with_reducible assumption | refine Ext.trans ?_ (by with_reducible assumption) | refine Ext.alloc ?_ _ _ | refine Ext.drew ?_ | refine Ext.drewN ?_ _)))).mono ?_; rintro e w1 ⟨rfl, he⟩) | (go_at_call 302; refine (mAddrOf _ hx _).mono ?_; rintro e w2 ⟨rfl, he2⟩) | ((with_reducible (refine Veil.out ?_; apply wl_allocA)); rintro B2 W2 c2 e2 b2 a2 g2) | ((with_reducible (refine Veil.out ?_; apply wl_storeA)); (case hx => rfl); (case hy => rfl); (case hv => exact hal); (case hB => exact Blk.ext b2 (by (repeat (first | with_reducible exact Ext.refl _ | with_reducible assumption | refine Ext.trans ?_ (by with_reducible assumption) | refine Ext.alloc ?_ _ _ | refine Ext.drew ?_ | refine Ext.drewN ?_ _)))); (case hi => decide); rintro W3 c3 b3 a3 _ m3; have hE3 : Ext w W3 := Ext.trans_mod (by (repeat (first | with_reducible exact Ext.refl _ | with_reducible assumption | refine Ext.trans ?_ (by with_reducible assumption) | refine Ext.alloc ?_ _ _ | refine Ext.drew ?_ | refine Ext.drewN ?_ _))) m3 (fun i hi => by have hi2 : i = B2 := hi; rw [hi2]; exact Nat.le_trans (Ext.size (by (repeat (first | with_reducible exact Ext.refl _ | with_reducible assumption | refine Ext.trans ?_ (by with_reducible assumption) | refine Ext.alloc ?_ _ _ | refine Ext.drew ?_ | refine Ext.drewN ?_ _)))) g2)) | ((with_reducible (refine Veil.out ?_; apply wl_loadA)); (case hx => rfl); (case hB => exact b3); (case hA => exact a3); (case hs => exact hal); (case ho => decide)) | (go_at_call 303; refine (HWm _ (by (repeat (first | with_reducible exact Ext.refl _ | with_reducible assumption | refine Ext.trans ?_ (by with_reducible assumption) | refine Ext.alloc ?_ _ _ | refine Ext.drew ?_ | refine Ext.drewN ?_ _)))).mono ?_; rintro e w5 ⟨rfl, own5, c5, V5, h5, k5, hV5⟩))
  have hgB2 : w.heap.size ≤ B2 := Nat.le_trans (Ext.size (by (repeat (first | with_reducible exact Ext.refl _ | with_reducible assumption | refine Ext.trans ?_ (by with_reducible assumption) | refine Ext.alloc ?_ _ _ | refine Ext.drew ?_ | refine Ext.drewN ?_ _)))) g2
  have b5 := b3.mod k5.mod (fun q => q.1.1 (h.v.fresh _ hgB2))
  have m5 : MStep own w own5 w5 := (MStep.ext hE3).trans k5.mstep
  have hB25 : B2 < w5.heap.size := b5.lt
  clear b3 m3 b2 a2 HWm HR HA0
  have hst5 : ({ st with now := st.now.warm (addrA (f.arg 0)) } : ASt).frames = f :: rest := hst
  have HO := fun W (hW : Ext w5 W) => mOp (h5.ext hW) hst5 hph
  rw [ho] at HO
  have HV := fun W (hW : Ext w5 W) => vCode (h5.v.ext hW) hal
  have ev : (V5.acct (addrA (f.arg 0))).code = st.now.code (addrA (f.arg 0)) := by have := h5.abs; exact congrFun (congrArg AW.code this) (addrA (f.arg 0))
  rw [ev] at HV
  have hxl : (st.now.code (addrA (f.arg 0))).length < 18446744073709551616 := by
    rw [← ev]; exact Nat.lt_of_le_of_lt (h5.v.codeLe _) (by decide)
  have hlw : IntKind.u64.wrap (((st.now.code (addrA (f.arg 0))).length : Nat) : Int) = ((st.now.code (addrA (f.arg 0))).length : Nat) := by rw [IntKind.wrap_u64]; omega
  have hbv : (st.now.code (addrA (f.arg 0))).length < P256 := Nat.lt_trans hxl (by decide)
  have HS := mSetP h5 hst5 1 1 ((st.now.code (addrA (f.arg 0))).length) (by omega) (by omega) hbv (by omega)
  clear ev
  go_upto_region 10 with (first | ((with_reducible (refine Veil.out ?_; apply wl_allocW)); rintro B6 W6 c6 e6 b6 a6 g6) | ((with_reducible (refine Veil.out ?_; apply wl_storeWB)); (case hx => rfl); (case hy => exact wv0.symm); (case hB => exact b6); (case hi => decide); rintro W7 c7 b7 a7 _ m7; have hE7 : Ext w5 W7 := Ext.trans_mod (by (repeat (first | with_reducible exact Ext.refl _ | with_reducible assumption | refine Ext.trans ?_ (by with_reducible assumption) | refine Ext.alloc ?_ _ _ | refine Ext.drew ?_ | refine Ext.drewN ?_ _))) m7 (fun i hi => by have hi2 : i = B6 := hi; rw [hi2]; exact g6); clear b6 a6) | (go_at_call 117; refine (HO _ (by (repeat (first | with_reducible exact Ext.refl _ | with_reducible assumption | refine Ext.trans ?_ (by with_reducible assumption) | refine Ext.alloc ?_ _ _ | refine Ext.drew ?_ | refine Ext.drewN ?_ _)))).mono ?_; rintro e w1 ⟨rfl, he⟩))
  have hgB : ¬ g = B6 := fun q => by have := h5.v.blk.lt; omega
  have hBB : ¬ B2 = B6 := fun q => by omega
  refine w_ext ?_
  rintro W0 hW0
  have h0 := h5.ext (show Ext w5 W0 by (repeat (first | with_reducible exact Ext.refl _ | with_reducible assumption | refine Ext.trans ?_ (by with_reducible assumption) | refine Ext.alloc ?_ _ _ | refine Ext.drew ?_ | refine Ext.drewN ?_ _)))
  refine wp_region_held_drew (S := fun w' => Mod (fun x => x = B6) W0 w') (by kernel_rfl) (Mod.refl _ _).drew (fun hHeld => ?_)
  have HH : Hid (Mod (fun x => x = B6) W0 _) := hHeld
  clear hHeld
  refine wpAnyH_take (i := 0) (v := ?_) rfl (by kernel_rfl) (by kernel_rfl) (by kernel_rfl) (fun _ _ _ h => h) (Or.inl ⟨by rfl, ?_⟩) HH.out ?_
  rotate_left
  · intro w hSw; go_simp; try with_reducible rfl
  change wpAnyH _ _ _ _ _ _ _ (Act.put _ (some 32) _) _
  simp only [Act.put, List.setIfInBounds_toArray, List.set_cons_zero, List.set_cons_succ]
  refine wpAnyH_take (i := 1) (v := ?_) rfl (by kernel_rfl) (by kernel_rfl) (by kernel_rfl) (fun _ _ _ h => h) (Or.inl ⟨by rfl, ?_⟩) HH.out ?_
  rotate_left
  · intro w hSw; go_simp; try with_reducible rfl
  change wpAnyH _ _ _ _ _ _ _ (Act.put _ (some 33) _) _
  simp only [Act.put, List.setIfInBounds_toArray, List.set_cons_zero, List.set_cons_succ]
  refine wpAnyH_take (i := 2) (v := ?_) rfl (by kernel_rfl) (by kernel_rfl) (by kernel_rfl) (fun _ _ _ h => h) (Or.inl ⟨by rfl, ?_⟩) HH.out ?_
  rotate_left
  · intro w hSw; go_simp; try with_reducible rfl
  change wpAnyH _ _ _ _ _ _ _ (Act.put _ (some 34) _) _
  simp only [Act.put, List.setIfInBounds_toArray, List.set_cons_zero, List.set_cons_succ]
  refine wpAnyH_take (i := 3) rfl (by kernel_rfl) (by kernel_rfl) (by kernel_rfl) (fun _ _ _ h => h) (yieldsIf_load1 (by rfl) _ _ rfl _ _ rfl onet60 _ (fun w hSw => by rw [(h0.v.blk.mod hSw hgB).cell (by decide), h0.m.ptr])) HH.out ?_
  change wpAnyH _ _ _ _ _ _ _ (Act.put _ (some 35) _) _
  simp only [Act.put, List.setIfInBounds_toArray, List.set_cons_zero, List.set_cons_succ]
  refine wpAnyH_take (i := 4) rfl (by kernel_rfl) (by kernel_rfl) (by kernel_rfl) (fun _ _ _ h => h) (yields_A (by rfl) rfl rfl (fun w hSw => (b5.ext (by (repeat (first | with_reducible exact Ext.refl _ | with_reducible assumption | refine Ext.trans ?_ (by with_reducible assumption) | refine Ext.alloc ?_ _ _ | refine Ext.drew ?_ | refine Ext.drewN ?_ _)))).mod hSw hBB) a3 hal (by decide)) HH.out ?_
  change wpAnyH _ _ _ _ _ _ _ (Act.put _ (some 36) _) _
  simp only [Act.put, List.setIfInBounds_toArray, List.set_cons_zero, List.set_cons_succ]
  refine wpAnyH_ready (rs := [5]) (by kernel_rfl) (by simp) ?_
  refine AllReadyH.cons rfl (fun K hK => ?_) AllReadyH.nil
  go_simp
  go_at_call 112; refine (HV _ (by (repeat (first | with_reducible exact Ext.refl _ | with_reducible assumption | refine Ext.trans ?_ (by with_reducible assumption) | refine Ext.alloc ?_ _ _ | refine Ext.drew ?_ | refine Ext.drewN ?_ _)))).mono ?_; rintro e w1 ⟨r, rfl, hr, he⟩; obtain ⟨ro, rc, rfl, hr1, hr2, hr3⟩ := hr
  refine hK.out _ _ ?_ (fun hHeld => ?_)
  · first | exact HH.out.trans hmY | exact HH.out.trans_ext he | exact HH.out
  clear hK K HH
  have HH : Hid (Mod (fun x => x = B6) W0 _) := hHeld
  clear hHeld
  refine wpAnyH_take (i := 6) (v := ?_) rfl (by kernel_rfl) (by kernel_rfl) (by kernel_rfl) (fun _ _ _ h => h) (Or.inl ⟨by rfl, ?_⟩) HH.out ?_
  rotate_left
  · intro w hSw; go_simp; try with_reducible rfl
  change wpAnyH _ _ _ _ _ _ _ (Act.put _ (some 38) _) _
  simp only [Act.put, List.setIfInBounds_toArray, List.set_cons_zero, List.set_cons_succ]
  refine wpAnyH_take (i := 7) (v := ?_) rfl (by kernel_rfl) (by kernel_rfl) (by kernel_rfl) (fun _ _ _ h => h) (Or.inl ⟨by rfl, ?_⟩) HH.out ?_
  rotate_left
  · intro w hSw; go_simp; try with_reducible rfl
  change wpAnyH _ _ _ _ _ _ _ (Act.put _ (some 39) _) _
  simp only [Act.put, List.setIfInBounds_toArray, List.set_cons_zero, List.set_cons_succ]
  refine wpAnyH_take (i := 8) (v := ?_) rfl (by kernel_rfl) (by kernel_rfl) (by kernel_rfl) (fun _ _ _ h => h) (Or.inl ⟨by rfl, ?_⟩) HH.out ?_
  rotate_left
  · intro w hSw; go_simp; try with_reducible rfl
  change wpAnyH _ _ _ _ _ _ _ (Act.put _ (some 40) _) _
  simp only [Act.put, List.setIfInBounds_toArray, List.set_cons_zero, List.set_cons_succ]
  refine wpAnyH_ready (rs := [9]) (by kernel_rfl) (by simp) ?_
  refine AllReadyH.cons rfl (fun K hK => ?_) AllReadyH.nil
  refine step_any rfl (op_store1 rfl onel26 rfl rfl rfl (b7.ext (by (repeat (first | with_reducible exact Ext.refl _ | with_reducible assumption | refine Ext.trans ?_ (by with_reducible assumption) | refine Ext.alloc ?_ _ _ | refine Ext.drew ?_ | refine Ext.drewN ?_ _)))) (by decide) ?_)
  rintro W8 b8 m8
  have a8 := wat_limb a7 hxl
  refine hK.out _ _ ?_ (fun hHeld => ?_)
  · exact HH.out.trans m8
  clear hK K HH
  have HH : Hid (Mod (fun x => x = B6) W0 _) := hHeld
  clear hHeld
  change wpAnyH _ _ _ _ _ _ _ (Act.put _ none _) _
  simp only [Act.put, List.setIfInBounds_toArray, List.set_cons_zero, List.set_cons_succ]
  refine wpAnyH_done (by kernel_rfl) ?_ _
  have hE8 : Ext w5 W8 := by
    refine Ext.trans_mod (b := W0) (by (repeat (first | with_reducible exact Ext.refl _ | with_reducible assumption | refine Ext.trans ?_ (by with_reducible assumption) | refine Ext.alloc ?_ _ _ | refine Ext.drew ?_ | refine Ext.drewN ?_ _))) (show Mod (fun x => x = B6) W0 W8 by (repeat (first | with_reducible exact Mod.refl _ _ | with_reducible assumption | refine Mod.trans ?_ (by with_reducible assumption) | refine Mod.trans_ext ?_ (by with_reducible assumption) | refine Mod.alloc ?_ _ _ | refine Mod.drew ?_ | refine Mod.drewN ?_ _))) (fun i hi => ?_)
    have hi2 : i = B6 := hi
    rw [hi2]; exact g6
  go_wp2_with (first | ((with_reducible (refine Veil.out ?_; apply wl_loadWB)); (case hx => rfl); (case hB => exact b8); (case hW => exact a8); (case hi => decide)) | (go_at_call 268; refine (HS _ (by (repeat (first | with_reducible exact Ext.refl _ | with_reducible assumption | refine Ext.trans ?_ (by with_reducible assumption) | refine Ext.alloc ?_ _ _ | refine Ext.drew ?_ | refine Ext.drewN ?_ _)))).mono ?_; rintro e w9 ⟨rfl, hfin⟩))
  go_end0
  obtain ⟨c9, h9, m9⟩ := hfin
  exact ⟨rfl, own5, c9, V5, h9, m5.trans m9, hV5⟩
end
end Go.Proofs.YgvahwGreat
