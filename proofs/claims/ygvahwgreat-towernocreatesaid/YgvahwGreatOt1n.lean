import Derived.Test.YgvahwGreatOk
import Derived.Test.YgvahwGreatOc
import Derived.Test.YgvahwGreatOhA
import Derived.Test.YgvahwGreatMs
namespace Go.Proofs.YgvahwGreat
open Go.RowKit
set_option linter.unusedSimpArgs false
theorem AW.markGone_self {A : AW} {a : Nat} (h : A.gone a = true) : A.markGone a = A := by
  unfold AW.markGone
  rw [← h, up_self]
theorem grew_move (V : EV) (A : AW) (a b v : Nat) : V.Grew (V.moveTo A a b v) 2 2 0 0 0 0 := by
  unfold EV.moveTo
  split
  · exact (EV.Grew.refl V).le (by omega) (by omega) (by omega) (by omega) (by omega) (by omega)
  · exact (grew_opA V _ _ _).trans (grew_opA _ _ _ _)
section
variable {own : Nat → Nat} {w : World} {g : Nat} {c : Nat → Value} {V : EV} {st : ASt} {sn stale : List Nat} {s : Nat} {f : AFrame} {rest : List AFrame}
set_option maxRecDepth 100000 in
set_option maxHeartbeats 6400000 in
theorem mDes_1n (h : MRep own w g c V st (s :: sn) stale) (hst : st.frames = f :: rest) (hph : st.phase = 1) (hr : Room V 8) (hp : ∀ p r, rest = p :: r → p.gas + f.gas ≤ 1048576 ∧ p.stack.length < 64 ∧ p.pc ≤ 50000) (heq : addrA (f.arg 0) = f.self) (hmd : (st.now.warm (addrA (f.arg 0))).made f.self = false) : Calls Hvah.prog 211 #[.pointer (some ⟨g, 0, none⟩)] w fun e w' => e = .returned (.tuple #[]) ∧ ∃ own' c' V', MRep own' w' g c' (V'.ends s f 0 []) (st.destroys f rest) sn (f.mem ++ stale) ∧ MStep own w own' w' ∧ V.Grew V' 4 4 0 0 0 0 := by
  have hdes : st.destroys f rest = ({ st with now := (st.now.warm (addrA (f.arg 0))) } : ASt).leave f rest 0 [] := by
    show ({ st with now := _ } : ASt).leave f rest 0 [] = _
    congr 2
    show (if AW.made (if addrA (f.arg 0) = f.self then (st.now.warm (addrA (f.arg 0))) else (st.now.warm (addrA (f.arg 0))).move f.self (addrA (f.arg 0)) ((st.now.warm (addrA (f.arg 0))).bal f.self)) f.self = true then _ else _) = _
    rw [if_pos heq, if_neg (by rw [hmd]; simp)]
  rw [hdes]
  clear hdes
  obtain ⟨hfr, hr7⟩ := h.frame hst
  have hx := hfr.ok.argLt 0
  have hal : addrA (f.arg 0) < 2 ^ 160 := Nat.mod_lt _ (by decide)
  have HR := fun W (hW : Ext w W) => mRun (h.ext hW) hst hph
  have HA0 := fun W (hW : Ext w W) => mArg (h.ext hW) hst 0 (by decide)
  have HWm := fun W (hW : Ext w W) => mWarm (h.ext hW) (addrA (f.arg 0)) hal hr.jp (fun _ => hr.ap)
  have E1 : ∀ W, (Op.equalIn 10000 31 (.agg (av (addrA (f.arg 0)))) (.agg (av f.self))).run Hvah.prog W = .ok true W := fun W => by rw [run_eq_av W _ _ hal hfr.ok.self, decide_eq_true heq]
  clear heq
  go_enter Hvah.func211, Hvah.ntmps211
  go_upto_region 4 with (first | (go_at_call 192; refine (HR _ (by (repeat (first | with_reducible exact Ext.refl _ | with_reducible assumption | refine Ext.trans ?_ (by with_reducible assumption) | refine Ext.alloc ?_ _ _ | refine Ext.drew ?_ | refine Ext.drewN ?_ _)))).mono ?_; rintro e w1 ⟨rfl, he⟩) | (go_at_call 273; refine (HA0 _ (by (repeat (first | with_reducible exact Ext.refl _ | with_reducible assumption | refine Ext.trans ?_ (by with_reducible assumption) | refine Ext.alloc ?_ _ _ | refine Ext.drew ?_ | refine Ext.drewN ?_ _)))).mono ?_; rintro e w1 ⟨rfl, he⟩) | (go_at_call 302; refine (mAddrOf _ hx _).mono ?_; rintro e w2 ⟨rfl, he2⟩) | ((with_reducible (refine Veil.out ?_; apply wl_allocA)); rintro B2 W2 c2 e2 b2 a2 g2) | ((with_reducible (refine Veil.out ?_; apply wl_storeA)); (case hx => rfl); (case hy => rfl); (case hv => exact hal); (case hB => exact Blk.ext b2 (by (repeat (first | with_reducible exact Ext.refl _ | with_reducible assumption | refine Ext.trans ?_ (by with_reducible assumption) | refine Ext.alloc ?_ _ _ | refine Ext.drew ?_ | refine Ext.drewN ?_ _)))); (case hi => decide); rintro W3 c3 b3 a3 _ m3; have hE3 : Ext w W3 := Ext.trans_mod (by (repeat (first | with_reducible exact Ext.refl _ | with_reducible assumption | refine Ext.trans ?_ (by with_reducible assumption) | refine Ext.alloc ?_ _ _ | refine Ext.drew ?_ | refine Ext.drewN ?_ _))) m3 (fun i hi => by have hi2 : i = B2 := hi; rw [hi2]; exact Nat.le_trans (Ext.size (by (repeat (first | with_reducible exact Ext.refl _ | with_reducible assumption | refine Ext.trans ?_ (by with_reducible assumption) | refine Ext.alloc ?_ _ _ | refine Ext.drew ?_ | refine Ext.drewN ?_ _)))) g2)) | ((with_reducible (refine Veil.out ?_; apply wl_loadA)); (case hx => rfl); (case hB => exact b3); (case hA => exact a3); (case hs => exact hal); (case ho => decide)) | (go_at_call 303; refine (HWm _ (by (repeat (first | with_reducible exact Ext.refl _ | with_reducible assumption | refine Ext.trans ?_ (by with_reducible assumption) | refine Ext.alloc ?_ _ _ | refine Ext.drew ?_ | refine Ext.drewN ?_ _)))).mono ?_; rintro e w5 ⟨rfl, own5, c5, V5, h5, k5, hV5⟩))
  have hgB2 : w.heap.size ≤ B2 := Nat.le_trans (Ext.size (by (repeat (first | with_reducible exact Ext.refl _ | with_reducible assumption | refine Ext.trans ?_ (by with_reducible assumption) | refine Ext.alloc ?_ _ _ | refine Ext.drew ?_ | refine Ext.drewN ?_ _)))) g2
  have b5 := b3.mod k5.mod (fun q => q.1.1 (h.v.fresh _ hgB2))
  have o5 : own5 B2 = 0 := (k5.keep _ b3.lt).trans (h.v.fresh _ hgB2)
  have m5 : MStep own w own5 w5 := (MStep.ext hE3).trans k5.mstep
  have gr5 : V.Grew V5 1 1 0 0 0 0 := by
    rcases hV5 with rfl | rfl
    · exact (EV.Grew.refl _).le (by omega) (by omega) (by omega) (by omega) (by omega) (by omega)
    · exact grew_opA V _ _ _
  have hr5 : Room V5 7 := hr.grew (k := 1) gr5 (by decide) (by decide) (by decide) (by decide) (by decide) (by decide)
  clear b3 m3 b2 a2 HWm HR HA0 hV5 k5 hE3
  have hst0 : ({ st with now := st.now.warm (addrA (f.arg 0)) } : ASt).frames = f :: rest := hst
  refine w_ext ?_
  rintro W0 hW0
  have h0 := h5.ext (show Ext w5 W0 by (repeat (first | with_reducible exact Ext.refl _ | with_reducible assumption | refine Ext.trans ?_ (by with_reducible assumption) | refine Ext.alloc ?_ _ _ | refine Ext.drew ?_ | refine Ext.drewN ?_ _)))
  refine wp_region_held_drew (S := fun w' => SV own5 g c5 W0 w') (by kernel_rfl) (SV.start h0.v.blk (Ext.refl _).drew) (fun hHeld => ?_)
  have HH : Hid (SV own5 g c5 W0 _) := hHeld
  clear hHeld
  refine wpAnyH_take (i := 0) (v := ?_) rfl (by kernel_rfl) (by kernel_rfl) (by kernel_rfl) (fun _ _ _ h => h) (Or.inl ⟨by rfl, ?_⟩) HH.out ?_
  rotate_left
  · intro w hSw; go_simp; try with_reducible rfl
  change wpAnyH _ _ _ _ _ _ _ (Act.put _ (some 16) _) _
  simp only [Act.put, List.setIfInBounds_toArray, List.set_cons_zero, List.set_cons_succ]
  refine wpAnyH_take (i := 1) (v := ?_) rfl (by kernel_rfl) (by kernel_rfl) (by kernel_rfl) (fun _ _ _ h => h) (Or.inl ⟨by rfl, ?_⟩) HH.out ?_
  rotate_left
  · intro w hSw; go_simp; try with_reducible rfl
  change wpAnyH _ _ _ _ _ _ _ (Act.put _ (some 17) _) _
  simp only [Act.put, List.setIfInBounds_toArray, List.set_cons_zero, List.set_cons_succ]
  refine wpAnyH_take (i := 2) rfl (by kernel_rfl) (by kernel_rfl) (by kernel_rfl) (fun _ _ _ h => h) (yields_A (by rfl) rfl rfl (fun w hSw => hSw.box (b5.ext (show Ext _ W0 from by (repeat (first | with_reducible exact Ext.refl _ | with_reducible assumption | refine Ext.trans ?_ (by with_reducible assumption) | refine Ext.alloc ?_ _ _ | refine Ext.drew ?_ | refine Ext.drewN ?_ _)))) o5) a3 hal (by decide)) HH.out ?_
  change wpAnyH _ _ _ _ _ _ _ (Act.put _ (some 18) _) _
  simp only [Act.put, List.setIfInBounds_toArray, List.set_cons_zero, List.set_cons_succ]
  refine wpAnyH_take (i := 3) (v := ?_) rfl (by kernel_rfl) (by kernel_rfl) (by kernel_rfl) (fun _ _ _ h => h) (Or.inl ⟨by rfl, ?_⟩) HH.out ?_
  rotate_left
  · intro w hSw; go_simp; try with_reducible rfl
  change wpAnyH _ _ _ _ _ _ _ (Act.put _ (some 19) _) _
  simp only [Act.put, List.setIfInBounds_toArray, List.set_cons_zero, List.set_cons_succ]
  refine wpAnyH_take (i := 4) (v := ?_) rfl (by kernel_rfl) (by kernel_rfl) (by kernel_rfl) (fun _ _ _ h => h) (Or.inl ⟨by rfl, ?_⟩) HH.out ?_
  rotate_left
  · intro w hSw; go_simp; try with_reducible rfl
  change wpAnyH _ _ _ _ _ _ _ (Act.put _ (some 20) _) _
  simp only [Act.put, List.setIfInBounds_toArray, List.set_cons_zero, List.set_cons_succ]
  refine wpAnyH_take (i := 5) (v := ?_) rfl (by kernel_rfl) (by kernel_rfl) (by kernel_rfl) (fun _ _ _ h => h) (Or.inl ⟨by rfl, ?_⟩) HH.out ?_
  rotate_left
  · intro w hSw; go_simp; try with_reducible rfl
  change wpAnyH _ _ _ _ _ _ _ (Act.put _ (some 21) _) _
  simp only [Act.put, List.setIfInBounds_toArray, List.set_cons_zero, List.set_cons_succ]
  refine wpAnyH_take (i := 6) rfl (by kernel_rfl) (by kernel_rfl) (by kernel_rfl) (fun _ _ _ h => h) (yieldsS_A (by rfl) rfl rfl (fun w hSw j hj => hSw.cell (by omega)) (h0.frame hst0).1.self hfr.ok.self) HH.out ?_
  change wpAnyH _ _ _ _ _ _ _ (Act.put _ (some 22) _) _
  simp only [Act.put, List.setIfInBounds_toArray, List.set_cons_zero, List.set_cons_succ]
  refine wpAnyH_take (i := 7) (v := ?_) rfl (by kernel_rfl) (by kernel_rfl) (by kernel_rfl) (fun _ _ _ h => h) (Or.inl ⟨by rfl, ?_⟩) HH.out ?_
  rotate_left
  · intro w hSw; go_simp; try with_reducible rfl
  change wpAnyH _ _ _ _ _ _ _ (Act.put _ (some 23) _) _
  simp only [Act.put, List.setIfInBounds_toArray, List.set_cons_zero, List.set_cons_succ]
  refine wpAnyH_take (i := 8) (v := ?_) rfl (by kernel_rfl) (by kernel_rfl) (by kernel_rfl) (fun _ _ _ h => h) (Or.inl ⟨by rfl, ?_⟩) HH.out ?_
  rotate_left
  · intro w hSw; go_simp; try with_reducible rfl
  change wpAnyH _ _ _ _ _ _ _ (Act.put _ (some 24) _) _
  simp only [Act.put, List.setIfInBounds_toArray, List.set_cons_zero, List.set_cons_succ]
  refine wpAnyH_done (by kernel_rfl) ?_ _
  clear HH
  go_upto_region 6 with (fail)
  have HMd := fun W (hW : Ext w5 W) => vIsMade (h5.v.ext hW) hfr.ok.self
  have evm : (V5.acct f.self).made = (st.now.warm (addrA (f.arg 0))).made f.self := congrFun (congrArg AW.made h5.abs) f.self
  rw [evm, hmd] at HMd
  refine w_ext ?_
  rintro W0 hW0
  have h0 := h5.ext (show Ext w5 W0 by (repeat (first | with_reducible exact Ext.refl _ | with_reducible assumption | refine Ext.trans ?_ (by with_reducible assumption) | refine Ext.alloc ?_ _ _ | refine Ext.drew ?_ | refine Ext.drewN ?_ _)))
  refine wp_region_held_drew (S := fun w' => SV own5 g c5 W0 w') (by kernel_rfl) (SV.start h0.v.blk (Ext.refl _).drew) (fun hHeld => ?_)
  have HH : Hid (SV own5 g c5 W0 _) := hHeld
  clear hHeld
  refine wpAnyH_take (i := 0) (v := ?_) rfl (by kernel_rfl) (by kernel_rfl) (by kernel_rfl) (fun _ _ _ h => h) (Or.inl ⟨by rfl, ?_⟩) HH.out ?_
  rotate_left
  · intro w hSw; go_simp; try with_reducible rfl
  change wpAnyH _ _ _ _ _ _ _ (Act.put _ (some 41) _) _
  simp only [Act.put, List.setIfInBounds_toArray, List.set_cons_zero, List.set_cons_succ]
  refine wpAnyH_take (i := 1) (v := ?_) rfl (by kernel_rfl) (by kernel_rfl) (by kernel_rfl) (fun _ _ _ h => h) (Or.inl ⟨by rfl, ?_⟩) HH.out ?_
  rotate_left
  · intro w hSw; go_simp; try with_reducible rfl
  change wpAnyH _ _ _ _ _ _ _ (Act.put _ (some 42) _) _
  simp only [Act.put, List.setIfInBounds_toArray, List.set_cons_zero, List.set_cons_succ]
  refine wpAnyH_take (i := 2) (v := ?_) rfl (by kernel_rfl) (by kernel_rfl) (by kernel_rfl) (fun _ _ _ h => h) (Or.inl ⟨by rfl, ?_⟩) HH.out ?_
  rotate_left
  · intro w hSw; go_simp; try with_reducible rfl
  change wpAnyH _ _ _ _ _ _ _ (Act.put _ (some 43) _) _
  simp only [Act.put, List.setIfInBounds_toArray, List.set_cons_zero, List.set_cons_succ]
  refine wpAnyH_take (i := 3) (v := ?_) rfl (by kernel_rfl) (by kernel_rfl) (by kernel_rfl) (fun _ _ _ h => h) (Or.inl ⟨by rfl, ?_⟩) HH.out ?_
  rotate_left
  · intro w hSw; go_simp; try with_reducible rfl
  change wpAnyH _ _ _ _ _ _ _ (Act.put _ (some 44) _) _
  simp only [Act.put, List.setIfInBounds_toArray, List.set_cons_zero, List.set_cons_succ]
  refine wpAnyH_take (i := 4) (v := ?_) rfl (by kernel_rfl) (by kernel_rfl) (by kernel_rfl) (fun _ _ _ h => h) (Or.inl ⟨by rfl, ?_⟩) HH.out ?_
  rotate_left
  · intro w hSw; go_simp; try with_reducible rfl
  change wpAnyH _ _ _ _ _ _ _ (Act.put _ (some 45) _) _
  simp only [Act.put, List.setIfInBounds_toArray, List.set_cons_zero, List.set_cons_succ]
  refine wpAnyH_take (i := 5) rfl (by kernel_rfl) (by kernel_rfl) (by kernel_rfl) (fun _ _ _ h => h) (yieldsIf_load1 (by rfl) _ _ rfl _ _ rfl onet60 _ (fun w hSw => by rw [hSw.cell (by decide), h0.m.ptr])) HH.out ?_
  change wpAnyH _ _ _ _ _ _ _ (Act.put _ (some 46) _) _
  simp only [Act.put, List.setIfInBounds_toArray, List.set_cons_zero, List.set_cons_succ]
  refine wpAnyH_take (i := 6) (v := ?_) rfl (by kernel_rfl) (by kernel_rfl) (by kernel_rfl) (fun _ _ _ h => h) (Or.inl ⟨by rfl, ?_⟩) HH.out ?_
  rotate_left
  · intro w hSw; go_simp; try with_reducible rfl
  change wpAnyH _ _ _ _ _ _ _ (Act.put _ (some 47) _) _
  simp only [Act.put, List.setIfInBounds_toArray, List.set_cons_zero, List.set_cons_succ]
  refine wpAnyH_take (i := 7) (v := ?_) rfl (by kernel_rfl) (by kernel_rfl) (by kernel_rfl) (fun _ _ _ h => h) (Or.inl ⟨by rfl, ?_⟩) HH.out ?_
  rotate_left
  · intro w hSw; go_simp; try with_reducible rfl
  change wpAnyH _ _ _ _ _ _ _ (Act.put _ (some 48) _) _
  simp only [Act.put, List.setIfInBounds_toArray, List.set_cons_zero, List.set_cons_succ]
  refine wpAnyH_take (i := 8) (v := ?_) rfl (by kernel_rfl) (by kernel_rfl) (by kernel_rfl) (fun _ _ _ h => h) (Or.inl ⟨by rfl, ?_⟩) HH.out ?_
  rotate_left
  · intro w hSw; go_simp; try with_reducible rfl
  change wpAnyH _ _ _ _ _ _ _ (Act.put _ (some 49) _) _
  simp only [Act.put, List.setIfInBounds_toArray, List.set_cons_zero, List.set_cons_succ]
  refine wpAnyH_take (i := 9) rfl (by kernel_rfl) (by kernel_rfl) (by kernel_rfl) (fun _ _ _ h => h) (yieldsS_A (by rfl) rfl rfl (fun w hSw j hj => hSw.cell (by omega)) (h0.frame hst0).1.self hfr.ok.self) HH.out ?_
  change wpAnyH _ _ _ _ _ _ _ (Act.put _ (some 50) _) _
  simp only [Act.put, List.setIfInBounds_toArray, List.set_cons_zero, List.set_cons_succ]
  refine wpAnyH_ready (rs := [10]) (by kernel_rfl) (by simp) ?_
  refine AllReadyH.cons rfl (fun K hK => ?_) AllReadyH.nil
  go_simp
  go_at_call 321; refine (HMd _ (by (repeat (first | with_reducible exact Ext.refl _ | with_reducible assumption | refine Ext.trans ?_ (by with_reducible assumption) | refine Ext.alloc ?_ _ _ | refine Ext.drew ?_ | refine Ext.drewN ?_ _)))).mono ?_; rintro e w1 ⟨rfl, he⟩
  refine hK.out _ _ ?_ (fun hHeld => ?_)
  · exact HH.out.ext he
  clear hK K HH
  have HH : Hid (SV own5 g c5 W0 _) := hHeld
  clear hHeld
  refine wpAnyH_take (i := 11) (v := ?_) rfl (by kernel_rfl) (by kernel_rfl) (by kernel_rfl) (fun _ _ _ h => h) (Or.inl ⟨by rfl, ?_⟩) HH.out ?_
  rotate_left
  · intro w hSw; go_simp; try with_reducible rfl
  change wpAnyH _ _ _ _ _ _ _ (Act.put _ (some 52) _) _
  simp only [Act.put, List.setIfInBounds_toArray, List.set_cons_zero, List.set_cons_succ]
  refine wpAnyH_take (i := 12) (v := ?_) rfl (by kernel_rfl) (by kernel_rfl) (by kernel_rfl) (fun _ _ _ h => h) (Or.inl ⟨by rfl, ?_⟩) HH.out ?_
  rotate_left
  · intro w hSw; go_simp; try with_reducible rfl
  change wpAnyH _ _ _ _ _ _ _ (Act.put _ (some 53) _) _
  simp only [Act.put, List.setIfInBounds_toArray, List.set_cons_zero, List.set_cons_succ]
  refine wpAnyH_take (i := 13) (v := undef) rfl (by kernel_rfl) (by kernel_rfl) (by kernel_rfl) (fun _ _ _ h => h) (Or.inr ⟨by rfl, rfl⟩) HH.out ?_
  change wpAnyH _ _ _ _ _ _ _ (Act.put _ (some 54) _) _
  simp only [Act.put, List.setIfInBounds_toArray, List.set_cons_zero, List.set_cons_succ]
  refine wpAnyH_take (i := 14) (v := undef) rfl (by kernel_rfl) (by kernel_rfl) (by kernel_rfl) (fun _ _ _ h => h) (Or.inr ⟨by rfl, rfl⟩) HH.out ?_
  change wpAnyH _ _ _ _ _ _ _ (Act.put _ (some 55) _) _
  simp only [Act.put, List.setIfInBounds_toArray, List.set_cons_zero, List.set_cons_succ]
  refine wpAnyH_take (i := 15) (v := undef) rfl (by kernel_rfl) (by kernel_rfl) (by kernel_rfl) (fun _ _ _ h => h) (Or.inr ⟨by rfl, rfl⟩) HH.out ?_
  change wpAnyH _ _ _ _ _ _ _ (Act.put _ (some 56) _) _
  simp only [Act.put, List.setIfInBounds_toArray, List.set_cons_zero, List.set_cons_succ]
  refine wpAnyH_take (i := 16) (v := undef) rfl (by kernel_rfl) (by kernel_rfl) (by kernel_rfl) (fun _ _ _ h => h) (Or.inr ⟨by rfl, rfl⟩) HH.out ?_
  change wpAnyH _ _ _ _ _ _ _ (Act.put _ (some 57) _) _
  simp only [Act.put, List.setIfInBounds_toArray, List.set_cons_zero, List.set_cons_succ]
  refine wpAnyH_take (i := 17) (v := undef) rfl (by kernel_rfl) (by kernel_rfl) (by kernel_rfl) (fun _ _ _ h => h) (Or.inr ⟨by rfl, rfl⟩) HH.out ?_
  change wpAnyH _ _ _ _ _ _ _ (Act.put _ (some 58) _) _
  simp only [Act.put, List.setIfInBounds_toArray, List.set_cons_zero, List.set_cons_succ]
  refine wpAnyH_take (i := 18) (v := undef) rfl (by kernel_rfl) (by kernel_rfl) (by kernel_rfl) (fun _ _ _ h => h) (Or.inr ⟨by rfl, rfl⟩) HH.out ?_
  change wpAnyH _ _ _ _ _ _ _ (Act.put _ (some 59) _) _
  simp only [Act.put, List.setIfInBounds_toArray, List.set_cons_zero, List.set_cons_succ]
  refine wpAnyH_take (i := 19) (v := undef) rfl (by kernel_rfl) (by kernel_rfl) (by kernel_rfl) (fun _ _ _ h => h) (Or.inr ⟨by rfl, rfl⟩) HH.out ?_
  change wpAnyH _ _ _ _ _ _ _ (Act.put _ (some 60) _) _
  simp only [Act.put, List.setIfInBounds_toArray, List.set_cons_zero, List.set_cons_succ]
  refine wpAnyH_take (i := 20) (v := undef) rfl (by kernel_rfl) (by kernel_rfl) (by kernel_rfl) (fun _ _ _ h => h) (Or.inr ⟨by rfl, rfl⟩) HH.out ?_
  change wpAnyH _ _ _ _ _ _ _ (Act.put _ (some 61) _) _
  simp only [Act.put, List.setIfInBounds_toArray, List.set_cons_zero, List.set_cons_succ]
  refine wpAnyH_take (i := 21) (v := undef) rfl (by kernel_rfl) (by kernel_rfl) (by kernel_rfl) (fun _ _ _ h => h) (Or.inr ⟨by rfl, rfl⟩) HH.out ?_
  change wpAnyH _ _ _ _ _ _ _ (Act.put _ (some 62) _) _
  simp only [Act.put, List.setIfInBounds_toArray, List.set_cons_zero, List.set_cons_succ]
  refine wpAnyH_take (i := 22) (v := undef) rfl (by kernel_rfl) (by kernel_rfl) (by kernel_rfl) (fun _ _ _ h => h) (Or.inr ⟨by rfl, rfl⟩) HH.out ?_
  change wpAnyH _ _ _ _ _ _ _ (Act.put _ (some 63) _) _
  simp only [Act.put, List.setIfInBounds_toArray, List.set_cons_zero, List.set_cons_succ]
  refine wpAnyH_take (i := 23) (v := ?_) rfl (by kernel_rfl) (by kernel_rfl) (by kernel_rfl) (fun _ _ _ h => h) (Or.inl ⟨by rfl, ?_⟩) HH.out ?_
  rotate_left
  · intro w hSw; go_simp; try with_reducible rfl
  change wpAnyH _ _ _ _ _ _ _ (Act.put _ (some 64) _) _
  simp only [Act.put, List.setIfInBounds_toArray, List.set_cons_zero, List.set_cons_succ]
  refine wpAnyH_done (by kernel_rfl) ?_ _
  have HE := fun W (hW : Ext w5 W) => mEnd (h5.ext hW) (hst0) hph (NL.nil (O := Mu own5)) (hr5.le (by decide) : Room _ 2) 0 (by decide) hp
  clear HH h0
  go_wp2_with (go_at_call 195; refine (HE _ (by (repeat (first | with_reducible exact Ext.refl _ | with_reducible assumption | refine Ext.trans ?_ (by with_reducible assumption) | refine Ext.alloc ?_ _ _ | refine Ext.drew ?_ | refine Ext.drewN ?_ _)))).mono ?_; rintro e w9 ⟨rfl, own9, c9, h9, m9⟩)
  go_end0
  exact ⟨rfl, own9, c9, _, h9, (m5.trans (MStep.ext (by (repeat (first | with_reducible exact Ext.refl _ | with_reducible assumption | refine Ext.trans ?_ (by with_reducible assumption) | refine Ext.alloc ?_ _ _ | refine Ext.drew ?_ | refine Ext.drewN ?_ _))))).trans m9, gr5.le (by decide) (by decide) (by decide) (by decide) (by decide) (by decide)⟩
end
end Go.Proofs.YgvahwGreat
