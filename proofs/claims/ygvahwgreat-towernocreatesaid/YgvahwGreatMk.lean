import Derived.Test.YgvahwGreatMi
namespace Go.Proofs.YgvahwGreat
open Go.RowKit
set_option linter.unusedSimpArgs false
section
variable {own own' : Nat → Nat} {w w' : World} {g : Nat} {c c' : Nat → Value} {V X : EV} {st : ASt} {sn stale : List Nat} {s : Nat} {f : AFrame} {rest : List AFrame}
theorem MC.now (h : MC own w g c st sn stale) (A : AW) : MC own w g c { st with now := A } sn stale :=
  ⟨h.ptr, h.mem, h.frs, h.top, h.ret, h.env, h.origin, h.oLt, h.price, h.pLt, h.phase, h.hLt, h.status, h.sLt, h.applied, h.aLt, h.limit, h.lLt, h.made, h.mLt, h.left, h.fLt⟩
/-- The vault has gone one step. -/
theorem MRep.op (h : MRep own w g c V st sn stale) (hv : VRep own' w' g c' X) (k : VStep own w c own' w' c') {A : AW} {e : JE} (ho : V.Op X A e) : MRep own' w' g c' X { st with now := A } sn stale where
  v := hv
  m := (h.m.step k).now A
  abs := ho.abs
  jok := JOK_op ho h.jok
  orig := fun a k => (ho.og a k).trans (h.orig a k)
  snl := by rw [ho.mks]; exact h.snl
  snr := h.snr
  saved := fun i hi => (savedAt_op ho h.v.wf h.jok _).trans (h.saved i hi)
  built := (k.far _ (Or.inr (by omega))).trans h.built
/-- What stands while the vault's functions run. -/
def KS (own : Nat → Nat) (g : Nat) (W0 w' : World) : Prop := Mod (fun b => (own b ≠ 0 ∧ own b ≠ 9) ∧ own b ≠ 7) W0 w' ∧ w'.cell? ⟨g, 0, none⟩ = W0.cell? ⟨g, 0, none⟩
theorem KS.ext {W0 : World} (h : KS own g W0 w) (hg : g < w.heap.size) (e : Ext w w') : KS own g W0 w' := ⟨h.1.trans_ext e, (e.cell (p := ⟨g, 0, none⟩) hg).trans h.2⟩
end
section
variable {own : Nat → Nat} {w : World} {g : Nat} {c : Nat → Value} {V : EV} {st : ASt} {sn stale : List Nat} {s : Nat} {f : AFrame} {rest : List AFrame}
set_option maxRecDepth 100000 in
set_option maxHeartbeats 6400000 in
theorem mWarm_t (h : MRep own w g c V st sn stale) (a : Nat) (ha : a < 2 ^ 160) (hwm : st.now.warmA a = true) : Calls Hvah.prog 303 #[.pointer (some ⟨g, 0, none⟩), .agg (av a)] w fun e w' => e = .returned (.bool true) ∧ Ext w w' := by
  have hw2 : (V.acct a).warm = true := by have := hwm; rw [← h.abs] at this; exact this
  have HW := fun W (hW : Ext w W) => vIsWarm (h.v.ext hW) ha
  rw [hw2] at HW
  go_enter Hvah.func303, Hvah.ntmps303
  go_upto_region 1 with (first | ((with_reducible (refine Veil.out ?_; apply wl_boxA)); (case hx => rfl); (case hn => with_reducible assumption); rintro B1 W1 c1 e1 b1 a1 g1))
  refine w_ext ?_
  rintro W0 hW0
  have h0 := h.ext (show Ext w W0 by (repeat (first | with_reducible exact Ext.refl _ | with_reducible assumption | refine Ext.trans ?_ (by with_reducible assumption) | refine Ext.alloc ?_ _ _ | refine Ext.drew ?_ | refine Ext.drewN ?_ _)))
  refine wp_region_held_drew (S := fun w' => Ext W0 w') (by kernel_rfl) (Ext.refl _).drew (fun hHeld => ?_)
  have HH : Hid (Ext W0 _) := hHeld
  clear hHeld
  refine wpAnyH_take (i := 0) (v := ?_) rfl (by kernel_rfl) (by kernel_rfl) (by kernel_rfl) (fun _ _ _ h => h) (Or.inl ⟨by rfl, ?_⟩) HH.out ?_
  rotate_left
  · intro w hSw; go_simp; try with_reducible rfl
  change wpAnyH _ _ _ _ _ _ _ (Act.put _ (some 5) _) _
  simp only [Act.put, List.setIfInBounds_toArray, List.set_cons_zero, List.set_cons_succ]
  refine wpAnyH_take (i := 1) (v := ?_) rfl (by kernel_rfl) (by kernel_rfl) (by kernel_rfl) (fun _ _ _ h => h) (Or.inl ⟨by rfl, ?_⟩) HH.out ?_
  rotate_left
  · intro w hSw; go_simp; try with_reducible rfl
  change wpAnyH _ _ _ _ _ _ _ (Act.put _ (some 6) _) _
  simp only [Act.put, List.setIfInBounds_toArray, List.set_cons_zero, List.set_cons_succ]
  refine wpAnyH_take (i := 2) (v := ?_) rfl (by kernel_rfl) (by kernel_rfl) (by kernel_rfl) (fun _ _ _ h => h) (Or.inl ⟨by rfl, ?_⟩) HH.out ?_
  rotate_left
  · intro w hSw; go_simp; try with_reducible rfl
  change wpAnyH _ _ _ _ _ _ _ (Act.put _ (some 7) _) _
  simp only [Act.put, List.setIfInBounds_toArray, List.set_cons_zero, List.set_cons_succ]
  refine wpAnyH_take (i := 3) rfl (by kernel_rfl) (by kernel_rfl) (by kernel_rfl) (fun _ _ _ h => h) (yieldsIf_load1 (by rfl) _ _ rfl _ _ rfl onet60 _ (fun w hSw => by rw [(h0.v.blk.ext hSw).cell (by decide), h0.m.ptr])) HH.out ?_
  change wpAnyH _ _ _ _ _ _ _ (Act.put _ (some 8) _) _
  simp only [Act.put, List.setIfInBounds_toArray, List.set_cons_zero, List.set_cons_succ]
  refine wpAnyH_take (i := 4) rfl (by kernel_rfl) (by kernel_rfl) (by kernel_rfl) (fun _ _ _ h => h) (yields_A (by rfl) rfl rfl (fun w hSw => Blk.ext (by with_reducible assumption) (Ext.trans (by (repeat (first | with_reducible exact Ext.refl _ | with_reducible assumption | refine Ext.trans ?_ (by with_reducible assumption) | refine Ext.alloc ?_ _ _ | refine Ext.drew ?_ | refine Ext.drewN ?_ _))) hSw)) (by with_reducible assumption) (by with_reducible assumption) (by decide)) HH.out ?_
  change wpAnyH _ _ _ _ _ _ _ (Act.put _ (some 9) _) _
  simp only [Act.put, List.setIfInBounds_toArray, List.set_cons_zero, List.set_cons_succ]
  refine wpAnyH_ready (rs := [5]) (by kernel_rfl) (by simp) ?_
  refine AllReadyH.cons rfl (fun K hK => ?_) AllReadyH.nil
  go_simp
  go_at_call 181; refine (HW _ (by (repeat (first | with_reducible exact Ext.refl _ | with_reducible assumption | refine Ext.trans ?_ (by with_reducible assumption) | refine Ext.alloc ?_ _ _ | refine Ext.drew ?_ | refine Ext.drewN ?_ _)))).mono ?_; rintro e w1 ⟨rfl, he⟩
  refine hK.out _ _ ?_ (fun hHeld => ?_)
  · first | exact HH.out.trans hmY | exact HH.out.trans he | exact HH.out
  clear hK K HH
  have HH : Hid (Ext W0 _) := hHeld
  clear hHeld
  refine wpAnyH_take (i := 6) (v := ?_) rfl (by kernel_rfl) (by kernel_rfl) (by kernel_rfl) (fun _ _ _ h => h) (Or.inl ⟨by rfl, ?_⟩) HH.out ?_
  rotate_left
  · intro w hSw; go_simp; try with_reducible rfl
  change wpAnyH _ _ _ _ _ _ _ (Act.put _ (some 11) _) _
  simp only [Act.put, List.setIfInBounds_toArray, List.set_cons_zero, List.set_cons_succ]
  refine wpAnyH_take (i := 7) (v := undef) rfl (by kernel_rfl) (by kernel_rfl) (by kernel_rfl) (fun _ _ _ h => h) (Or.inr ⟨by rfl, rfl⟩) HH.out ?_
  change wpAnyH _ _ _ _ _ _ _ (Act.put _ (some 12) _) _
  simp only [Act.put, List.setIfInBounds_toArray, List.set_cons_zero, List.set_cons_succ]
  refine wpAnyH_take (i := 8) (v := undef) rfl (by kernel_rfl) (by kernel_rfl) (by kernel_rfl) (fun _ _ _ h => h) (Or.inr ⟨by rfl, rfl⟩) HH.out ?_
  change wpAnyH _ _ _ _ _ _ _ (Act.put _ (some 13) _) _
  simp only [Act.put, List.setIfInBounds_toArray, List.set_cons_zero, List.set_cons_succ]
  refine wpAnyH_take (i := 9) (v := undef) rfl (by kernel_rfl) (by kernel_rfl) (by kernel_rfl) (fun _ _ _ h => h) (Or.inr ⟨by rfl, rfl⟩) HH.out ?_
  change wpAnyH _ _ _ _ _ _ _ (Act.put _ (some 14) _) _
  simp only [Act.put, List.setIfInBounds_toArray, List.set_cons_zero, List.set_cons_succ]
  refine wpAnyH_take (i := 10) (v := undef) rfl (by kernel_rfl) (by kernel_rfl) (by kernel_rfl) (fun _ _ _ h => h) (Or.inr ⟨by rfl, rfl⟩) HH.out ?_
  change wpAnyH _ _ _ _ _ _ _ (Act.put _ (some 15) _) _
  simp only [Act.put, List.setIfInBounds_toArray, List.set_cons_zero, List.set_cons_succ]
  refine wpAnyH_take (i := 11) (v := undef) rfl (by kernel_rfl) (by kernel_rfl) (by kernel_rfl) (fun _ _ _ h => h) (Or.inr ⟨by rfl, rfl⟩) HH.out ?_
  change wpAnyH _ _ _ _ _ _ _ (Act.put _ (some 16) _) _
  simp only [Act.put, List.setIfInBounds_toArray, List.set_cons_zero, List.set_cons_succ]
  refine wpAnyH_take (i := 12) (v := undef) rfl (by kernel_rfl) (by kernel_rfl) (by kernel_rfl) (fun _ _ _ h => h) (Or.inr ⟨by rfl, rfl⟩) HH.out ?_
  change wpAnyH _ _ _ _ _ _ _ (Act.put _ (some 17) _) _
  simp only [Act.put, List.setIfInBounds_toArray, List.set_cons_zero, List.set_cons_succ]
  refine wpAnyH_take (i := 13) (v := ?_) rfl (by kernel_rfl) (by kernel_rfl) (by kernel_rfl) (fun _ _ _ h => h) (Or.inl ⟨by rfl, ?_⟩) HH.out ?_
  rotate_left
  · intro w hSw; go_simp; try with_reducible rfl
  change wpAnyH _ _ _ _ _ _ _ (Act.put _ (some 18) _) _
  simp only [Act.put, List.setIfInBounds_toArray, List.set_cons_zero, List.set_cons_succ]
  refine wpAnyH_take (i := 14) (v := ?_) rfl (by kernel_rfl) (by kernel_rfl) (by kernel_rfl) (fun _ _ _ h => h) (Or.inl ⟨by rfl, ?_⟩) HH.out ?_
  rotate_left
  · intro w hSw; go_simp; try with_reducible rfl
  change wpAnyH _ _ _ _ _ _ _ (Act.put _ (some 4) _) _
  simp only [Act.put, List.setIfInBounds_toArray, List.set_cons_zero, List.set_cons_succ]
  refine wpAnyH_done (by kernel_rfl) ?_ _
  go_wp2
  go_ret
  exact ⟨rfl, by (repeat (first | with_reducible exact Ext.refl _ | with_reducible assumption | refine Ext.trans ?_ (by with_reducible assumption) | refine Ext.alloc ?_ _ _ | refine Ext.drew ?_ | refine Ext.drewN ?_ _))⟩
set_option maxRecDepth 100000 in
set_option maxHeartbeats 6400000 in
theorem mWarm_f (h : MRep own w g c V st sn stale) (a : Nat) (ha : a < 2 ^ 160) (hwm : st.now.warmA a = false) (hJ : V.journal.length < 65536) (hroom : V.ix a = none → V.accts.length < 2560) : Calls Hvah.prog 303 #[.pointer (some ⟨g, 0, none⟩), .agg (av a)] w fun e w' => e = .returned (.bool true) ∧ ∃ own' c', MRep own' w' g c' (V.warmA a) { st with now := st.now.warm a } sn stale ∧ VStep own w c own' w' c' := by
  have hw2 : (V.acct a).warm = false := by have := hwm; rw [← h.abs] at this; exact this
  have HW := fun W (hW : Ext w W) => vIsWarm (h.v.ext hW) ha
  rw [hw2] at HW
  go_enter Hvah.func303, Hvah.ntmps303
  go_upto_region 1 with (first | ((with_reducible (refine Veil.out ?_; apply wl_boxA)); (case hx => rfl); (case hn => with_reducible assumption); rintro B1 W1 c1 e1 b1 a1 g1))
  refine w_ext ?_
  rintro W0 hW0
  have h0 := h.ext (show Ext w W0 by (repeat (first | with_reducible exact Ext.refl _ | with_reducible assumption | refine Ext.trans ?_ (by with_reducible assumption) | refine Ext.alloc ?_ _ _ | refine Ext.drew ?_ | refine Ext.drewN ?_ _)))
  refine wp_region_held_drew (S := fun w' => KS own g W0 w') (by kernel_rfl) ⟨(Mod.refl _ _).drew, rfl⟩ (fun hHeld => ?_)
  have HH : Hid (KS own g W0 _) := hHeld
  clear hHeld
  refine wpAnyH_take (i := 0) (v := ?_) rfl (by kernel_rfl) (by kernel_rfl) (by kernel_rfl) (fun _ _ _ h => h) (Or.inl ⟨by rfl, ?_⟩) HH.out ?_
  rotate_left
  · intro w hSw; go_simp; try with_reducible rfl
  change wpAnyH _ _ _ _ _ _ _ (Act.put _ (some 5) _) _
  simp only [Act.put, List.setIfInBounds_toArray, List.set_cons_zero, List.set_cons_succ]
  refine wpAnyH_take (i := 1) (v := ?_) rfl (by kernel_rfl) (by kernel_rfl) (by kernel_rfl) (fun _ _ _ h => h) (Or.inl ⟨by rfl, ?_⟩) HH.out ?_
  rotate_left
  · intro w hSw; go_simp; try with_reducible rfl
  change wpAnyH _ _ _ _ _ _ _ (Act.put _ (some 6) _) _
  simp only [Act.put, List.setIfInBounds_toArray, List.set_cons_zero, List.set_cons_succ]
  refine wpAnyH_take (i := 2) (v := ?_) rfl (by kernel_rfl) (by kernel_rfl) (by kernel_rfl) (fun _ _ _ h => h) (Or.inl ⟨by rfl, ?_⟩) HH.out ?_
  rotate_left
  · intro w hSw; go_simp; try with_reducible rfl
  change wpAnyH _ _ _ _ _ _ _ (Act.put _ (some 7) _) _
  simp only [Act.put, List.setIfInBounds_toArray, List.set_cons_zero, List.set_cons_succ]
  refine wpAnyH_take (i := 3) rfl (by kernel_rfl) (by kernel_rfl) (by kernel_rfl) (fun _ _ _ h => h) (yieldsIf_load1 (by rfl) _ _ rfl _ _ rfl onet60 _ (fun w hSw => by rw [hSw.2, h0.v.blk.cell (by decide), h0.m.ptr])) HH.out ?_
  change wpAnyH _ _ _ _ _ _ _ (Act.put _ (some 8) _) _
  simp only [Act.put, List.setIfInBounds_toArray, List.set_cons_zero, List.set_cons_succ]
  refine wpAnyH_take (i := 4) rfl (by kernel_rfl) (by kernel_rfl) (by kernel_rfl) (fun _ _ _ h => h) (yields_A (by rfl) rfl rfl (fun w hSw => Blk.mod (b1.ext hW0) hSw.1 (fun q => q.1.1 (h.v.fresh _ g1))) (by with_reducible assumption) (by with_reducible assumption) (by decide)) HH.out ?_
  change wpAnyH _ _ _ _ _ _ _ (Act.put _ (some 9) _) _
  simp only [Act.put, List.setIfInBounds_toArray, List.set_cons_zero, List.set_cons_succ]
  refine wpAnyH_ready (rs := [5]) (by kernel_rfl) (by simp) ?_
  refine AllReadyH.cons rfl (fun K hK => ?_) AllReadyH.nil
  go_simp
  go_at_call 181; refine (HW _ (by (repeat (first | with_reducible exact Ext.refl _ | with_reducible assumption | refine Ext.trans ?_ (by with_reducible assumption) | refine Ext.alloc ?_ _ _ | refine Ext.drew ?_ | refine Ext.drewN ?_ _)))).mono ?_; rintro e w1 ⟨rfl, he⟩
  refine hK.out _ _ ?_ (fun hHeld => ?_)
  · first | exact HH.out.ext (Nat.lt_of_lt_of_le h0.v.blk.lt (Nat.le_refl _)) he | exact HH.out.ext (Nat.lt_of_lt_of_le h0.v.blk.lt (Ext.size (by (repeat (first | with_reducible exact Ext.refl _ | with_reducible assumption | refine Ext.trans ?_ (by with_reducible assumption) | refine Ext.alloc ?_ _ _ | refine Ext.drew ?_ | refine Ext.drewN ?_ _))))) he | exact hks
  clear hK K HH
  have HH : Hid (KS own g W0 _) := hHeld
  clear hHeld
  refine wpAnyH_take (i := 6) (v := ?_) rfl (by kernel_rfl) (by kernel_rfl) (by kernel_rfl) (fun _ _ _ h => h) (Or.inl ⟨by rfl, ?_⟩) HH.out ?_
  rotate_left
  · intro w hSw; go_simp; try with_reducible rfl
  change wpAnyH _ _ _ _ _ _ _ (Act.put _ (some 11) _) _
  simp only [Act.put, List.setIfInBounds_toArray, List.set_cons_zero, List.set_cons_succ]
  refine wpAnyH_take (i := 7) (v := ?_) rfl (by kernel_rfl) (by kernel_rfl) (by kernel_rfl) (fun _ _ _ h => h) (Or.inl ⟨by rfl, ?_⟩) HH.out ?_
  rotate_left
  · intro w hSw; go_simp; try with_reducible rfl
  change wpAnyH _ _ _ _ _ _ _ (Act.put _ (some 12) _) _
  simp only [Act.put, List.setIfInBounds_toArray, List.set_cons_zero, List.set_cons_succ]
  refine wpAnyH_take (i := 8) (v := ?_) rfl (by kernel_rfl) (by kernel_rfl) (by kernel_rfl) (fun _ _ _ h => h) (Or.inl ⟨by rfl, ?_⟩) HH.out ?_
  rotate_left
  · intro w hSw; go_simp; try with_reducible rfl
  change wpAnyH _ _ _ _ _ _ _ (Act.put _ (some 13) _) _
  simp only [Act.put, List.setIfInBounds_toArray, List.set_cons_zero, List.set_cons_succ]
  refine wpAnyH_take (i := 9) (v := ?_) rfl (by kernel_rfl) (by kernel_rfl) (by kernel_rfl) (fun _ _ _ h => h) (Or.inl ⟨by rfl, ?_⟩) HH.out ?_
  rotate_left
  · intro w hSw; go_simp; try with_reducible rfl
  change wpAnyH _ _ _ _ _ _ _ (Act.put _ (some 14) _) _
  simp only [Act.put, List.setIfInBounds_toArray, List.set_cons_zero, List.set_cons_succ]
  refine wpAnyH_take (i := 10) rfl (by kernel_rfl) (by kernel_rfl) (by kernel_rfl) (fun _ _ _ h => h) (yieldsIf_load1 (by rfl) _ _ rfl _ _ rfl onet60 _ (fun w hSw => by rw [hSw.2, h0.v.blk.cell (by decide), h0.m.ptr])) HH.out ?_
  change wpAnyH _ _ _ _ _ _ _ (Act.put _ (some 15) _) _
  simp only [Act.put, List.setIfInBounds_toArray, List.set_cons_zero, List.set_cons_succ]
  refine wpAnyH_take (i := 11) rfl (by kernel_rfl) (by kernel_rfl) (by kernel_rfl) (fun _ _ _ h => h) (yields_A (by rfl) rfl rfl (fun w hSw => Blk.mod (b1.ext hW0) hSw.1 (fun q => q.1.1 (h.v.fresh _ g1))) (by with_reducible assumption) (by with_reducible assumption) (by decide)) HH.out ?_
  change wpAnyH _ _ _ _ _ _ _ (Act.put _ (some 16) _) _
  simp only [Act.put, List.setIfInBounds_toArray, List.set_cons_zero, List.set_cons_succ]
  refine wpAnyH_ready (rs := [12]) (by kernel_rfl) (by simp) ?_
  refine AllReadyH.cons rfl (fun K hK => ?_) AllReadyH.nil
  go_simp
  go_at_call 182; refine (vWarmAcct (h0.v.ext (by (repeat (first | with_reducible exact Ext.refl _ | with_reducible assumption | refine Ext.trans ?_ (by with_reducible assumption) | refine Ext.alloc ?_ _ _ | refine Ext.drew ?_ | refine Ext.drewN ?_ _)))) ha hJ hroom).mono ?_; rintro e w2 ⟨rfl, own2, c2, hv2, k2⟩; have hks : KS own g W0 w2 := ⟨(Ext.mod (show Ext W0 _ by (repeat (first | with_reducible exact Ext.refl _ | with_reducible assumption | refine Ext.trans ?_ (by with_reducible assumption) | refine Ext.alloc ?_ _ _ | refine Ext.drew ?_ | refine Ext.drewN ?_ _))) _).trans k2.mod, by rw [hv2.blk.cell (by decide), k2.far 0 (Or.inl (by decide)), h0.v.blk.cell (by decide)]⟩
  refine hK.out _ _ ?_ (fun hHeld => ?_)
  · first | exact HH.out.ext (Nat.lt_of_lt_of_le h0.v.blk.lt (Nat.le_refl _)) he | exact HH.out.ext (Nat.lt_of_lt_of_le h0.v.blk.lt (Ext.size (by (repeat (first | with_reducible exact Ext.refl _ | with_reducible assumption | refine Ext.trans ?_ (by with_reducible assumption) | refine Ext.alloc ?_ _ _ | refine Ext.drew ?_ | refine Ext.drewN ?_ _))))) he | exact hks
  clear hK K HH
  have HH : Hid (KS own g W0 _) := hHeld
  clear hHeld
  refine wpAnyH_take (i := 13) (v := ?_) rfl (by kernel_rfl) (by kernel_rfl) (by kernel_rfl) (fun _ _ _ h => h) (Or.inl ⟨by rfl, ?_⟩) HH.out ?_
  rotate_left
  · intro w hSw; go_simp; try with_reducible rfl
  change wpAnyH _ _ _ _ _ _ _ (Act.put _ (some 18) _) _
  simp only [Act.put, List.setIfInBounds_toArray, List.set_cons_zero, List.set_cons_succ]
  refine wpAnyH_take (i := 14) (v := ?_) rfl (by kernel_rfl) (by kernel_rfl) (by kernel_rfl) (fun _ _ _ h => h) (Or.inl ⟨by rfl, ?_⟩) HH.out ?_
  rotate_left
  · intro w hSw; go_simp; try with_reducible rfl
  change wpAnyH _ _ _ _ _ _ _ (Act.put _ (some 4) _) _
  simp only [Act.put, List.setIfInBounds_toArray, List.set_cons_zero, List.set_cons_succ]
  refine wpAnyH_done (by kernel_rfl) ?_ _
  have hop := warmA_op h.v.wf a
  rw [h.abs] at hop
  go_wp2
  go_ret
  have e0 : VStep own w c own w1 c := ⟨fun _ _ => rfl, fun _ _ => rfl, Ext.mod (by (repeat (first | with_reducible exact Ext.refl _ | with_reducible assumption | refine Ext.trans ?_ (by with_reducible assumption) | refine Ext.alloc ?_ _ _ | refine Ext.drew ?_ | refine Ext.drewN ?_ _))) _⟩
  exact ⟨rfl, own2, c2, h.op hv2 (e0.trans k2) hop, e0.trans k2⟩
end
end Go.Proofs.YgvahwGreat
