import Derived.Test.YgvahwGreatYF
namespace Go.Proofs.YgvahwGreat
open Go.RowKit
set_option linter.unusedSimpArgs false
section
variable {kk : Nat → Value} {O TM TL : Nat → Prop} {w : World} {Y F q n : Nat} {tF : TypeId} {c d : Nat → Value} {W : YW} {start : List (Nat × Nat × Nat)} {st : ASt} {f : AFrame}
set_option maxRecDepth 100000 in
set_option maxHeartbeats 6400000 in
theorem xAnswer (hX : YX kk O TM TL w Y F q n tF c d W start st f) (k x : Nat) (hk : k ≤ f.stack.length) {va : Value} (hva : NV O w va x) (hok' : FOK (f.settle k [x] 1)) : Calls Hvah.prog 152 #[.pointer (some ⟨F, q, none⟩), .int .i64 k, va] w fun e w' => ∃ d', e = .returned (.tuple #[]) ∧ YX kk O TM TL w' Y F q n tF c d' W start st (f.settle k [x] 1) ∧ Mod (· = F) w w' ∧ (∀ i, i ≠ q + 8 → i ≠ q + 3 → d' i = d i) := by
  have hO := hX.small
  have hq := hX.hq
  have hsl := hX.ok.sLen
  have hsli : (f.stack.length : Int) ≤ 64 := by omega
  have hdp : dl f.pc ≤ 2000 := Nat.le_trans (dl_u64 _ (by have := hX.ok.pc; omega)) (by decide)
  obtain ⟨os, cs, hsd, hs1⟩ := NumS.slice hX.fc.stack
  rw [List.length_reverse] at hsd
  have hstk := hX.fc.stack
  have i1 : (f.stack.length : Int) - k = ((f.stack.length - k : Nat) : Int) := by omega
  have i3 : ((f.stack.length - k : Nat) : Int) ≤ 64 := by omega
  have htk : f.stack.reverse.take (f.stack.length - k) ++ [x] = (f.settle k [x] 1).stack.reverse := by
    unfold AFrame.settle
    simp [List.take_reverse, show f.stack.length - (f.stack.length - k) = k by omega]
  have hcap : ∃ cap, Hid (cs = cap) := ⟨_, rfl⟩
  have hsc : f.stack.length ≤ cs := by
    obtain ⟨o2, cap2, h1, h2, _⟩ := hX.fc.stack
    rw [hsd] at h1
    injection h1 with _ _ h1
    rw [h1]; simpa using h2
  have i4 : ((f.stack.length - k : Nat) : Int) ≤ cs := by omega
  obtain ⟨m, hm⟩ : ∃ m, Hid (f.stack.length - k = m) := ⟨_, rfl⟩
  have hm2 : m ≤ f.stack.length := by have := hm.out; omega
  rw [hm.out] at i1 i3 i4 htk
  have HT : Hid (_ = _) := htk
  clear htk
  obtain ⟨ks, ⟨ko, kc, hke, _, _, _⟩, _⟩ := id hva
  subst hke
  go_enter Hvah.func152, Hvah.ntmps152
  go_wp2_with (first
    | ((with_reducible (refine Veil.out ?_; apply wl_load1 oneN)); (case hx => rfl); (case hB => exact hX.bF); (case ho => omega))
    | ((with_reducible (refine Veil.out ?_; apply wl_pushN)); (case hO => exact hO.ext ((Ext.refl _).alloc _ _)); (case hG => exact NumS.ext hstk ((Ext.refl _).alloc _ _)); (case hk => rw [List.length_reverse]; exact hm2); (case hk2 => omega); (case hbase => exact ⟨_, _, hsd⟩); (case hs => rfl); (case hx => rfl); (case hc => exact row_new _ _ _ 0 _ rfl); (case hu => exact hva.ext ((Ext.refl _).alloc _ _)); rintro v8 W1 hv8 hE1)
    | ((with_reducible (refine Veil.out ?_; apply wl_store1 oneN)); (case hx => rfl); (case hy => rfl); (case h1 => (obtain ⟨oo, cc2, hvv, _⟩ := GRow.slice hv8; rw [hvv]; rfl)); (case hB => exact hX.bF.ext (((Ext.refl _).alloc _ _).trans hE1)); (case ho => omega); rintro W2 hB2 hm2))
  have hv8' : NumS O W1 v8 (f.settle k [x] 1).stack.reverse := by rw [← HT.out]; exact hv8.numS
  have hok1 : FOK { f with stack := (f.settle k [x] 1).stack } := ⟨hX.ok.kind, hX.ok.pre, hX.ok.pc, hok'.sLen, hok'.sLt, hX.ok.gas, hX.ok.self, hX.ok.caller, hX.ok.value, hX.ok.code, hX.ok.mLen, hX.ok.m32, hX.ok.oLt, hX.ok.lLt, hX.ok.out⟩
  have hX1 := (hX.ext (((Ext.refl w).alloc _ _).trans hE1)).putStack hv8' hm2 hB2 hok1
  simp only [Act.put]
  clear hva hstk hv8
  refine w_ext ?_
  rintro W0 hW0
  refine wp_region_held_drew (S := fun w' => Mod (fun x => x = F) W0 w') (by kernel_rfl) (Mod.refl _ _).drew (fun hHeld => ?_)
  have HH : Hid (Mod (fun x => x = F) W0 _) := hHeld
  clear hHeld
  refine wpAnyH_take (i := 0) (v := ?_) rfl (by kernel_rfl) (by kernel_rfl) (by kernel_rfl) (fun _ _ _ h => h) (Or.inl ⟨by rfl, ?_⟩) HH.out ?_
  rotate_left
  · intro w hSw; go_simp; try with_reducible rfl
  change wpAnyH _ _ _ _ _ _ _ (Act.put _ (some 27) _) _
  simp only [Act.put, List.setIfInBounds_toArray, List.set_cons_zero, List.set_cons_succ]
  refine wpAnyH_take (i := 1) (v := ?_) rfl (by kernel_rfl) (by kernel_rfl) (by kernel_rfl) (fun _ _ _ h => h) (Or.inl ⟨by rfl, ?_⟩) HH.out ?_
  rotate_left
  · intro w hSw; go_simp; try with_reducible rfl
  change wpAnyH _ _ _ _ _ _ _ (Act.put _ (some 28) _) _
  simp only [Act.put, List.setIfInBounds_toArray, List.set_cons_zero, List.set_cons_succ]
  refine wpAnyH_take (i := 2) (v := ?_) rfl (by kernel_rfl) (by kernel_rfl) (by kernel_rfl) (fun _ _ _ h => h) (Or.inl ⟨by rfl, ?_⟩) HH.out ?_
  rotate_left
  · intro w hSw; go_simp; try with_reducible rfl
  change wpAnyH _ _ _ _ _ _ _ (Act.put _ (some 29) _) _
  simp only [Act.put, List.setIfInBounds_toArray, List.set_cons_zero, List.set_cons_succ]
  refine wpAnyH_take (i := 3) (v := ?_) rfl (by kernel_rfl) (by kernel_rfl) (by kernel_rfl) (fun _ _ _ h => h) (Or.inl ⟨by rfl, ?_⟩) HH.out ?_
  rotate_left
  · intro w hSw; go_simp; try with_reducible rfl
  change wpAnyH _ _ _ _ _ _ _ (Act.put _ (some 30) _) _
  simp only [Act.put, List.setIfInBounds_toArray, List.set_cons_zero, List.set_cons_succ]
  refine wpAnyH_ready (rs := [4, 5]) (by kernel_rfl) (by simp) ?_
  refine (AllReadyH.cons rfl (fun K hK => ?_) (AllReadyH.cons rfl (fun K hK => ?_) AllReadyH.nil))
  refine step_load1 one96 rfl rfl rfl ((hX1.bF.ext (by (repeat (first | with_reducible exact Ext.refl _ | with_reducible assumption | refine Ext.trans ?_ (by with_reducible assumption) | refine Ext.alloc ?_ _ _ | refine Ext.drew ?_ | refine Ext.drewN ?_ _)))).cell (by have := hX1.hq; omega)) ?_
  refine hK.out _ _ HH.out (fun hHeld => ?_)
  clear hK K HH
  have HH : Hid (Mod (fun x => x = F) W0 _) := hHeld
  clear hHeld
  change wpAnyH _ _ _ _ _ _ _ (Act.put _ (some 31) _) _
  simp only [Act.put, List.setIfInBounds_toArray, List.set_cons_zero, List.set_cons_succ]
  refine wpAnyH_ready (rs := [5]) (by kernel_rfl) (by simp) ?_
  refine AllReadyH.cons rfl (fun K hK => ?_) AllReadyH.nil
  go_simp
  (go_at_call 42; refine (nNum O 1 _ (hX1.small.ext (by (repeat (first | with_reducible exact Ext.refl _ | with_reducible assumption | refine Ext.trans ?_ (by with_reducible assumption) | refine Ext.alloc ?_ _ _ | refine Ext.drew ?_ | refine Ext.drewN ?_ _)))) (by decide)).mono ?_; rintro e w1 ⟨r1, rfl, hr1, he⟩)
  refine hK.out _ _ ?_ (fun hHeld => ?_)
  · first | exact HH.out.trans_ext he | exact HH.out
  clear hK K HH
  have HH : Hid (Mod (fun x => x = F) W0 _) := hHeld
  clear hHeld
  refine wpAnyH_ready (rs := [6]) (by kernel_rfl) (by simp) ?_
  refine AllReadyH.cons rfl (fun K hK => ?_) AllReadyH.nil
  go_simp
  (go_at_call 44; refine (nAdd O _ _ _ _ _ (hX1.small.ext (by (repeat (first | with_reducible exact Ext.refl _ | with_reducible assumption | refine Ext.trans ?_ (by with_reducible assumption) | refine Ext.alloc ?_ _ _ | refine Ext.drew ?_ | refine Ext.drewN ?_ _)))) (hX1.fc.pc.ext (by (repeat (first | with_reducible exact Ext.refl _ | with_reducible assumption | refine Ext.trans ?_ (by with_reducible assumption) | refine Ext.alloc ?_ _ _ | refine Ext.drew ?_ | refine Ext.drewN ?_ _)))) (hr1.ext (by (repeat (first | with_reducible exact Ext.refl _ | with_reducible assumption | refine Ext.trans ?_ (by with_reducible assumption) | refine Ext.alloc ?_ _ _ | refine Ext.drew ?_ | refine Ext.drewN ?_ _)))) hdp (by decide)).mono ?_; rintro e w1 ⟨r2, rfl, hr2, he⟩)
  refine hK.out _ _ ?_ (fun hHeld => ?_)
  · first | exact HH.out.trans_ext he | exact HH.out
  clear hK K HH
  have HH : Hid (Mod (fun x => x = F) W0 _) := hHeld
  clear hHeld
  refine wpAnyH_take (i := 7) (v := ?_) rfl (by kernel_rfl) (by kernel_rfl) (by kernel_rfl) (fun _ _ _ h => h) (Or.inl ⟨by rfl, ?_⟩) HH.out ?_
  rotate_left
  · intro w hSw; go_simp; try with_reducible rfl
  change wpAnyH _ _ _ _ _ _ _ (Act.put _ (some 34) _) _
  simp only [Act.put, List.setIfInBounds_toArray, List.set_cons_zero, List.set_cons_succ]
  refine wpAnyH_take (i := 8) (v := ?_) rfl (by kernel_rfl) (by kernel_rfl) (by kernel_rfl) (fun _ _ _ h => h) (Or.inl ⟨by rfl, ?_⟩) HH.out ?_
  rotate_left
  · intro w hSw; go_simp; try with_reducible rfl
  change wpAnyH _ _ _ _ _ _ _ (Act.put _ (some 35) _) _
  simp only [Act.put, List.setIfInBounds_toArray, List.set_cons_zero, List.set_cons_succ]
  refine wpAnyH_ready (rs := [9]) (by kernel_rfl) (by simp) ?_
  refine AllReadyH.cons rfl (fun K hK => ?_) AllReadyH.nil
  refine step_store1 one96 rfl rfl rfl rfl hr2.one (hX1.bF.ext (by (repeat (first | with_reducible exact Ext.refl _ | with_reducible assumption | refine Ext.trans ?_ (by with_reducible assumption) | refine Ext.alloc ?_ _ _ | refine Ext.drew ?_ | refine Ext.drewN ?_ _)))) (by have := hX1.hq; omega) ?_
  rintro W5 hB5 hm5
  refine hK.out _ _ (HH.out.trans hm5) (fun hHeld => ?_)
  clear hK K HH
  have HH : Hid (Mod (fun x => x = F) W0 _) := hHeld
  clear hHeld
  change wpAnyH _ _ _ _ _ _ _ (Act.put _ none _) _
  simp only [Act.put, List.setIfInBounds_toArray, List.set_cons_zero, List.set_cons_succ]
  refine wpAnyH_done (by kernel_rfl) ?_ _
  rotate_left
  go_simp
  (go_at_call 42; refine (nNum O 1 _ (hX1.small.ext (by (repeat (first | with_reducible exact Ext.refl _ | with_reducible assumption | refine Ext.trans ?_ (by with_reducible assumption) | refine Ext.alloc ?_ _ _ | refine Ext.drew ?_ | refine Ext.drewN ?_ _)))) (by decide)).mono ?_; rintro e w1 ⟨r1, rfl, hr1, he⟩)
  refine hK.out _ _ ?_ (fun hHeld => ?_)
  · first | exact HH.out.trans_ext he | exact HH.out
  clear hK K HH
  have HH : Hid (Mod (fun x => x = F) W0 _) := hHeld
  clear hHeld
  refine wpAnyH_ready (rs := [4]) (by kernel_rfl) (by simp) ?_
  refine AllReadyH.cons rfl (fun K hK => ?_) AllReadyH.nil
  refine step_load1 one96 rfl rfl rfl ((hX1.bF.ext (by (repeat (first | with_reducible exact Ext.refl _ | with_reducible assumption | refine Ext.trans ?_ (by with_reducible assumption) | refine Ext.alloc ?_ _ _ | refine Ext.drew ?_ | refine Ext.drewN ?_ _)))).cell (by have := hX1.hq; omega)) ?_
  refine hK.out _ _ HH.out (fun hHeld => ?_)
  clear hK K HH
  have HH : Hid (Mod (fun x => x = F) W0 _) := hHeld
  clear hHeld
  change wpAnyH _ _ _ _ _ _ _ (Act.put _ (some 31) _) _
  simp only [Act.put, List.setIfInBounds_toArray, List.set_cons_zero, List.set_cons_succ]
  refine wpAnyH_ready (rs := [6]) (by kernel_rfl) (by simp) ?_
  refine AllReadyH.cons rfl (fun K hK => ?_) AllReadyH.nil
  go_simp
  (go_at_call 44; refine (nAdd O _ _ _ _ _ (hX1.small.ext (by (repeat (first | with_reducible exact Ext.refl _ | with_reducible assumption | refine Ext.trans ?_ (by with_reducible assumption) | refine Ext.alloc ?_ _ _ | refine Ext.drew ?_ | refine Ext.drewN ?_ _)))) (hX1.fc.pc.ext (by (repeat (first | with_reducible exact Ext.refl _ | with_reducible assumption | refine Ext.trans ?_ (by with_reducible assumption) | refine Ext.alloc ?_ _ _ | refine Ext.drew ?_ | refine Ext.drewN ?_ _)))) (hr1.ext (by (repeat (first | with_reducible exact Ext.refl _ | with_reducible assumption | refine Ext.trans ?_ (by with_reducible assumption) | refine Ext.alloc ?_ _ _ | refine Ext.drew ?_ | refine Ext.drewN ?_ _)))) hdp (by decide)).mono ?_; rintro e w1 ⟨r2, rfl, hr2, he⟩)
  refine hK.out _ _ ?_ (fun hHeld => ?_)
  · first | exact HH.out.trans_ext he | exact HH.out
  clear hK K HH
  have HH : Hid (Mod (fun x => x = F) W0 _) := hHeld
  clear hHeld
  refine wpAnyH_take (i := 7) (v := ?_) rfl (by kernel_rfl) (by kernel_rfl) (by kernel_rfl) (fun _ _ _ h => h) (Or.inl ⟨by rfl, ?_⟩) HH.out ?_
  rotate_left
  · intro w hSw; go_simp; try with_reducible rfl
  change wpAnyH _ _ _ _ _ _ _ (Act.put _ (some 34) _) _
  simp only [Act.put, List.setIfInBounds_toArray, List.set_cons_zero, List.set_cons_succ]
  refine wpAnyH_take (i := 8) (v := ?_) rfl (by kernel_rfl) (by kernel_rfl) (by kernel_rfl) (fun _ _ _ h => h) (Or.inl ⟨by rfl, ?_⟩) HH.out ?_
  rotate_left
  · intro w hSw; go_simp; try with_reducible rfl
  change wpAnyH _ _ _ _ _ _ _ (Act.put _ (some 35) _) _
  simp only [Act.put, List.setIfInBounds_toArray, List.set_cons_zero, List.set_cons_succ]
  refine wpAnyH_ready (rs := [9]) (by kernel_rfl) (by simp) ?_
  refine AllReadyH.cons rfl (fun K hK => ?_) AllReadyH.nil
  refine step_store1 one96 rfl rfl rfl rfl hr2.one (hX1.bF.ext (by (repeat (first | with_reducible exact Ext.refl _ | with_reducible assumption | refine Ext.trans ?_ (by with_reducible assumption) | refine Ext.alloc ?_ _ _ | refine Ext.drew ?_ | refine Ext.drewN ?_ _)))) (by have := hX1.hq; omega) ?_
  rintro W5 hB5 hm5
  refine hK.out _ _ (HH.out.trans hm5) (fun hHeld => ?_)
  clear hK K HH
  have HH : Hid (Mod (fun x => x = F) W0 _) := hHeld
  clear hHeld
  change wpAnyH _ _ _ _ _ _ _ (Act.put _ none _) _
  simp only [Act.put, List.setIfInBounds_toArray, List.set_cons_zero, List.set_cons_succ]
  refine wpAnyH_done (by kernel_rfl) ?_ _
  all_goals go_wp2
  all_goals go_end0
  all_goals exact ⟨rfl, _, (hX1.ext (by (repeat (first | with_reducible exact Ext.refl _ | with_reducible assumption | refine Ext.trans ?_ (by with_reducible assumption) | refine Ext.alloc ?_ _ _ | refine Ext.drew ?_ | refine Ext.drewN ?_ _)))).putPc hr2 hm5 hB5 hok', (Mod.trans (Ext.mod (((Ext.refl w).alloc _ _).trans hE1) _) hm2).trans ((Ext.mod (by (repeat (first | with_reducible exact Ext.refl _ | with_reducible assumption | refine Ext.trans ?_ (by with_reducible assumption) | refine Ext.alloc ?_ _ _ | refine Ext.drew ?_ | refine Ext.drewN ?_ _))) _).trans hm5), fun i h8 h3 => by rw [updv_ne _ _ h3, updv_ne _ _ h8]⟩
end
end Go.Proofs.YgvahwGreat
