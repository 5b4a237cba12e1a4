import Derived.Test.YgvahwGreatTp
import Derived.Test.YgvahwGreatTh
namespace Go.Proofs.YgvahwGreat
open Go.RowKit
set_option linter.unusedSimpArgs false
section
variable {kk : Nat → Value} {O TM TL : Nat → Prop} {w : World} {Y F q n : Nat} {tF : TypeId} {c d : Nat → Value} {W : YW} {start : List (Nat × Nat × Nat)} {st : ASt} {f : AFrame}
set_option maxRecDepth 100000 in
set_option maxHeartbeats 6400000 in
theorem yEff85 (hX : YX kk O TM TL w Y F q n tF c d W start st f) {vg : Value} {args : List Nat} (hA : NumL O w vg args) (hw : W.WF) (h0 : args.getD 0 0 = f.arg 0) (h1 : args.getD 1 0 = f.arg 1) (hkey : f.arg 0 < Pk) (hle : sstoreMinus (st.orig f.self (f.arg 0)) (st.now.slot f.self (f.arg 0)) (f.arg 1) ≤ st.now.refund) (hl1 : YLim ({ W with refund := (st.now.refund - sstoreMinus (st.orig f.self (f.arg 0)) (st.now.slot f.self (f.arg 0)) (f.arg 1) + sstorePlus (st.orig f.self (f.arg 0)) (st.now.slot f.self (f.arg 0)) (f.arg 1)) })) (hl2 : YLim (({ W with refund := (st.now.refund - sstoreMinus (st.orig f.self (f.arg 0)) (st.now.slot f.self (f.arg 0)) (f.arg 1) + sstorePlus (st.orig f.self (f.arg 0)) (st.now.slot f.self (f.arg 0)) (f.arg 1)) } : YW).warmSlot f.self (f.arg 0))) (hl3 : YLim ((({ W with refund := (st.now.refund - sstoreMinus (st.orig f.self (f.arg 0)) (st.now.slot f.self (f.arg 0)) (f.arg 1) + sstorePlus (st.orig f.self (f.arg 0)) (st.now.slot f.self (f.arg 0)) (f.arg 1)) } : YW).warmSlot f.self (f.arg 0)).store f.self (f.arg 0) (f.arg 1))) :
    Calls Hvah.prog 162 #[.pointer (some ⟨Y, 0, none⟩), .pointer (some ⟨F, q, none⟩), .int .u8 85, vg] w fun e w' => ∃ c', e = .returned (.bool true) ∧ YX kk O TM TL w' Y F q n tF c' d ((({ W with refund := (st.now.refund - sstoreMinus (st.orig f.self (f.arg 0)) (st.now.slot f.self (f.arg 0)) (f.arg 1) + sstorePlus (st.orig f.self (f.arg 0)) (st.now.slot f.self (f.arg 0)) (f.arg 1)) } : YW).warmSlot f.self (f.arg 0)).store f.self (f.arg 0) (f.arg 1)) start { st with now := ((st.now.setRefund (st.now.refund - sstoreMinus (st.orig f.self (f.arg 0)) (st.now.slot f.self (f.arg 0)) (f.arg 1) + sstorePlus (st.orig f.self (f.arg 0)) (st.now.slot f.self (f.arg 0)) (f.arg 1))).warmSlot f.self (f.arg 0)).store f.self (f.arg 0) (f.arg 1) } f ∧ Mod (· = Y) w w' ∧ c' 4 = c 4 := by
  have HS := fun kv vv (hk : NV O w kv (args.getD 0 0)) (hv : NV O w vv (args.getD 1 0)) => xStores hX hw (kv := kv) (vv := vv) (hk.cast h0) (hv.cast h1) hkey hle hl1 hl2 hl3
  go_enter Hvah.func162, Hvah.ntmps162
  go_wp2_with (first | (go_at_call_of 237 (Value.int IntKind.i64 0); refine (yOperand _ hA 0).mono ?_; rintro e w1 ⟨ra, rfl, hra, hww⟩; replace hww := hww.symm; subst hww) | (go_at_call_of 237 (Value.int IntKind.i64 1); refine (yOperand _ hA 1).mono ?_; rintro e w1 ⟨rb, rfl, hrb, hww⟩; replace hww := hww.symm; subst hww) | (go_at_call_of 237 (Value.int IntKind.i64 2); refine (yOperand _ hA 2).mono ?_; rintro e w1 ⟨rc, rfl, hrc, hww⟩; replace hww := hww.symm; subst hww) | (go_at_call 244; refine (HS _ _ hra hrb).mono ?_; rintro e w5 ⟨c5, rfl, hX5, hm5, h54⟩))
  go_ret
  exact ⟨c5, rfl, hX5, hm5, h54⟩
set_option maxRecDepth 100000 in
set_option maxHeartbeats 6400000 in
theorem yEff93 (hX : YX kk O TM TL w Y F q n tF c d W start st f) {vg : Value} {args : List Nat} (hA : NumL O w vg args) (hw : W.WF) (hkey : args.getD 0 0 < Pk) (hl : YLim (W.tstore f.self (args.getD 0 0) (args.getD 1 0))) :
    Calls Hvah.prog 162 #[.pointer (some ⟨Y, 0, none⟩), .pointer (some ⟨F, q, none⟩), .int .u8 93, vg] w fun e w' => ∃ c', e = .returned (.bool true) ∧ YX kk O TM TL w' Y F q n tF c' d (W.tstore f.self (args.getD 0 0) (args.getD 1 0)) start { st with now := st.now.tstore f.self (args.getD 0 0) (args.getD 1 0) } f ∧ Mod (· = Y) w w' ∧ c' 4 = c 4 := by
  have hself := hX.ok.self
  go_enter Hvah.func162, Hvah.ntmps162
  go_upto_region 24 with (first | (go_at_call_of 237 (Value.int IntKind.i64 0); refine (yOperand _ hA 0).mono ?_; rintro e w1 ⟨ra, rfl, hra, hww⟩; replace hww := hww.symm; subst hww) | (go_at_call_of 237 (Value.int IntKind.i64 1); refine (yOperand _ hA 1).mono ?_; rintro e w1 ⟨rb, rfl, hrb, hww⟩; replace hww := hww.symm; subst hww) | (go_at_call_of 237 (Value.int IntKind.i64 2); refine (yOperand _ hA 2).mono ?_; rintro e w1 ⟨rc, rfl, hrc, hww⟩; replace hww := hww.symm; subst hww))
  refine w_ext ?_
  rintro W0 hW0
  have hX0 := hX.ext hW0
  refine wp_region_held_drew (S := fun w' => Mod (fun x => x = Y) W0 w') (by kernel_rfl) (Mod.refl _ _).drew (fun hHeld => ?_)
  have HH : Hid (Mod (fun x => x = Y) W0 _) := hHeld
  clear hHeld
  refine wpAnyH_take (i := 0) (v := ?_) rfl (by kernel_rfl) (by kernel_rfl) (by kernel_rfl) (fun _ _ _ h => h) (Or.inl ⟨by rfl, ?_⟩) HH.out ?_
  rotate_left
  · intro w hSw; go_simp; try with_reducible rfl
  change wpAnyH _ _ _ _ _ _ _ (Act.put _ (some 123) _) _
  simp only [Act.put, List.setIfInBounds_toArray, List.set_cons_zero, List.set_cons_succ]
  refine wpAnyH_take (i := 1) (v := ?_) rfl (by kernel_rfl) (by kernel_rfl) (by kernel_rfl) (fun _ _ _ h => h) (Or.inl ⟨by rfl, ?_⟩) HH.out ?_
  rotate_left
  · intro w hSw; go_simp; try with_reducible rfl
  change wpAnyH _ _ _ _ _ _ _ (Act.put _ (some 124) _) _
  simp only [Act.put, List.setIfInBounds_toArray, List.set_cons_zero, List.set_cons_succ]
  refine wpAnyH_take (i := 2) (v := ?_) rfl (by kernel_rfl) (by kernel_rfl) (by kernel_rfl) (fun _ _ _ h => h) (Or.inl ⟨by rfl, ?_⟩) HH.out ?_
  rotate_left
  · intro w hSw; go_simp; try with_reducible rfl
  change wpAnyH _ _ _ _ _ _ _ (Act.put _ (some 125) _) _
  simp only [Act.put, List.setIfInBounds_toArray, List.set_cons_zero, List.set_cons_succ]
  refine wpAnyH_take (i := 3) (v := ?_) rfl (by kernel_rfl) (by kernel_rfl) (by kernel_rfl) (fun _ _ _ h => h) (Or.inl ⟨by rfl, ?_⟩) HH.out ?_
  rotate_left
  · intro w hSw; go_simp; try with_reducible rfl
  change wpAnyH _ _ _ _ _ _ _ (Act.put _ (some 126) _) _
  simp only [Act.put, List.setIfInBounds_toArray, List.set_cons_zero, List.set_cons_succ]
  refine wpAnyH_take (i := 4) (v := ?_) rfl (by kernel_rfl) (by kernel_rfl) (by kernel_rfl) (fun _ _ _ h => h) (Or.inl ⟨by rfl, ?_⟩) HH.out ?_
  rotate_left
  · intro w hSw; go_simp; try with_reducible rfl
  change wpAnyH _ _ _ _ _ _ _ (Act.put _ (some 127) _) _
  simp only [Act.put, List.setIfInBounds_toArray, List.set_cons_zero, List.set_cons_succ]
  refine wpAnyH_take (i := 5) (v := ?_) rfl (by kernel_rfl) (by kernel_rfl) (by kernel_rfl) (fun _ _ _ h => h) (Or.inl ⟨by rfl, ?_⟩) HH.out ?_
  rotate_left
  · intro w hSw; go_simp; try with_reducible rfl
  change wpAnyH _ _ _ _ _ _ _ (Act.put _ (some 128) _) _
  simp only [Act.put, List.setIfInBounds_toArray, List.set_cons_zero, List.set_cons_succ]
  refine wpAnyH_take (i := 6) rfl (by kernel_rfl) (by kernel_rfl) (by kernel_rfl) (fun _ _ _ h => h) (yieldsIf_load_mid (by rfl) _ _ rfl _ _ rfl _ _ (fun w hSw => rng_av hX0.fc.self hX0.ok.self (hX0.bF.mod hSw (fun e => hX0.ne e.symm)) (by have := hX0.hq; omega)) under25 rfl (sz_av hX0.ok.self)) HH.out ?_
  change wpAnyH _ _ _ _ _ _ _ (Act.put _ (some 129) _) _
  simp only [Act.put, List.setIfInBounds_toArray, List.set_cons_zero, List.set_cons_succ]
  refine wpAnyH_take (i := 7) (v := ?_) rfl (by kernel_rfl) (by kernel_rfl) (by kernel_rfl) (fun _ _ _ h => h) (Or.inl ⟨by rfl, ?_⟩) HH.out ?_
  rotate_left
  · intro w hSw; go_simp; try with_reducible rfl
  change wpAnyH _ _ _ _ _ _ _ (Act.put _ (some 130) _) _
  simp only [Act.put, List.setIfInBounds_toArray, List.set_cons_zero, List.set_cons_succ]
  refine wpAnyH_take (i := 8) (v := ?_) rfl (by kernel_rfl) (by kernel_rfl) (by kernel_rfl) (fun _ _ _ h => h) (Or.inl ⟨by rfl, ?_⟩) HH.out ?_
  rotate_left
  · intro w hSw; go_simp; try with_reducible rfl
  change wpAnyH _ _ _ _ _ _ _ (Act.put _ (some 131) _) _
  simp only [Act.put, List.setIfInBounds_toArray, List.set_cons_zero, List.set_cons_succ]
  refine wpAnyH_ready (rs := [9]) (by kernel_rfl) (by simp) ?_
  refine AllReadyH.cons rfl (fun K hK => ?_) AllReadyH.nil
  go_simp
  go_at_call 245; refine (xTstoreS (hX0.ext (by (repeat (first | with_reducible exact Ext.refl _ | with_reducible assumption | refine Ext.trans ?_ (by with_reducible assumption) | refine Ext.alloc ?_ _ _ | refine Ext.drew ?_ | refine Ext.drewN ?_ _)))) hw _ hself _ _ _ _ (hra.ext (by (repeat (first | with_reducible exact Ext.refl _ | with_reducible assumption | refine Ext.trans ?_ (by with_reducible assumption) | refine Ext.alloc ?_ _ _ | refine Ext.drew ?_ | refine Ext.drewN ?_ _)))) (hrb.ext (by (repeat (first | with_reducible exact Ext.refl _ | with_reducible assumption | refine Ext.trans ?_ (by with_reducible assumption) | refine Ext.alloc ?_ _ _ | refine Ext.drew ?_ | refine Ext.drewN ?_ _)))) hkey hl).mono ?_; rintro e w5 ⟨c5, rfl, hX5, hmY, h54⟩
  refine hK.out _ _ ?_ (fun hHeld => ?_)
  · first | exact HH.out.trans hmY | exact HH.out.trans_ext he | exact HH.out
  clear hK K HH
  have HH : Hid (Mod (fun x => x = Y) W0 _) := hHeld
  clear hHeld
  refine wpAnyH_done (by kernel_rfl) ?_ _
  have m5 : Mod (fun x => x = Y) w w5 := by (repeat (first | with_reducible exact Mod.refl _ _ | with_reducible assumption | refine Mod.trans ?_ (by with_reducible assumption) | refine Mod.trans_ext ?_ (by with_reducible assumption) | refine Mod.alloc ?_ _ _ | refine Mod.drew ?_ | refine Mod.drewN ?_ _))
  go_wp2
  go_ret
  exact ⟨c5, rfl, hX5, m5, h54⟩
set_option maxRecDepth 100000 in
set_option maxHeartbeats 6400000 in
theorem yVal84 (hX : YX kk O TM TL w Y F q n tF c d W start st f) {vg : Value} {args : List Nat} (hA : NumL O w vg args) (hw : W.WF) (hkey : args.getD 0 0 < Pk) (hl : YLim (W.warmSlot f.self (args.getD 0 0))) :
    Calls Hvah.prog 161 #[.pointer (some ⟨Y, 0, none⟩), .pointer (some ⟨F, q, none⟩), .int .u8 84, vg] w fun e w' => ∃ r c', e = .returned r ∧ NV O w' r (st.now.slot f.self (args.getD 0 0)) ∧ YX kk O TM TL w' Y F q n tF c' d (W.warmSlot f.self (args.getD 0 0)) start { st with now := st.now.warmSlot f.self (args.getD 0 0) } f ∧ Mod (· = Y) w w' ∧ c' 4 = c 4 := by
  have hself := hX.ok.self
  have hfam : famA 84 = 8 := by decide
  go_enter Hvah.func161, Hvah.ntmps161
  go_upto_region 42 with (first | (go_at_call_of 237 (Value.int IntKind.i64 0); refine (yOperand _ hA 0).mono ?_; rintro e w1 ⟨ra, rfl, hra, hww⟩; replace hww := hww.symm; subst hww) | (go_at_call_of 237 (Value.int IntKind.i64 1); refine (yOperand _ hA 1).mono ?_; rintro e w1 ⟨rb, rfl, hrb, hww⟩; replace hww := hww.symm; subst hww) | (go_at_call 19; refine (opFamily _ (by first | assumption | decide) _).mono ?_; rintro e w1 ⟨rfl, hww⟩; replace hww := hww.symm; subst hww))
  refine w_ext ?_
  rintro W0 hW0
  have hX0 := hX.ext hW0
  refine wp_region_held_drew (S := fun w' => Mod (fun x => x = Y) W0 w') (by kernel_rfl) (Mod.refl _ _).drew (fun hHeld => ?_)
  have HH : Hid (Mod (fun x => x = Y) W0 _) := hHeld
  clear hHeld
  refine wpAnyH_take (i := 0) (v := ?_) rfl (by kernel_rfl) (by kernel_rfl) (by kernel_rfl) (fun _ _ _ h => h) (Or.inl ⟨by rfl, ?_⟩) HH.out ?_
  rotate_left
  · intro w hSw; go_simp; try with_reducible rfl
  change wpAnyH _ _ _ _ _ _ _ (Act.put _ (some 190) _) _
  simp only [Act.put, List.setIfInBounds_toArray, List.set_cons_zero, List.set_cons_succ]
  refine wpAnyH_take (i := 1) (v := ?_) rfl (by kernel_rfl) (by kernel_rfl) (by kernel_rfl) (fun _ _ _ h => h) (Or.inl ⟨by rfl, ?_⟩) HH.out ?_
  rotate_left
  · intro w hSw; go_simp; try with_reducible rfl
  change wpAnyH _ _ _ _ _ _ _ (Act.put _ (some 191) _) _
  simp only [Act.put, List.setIfInBounds_toArray, List.set_cons_zero, List.set_cons_succ]
  refine wpAnyH_take (i := 2) (v := ?_) rfl (by kernel_rfl) (by kernel_rfl) (by kernel_rfl) (fun _ _ _ h => h) (Or.inl ⟨by rfl, ?_⟩) HH.out ?_
  rotate_left
  · intro w hSw; go_simp; try with_reducible rfl
  change wpAnyH _ _ _ _ _ _ _ (Act.put _ (some 192) _) _
  simp only [Act.put, List.setIfInBounds_toArray, List.set_cons_zero, List.set_cons_succ]
  refine wpAnyH_take (i := 3) (v := ?_) rfl (by kernel_rfl) (by kernel_rfl) (by kernel_rfl) (fun _ _ _ h => h) (Or.inl ⟨by rfl, ?_⟩) HH.out ?_
  rotate_left
  · intro w hSw; go_simp; try with_reducible rfl
  change wpAnyH _ _ _ _ _ _ _ (Act.put _ (some 193) _) _
  simp only [Act.put, List.setIfInBounds_toArray, List.set_cons_zero, List.set_cons_succ]
  refine wpAnyH_take (i := 4) (v := ?_) rfl (by kernel_rfl) (by kernel_rfl) (by kernel_rfl) (fun _ _ _ h => h) (Or.inl ⟨by rfl, ?_⟩) HH.out ?_
  rotate_left
  · intro w hSw; go_simp; try with_reducible rfl
  change wpAnyH _ _ _ _ _ _ _ (Act.put _ (some 194) _) _
  simp only [Act.put, List.setIfInBounds_toArray, List.set_cons_zero, List.set_cons_succ]
  refine wpAnyH_take (i := 5) (v := ?_) rfl (by kernel_rfl) (by kernel_rfl) (by kernel_rfl) (fun _ _ _ h => h) (Or.inl ⟨by rfl, ?_⟩) HH.out ?_
  rotate_left
  · intro w hSw; go_simp; try with_reducible rfl
  change wpAnyH _ _ _ _ _ _ _ (Act.put _ (some 195) _) _
  simp only [Act.put, List.setIfInBounds_toArray, List.set_cons_zero, List.set_cons_succ]
  refine wpAnyH_take (i := 6) rfl (by kernel_rfl) (by kernel_rfl) (by kernel_rfl) (fun _ _ _ h => h) (yieldsIf_load_mid (by rfl) _ _ rfl _ _ rfl _ _ (fun w hSw => rng_av hX0.fc.self hX0.ok.self (hX0.bF.mod hSw (fun e => hX0.ne e.symm)) (by have := hX0.hq; omega)) under25 rfl (sz_av hX0.ok.self)) HH.out ?_
  change wpAnyH _ _ _ _ _ _ _ (Act.put _ (some 196) _) _
  simp only [Act.put, List.setIfInBounds_toArray, List.set_cons_zero, List.set_cons_succ]
  refine wpAnyH_take (i := 7) (v := ?_) rfl (by kernel_rfl) (by kernel_rfl) (by kernel_rfl) (fun _ _ _ h => h) (Or.inl ⟨by rfl, ?_⟩) HH.out ?_
  rotate_left
  · intro w hSw; go_simp; try with_reducible rfl
  change wpAnyH _ _ _ _ _ _ _ (Act.put _ (some 197) _) _
  simp only [Act.put, List.setIfInBounds_toArray, List.set_cons_zero, List.set_cons_succ]
  refine wpAnyH_ready (rs := [8]) (by kernel_rfl) (by simp) ?_
  refine AllReadyH.cons rfl (fun K hK => ?_) AllReadyH.nil
  go_simp
  go_at_call 62; refine (xWarmS (hX0.ext (by (repeat (first | with_reducible exact Ext.refl _ | with_reducible assumption | refine Ext.trans ?_ (by with_reducible assumption) | refine Ext.alloc ?_ _ _ | refine Ext.drew ?_ | refine Ext.drewN ?_ _)))) hw _ hself _ _ (hra.ext (by (repeat (first | with_reducible exact Ext.refl _ | with_reducible assumption | refine Ext.trans ?_ (by with_reducible assumption) | refine Ext.alloc ?_ _ _ | refine Ext.drew ?_ | refine Ext.drewN ?_ _)))) hkey hl).mono ?_; rintro e w5 ⟨c5, rfl, hX5, hmY, h54⟩
  refine hK.out _ _ ?_ (fun hHeld => ?_)
  · first | exact HH.out.trans hmY | exact HH.out.trans_ext he | exact HH.out
  clear hK K HH
  have HH : Hid (Mod (fun x => x = Y) W0 _) := hHeld
  clear hHeld
  refine wpAnyH_done (by kernel_rfl) ?_ _
  have m5 : Mod (fun x => x = Y) w w5 := by (repeat (first | with_reducible exact Mod.refl _ _ | with_reducible assumption | refine Mod.trans ?_ (by with_reducible assumption) | refine Mod.trans_ext ?_ (by with_reducible assumption) | refine Mod.alloc ?_ _ _ | refine Mod.drew ?_ | refine Mod.drewN ?_ _))
  have hk5 := hra.keep m5 hX.hsY
  go_upto_region 43 with (fail)
  refine w_ext ?_
  rintro W0 hW0
  have hX0 := hX5.ext hW0
  refine wp_region_held_drew (S := fun w' => Ext W0 w') (by kernel_rfl) (Ext.refl _).drew (fun hHeld => ?_)
  have HH : Hid (Ext W0 _) := hHeld
  clear hHeld
  refine wpAnyH_take (i := 0) (v := ?_) rfl (by kernel_rfl) (by kernel_rfl) (by kernel_rfl) (fun _ _ _ h => h) (Or.inl ⟨by rfl, ?_⟩) HH.out ?_
  rotate_left
  · intro w hSw; go_simp; try with_reducible rfl
  change wpAnyH _ _ _ _ _ _ _ (Act.put _ (some 199) _) _
  simp only [Act.put, List.setIfInBounds_toArray, List.set_cons_zero, List.set_cons_succ]
  refine wpAnyH_take (i := 1) (v := ?_) rfl (by kernel_rfl) (by kernel_rfl) (by kernel_rfl) (fun _ _ _ h => h) (Or.inl ⟨by rfl, ?_⟩) HH.out ?_
  rotate_left
  · intro w hSw; go_simp; try with_reducible rfl
  change wpAnyH _ _ _ _ _ _ _ (Act.put _ (some 200) _) _
  simp only [Act.put, List.setIfInBounds_toArray, List.set_cons_zero, List.set_cons_succ]
  refine wpAnyH_take (i := 2) (v := ?_) rfl (by kernel_rfl) (by kernel_rfl) (by kernel_rfl) (fun _ _ _ h => h) (Or.inl ⟨by rfl, ?_⟩) HH.out ?_
  rotate_left
  · intro w hSw; go_simp; try with_reducible rfl
  change wpAnyH _ _ _ _ _ _ _ (Act.put _ (some 201) _) _
  simp only [Act.put, List.setIfInBounds_toArray, List.set_cons_zero, List.set_cons_succ]
  refine wpAnyH_take (i := 3) (v := ?_) rfl (by kernel_rfl) (by kernel_rfl) (by kernel_rfl) (fun _ _ _ h => h) (Or.inl ⟨by rfl, ?_⟩) HH.out ?_
  rotate_left
  · intro w hSw; go_simp; try with_reducible rfl
  change wpAnyH _ _ _ _ _ _ _ (Act.put _ (some 202) _) _
  simp only [Act.put, List.setIfInBounds_toArray, List.set_cons_zero, List.set_cons_succ]
  refine wpAnyH_take (i := 4) (v := ?_) rfl (by kernel_rfl) (by kernel_rfl) (by kernel_rfl) (fun _ _ _ h => h) (Or.inl ⟨by rfl, ?_⟩) HH.out ?_
  rotate_left
  · intro w hSw; go_simp; try with_reducible rfl
  change wpAnyH _ _ _ _ _ _ _ (Act.put _ (some 203) _) _
  simp only [Act.put, List.setIfInBounds_toArray, List.set_cons_zero, List.set_cons_succ]
  refine wpAnyH_take (i := 5) (v := ?_) rfl (by kernel_rfl) (by kernel_rfl) (by kernel_rfl) (fun _ _ _ h => h) (Or.inl ⟨by rfl, ?_⟩) HH.out ?_
  rotate_left
  · intro w hSw; go_simp; try with_reducible rfl
  change wpAnyH _ _ _ _ _ _ _ (Act.put _ (some 204) _) _
  simp only [Act.put, List.setIfInBounds_toArray, List.set_cons_zero, List.set_cons_succ]
  refine wpAnyH_take (i := 6) rfl (by kernel_rfl) (by kernel_rfl) (by kernel_rfl) (fun _ _ _ h => h) (yieldsIf_load_mid (by rfl) _ _ rfl _ _ rfl _ _ (fun w hSw => rng_av hX0.fc.self hX0.ok.self (hX0.bF.ext hSw) (by have := hX0.hq; omega)) under25 rfl (sz_av hX0.ok.self)) HH.out ?_
  change wpAnyH _ _ _ _ _ _ _ (Act.put _ (some 205) _) _
  simp only [Act.put, List.setIfInBounds_toArray, List.set_cons_zero, List.set_cons_succ]
  refine wpAnyH_take (i := 7) (v := ?_) rfl (by kernel_rfl) (by kernel_rfl) (by kernel_rfl) (fun _ _ _ h => h) (Or.inl ⟨by rfl, ?_⟩) HH.out ?_
  rotate_left
  · intro w hSw; go_simp; try with_reducible rfl
  change wpAnyH _ _ _ _ _ _ _ (Act.put _ (some 206) _) _
  simp only [Act.put, List.setIfInBounds_toArray, List.set_cons_zero, List.set_cons_succ]
  refine wpAnyH_ready (rs := [8]) (by kernel_rfl) (by simp) ?_
  refine AllReadyH.cons rfl (fun K hK => ?_) AllReadyH.nil
  go_simp
  go_at_call 241; refine (xLoad (hX0.ext (by (repeat (first | with_reducible exact Ext.refl _ | with_reducible assumption | refine Ext.trans ?_ (by with_reducible assumption) | refine Ext.alloc ?_ _ _ | refine Ext.drew ?_ | refine Ext.drewN ?_ _)))) _ hself _ _ (hk5.ext (by (repeat (first | with_reducible exact Ext.refl _ | with_reducible assumption | refine Ext.trans ?_ (by with_reducible assumption) | refine Ext.alloc ?_ _ _ | refine Ext.drew ?_ | refine Ext.drewN ?_ _))))).mono ?_; rintro e w6 ⟨r6, rfl, hr6, he⟩
  refine hK.out _ _ ?_ (fun hHeld => ?_)
  · first | exact HH.out.trans hmY | exact HH.out.trans he | exact HH.out
  clear hK K HH
  have HH : Hid (Ext W0 _) := hHeld
  clear hHeld
  refine wpAnyH_take (i := 9) (v := ?_) rfl (by kernel_rfl) (by kernel_rfl) (by kernel_rfl) (fun _ _ _ h => h) (Or.inl ⟨by rfl, ?_⟩) HH.out ?_
  rotate_left
  · intro w hSw; go_simp; try with_reducible rfl
  change wpAnyH _ _ _ _ _ _ _ (Act.put _ (some 8) _) _
  simp only [Act.put, List.setIfInBounds_toArray, List.set_cons_zero, List.set_cons_succ]
  refine wpAnyH_done (by kernel_rfl) ?_ _
  go_wp2
  go_ret
  exact ⟨_, rfl, NV.ext hr6 (by (repeat (first | with_reducible exact Ext.refl _ | with_reducible assumption | refine Ext.trans ?_ (by with_reducible assumption) | refine Ext.alloc ?_ _ _ | refine Ext.drew ?_ | refine Ext.drewN ?_ _))), c5, hX5.ext (by (repeat (first | with_reducible exact Ext.refl _ | with_reducible assumption | refine Ext.trans ?_ (by with_reducible assumption) | refine Ext.alloc ?_ _ _ | refine Ext.drew ?_ | refine Ext.drewN ?_ _))), Mod.trans_ext m5 (by (repeat (first | with_reducible exact Ext.refl _ | with_reducible assumption | refine Ext.trans ?_ (by with_reducible assumption) | refine Ext.alloc ?_ _ _ | refine Ext.drew ?_ | refine Ext.drewN ?_ _))), h54⟩
end
end Go.Proofs.YgvahwGreat
