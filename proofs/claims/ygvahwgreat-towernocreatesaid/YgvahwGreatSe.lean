import Derived.Test.YgvahwGreatSb
import Derived.Test.YgvahwGreatSc
import Derived.Test.YgvahwGreatSd
namespace Go.Proofs.YgvahwGreat
open Go.RowKit
set_option linter.unusedSimpArgs false
theorem enter_ops {o : Nat} (h : famA o = 16) (h2 : ¬ o = 255) : o = 240 ∨ o = 241 ∨ o = 242 ∨ o = 244 ∨ o = 245 ∨ o = 250 := by
  unfold famA at h
  repeat' split at h
  all_goals omega
section
variable {kk : Nat → Value} {O TM TL : Nat → Prop} {w : World} {Y F q n : Nat} {tF : TypeId} {c d : Nat → Value} {W : YW} {start : List (Nat × Nat × Nat)} {st : ASt} {f : AFrame}
set_option maxRecDepth 100000 in
set_option maxHeartbeats 6400000 in
theorem yBare49 (hX : YX kk O TM TL w Y F q n tF c d W start st f) : Calls Hvah.prog 232 #[.pointer (some ⟨Y, 0, none⟩), .pointer (some ⟨F, q, none⟩), .int .u8 49] w fun e w' => ∃ r, e = .returned r ∧ NV O w' r (st.bareCost f 49) ∧ Ext w w' := by
  have hO := hX.small
  have hok := hX.ok
  have hal : addrA (f.arg 0) < 2 ^ 160 := Nat.mod_lt _ (by decide)
  have hda : dl (st.now.access (addrA (f.arg 0))) ≤ 400 := Nat.le_trans (dl_access _ _) (by decide)
  go_enter Hvah.func232, Hvah.ntmps232
  go_wp2
  refine w_ext ?_
  rintro W0 hW0
  have hX0 := hX.ext (show Ext w W0 by (repeat (first | with_reducible exact Ext.refl _ | with_reducible assumption | refine Ext.trans ?_ (by with_reducible assumption) | refine Ext.alloc ?_ _ _ | refine Ext.drew ?_ | refine Ext.drewN ?_ _)))
  refine wp_region_held_drew (S := fun w' => Ext W0 w') (by kernel_rfl) (Ext.refl _).drew (fun hHeld => ?_)
  have HH : Hid (Ext W0 _) := hHeld
  clear hHeld
  refine wpAnyH_take (i := 0) (v := ?_) rfl (by kernel_rfl) (by kernel_rfl) (by kernel_rfl) (fun _ _ _ h => h) (Or.inl ⟨by rfl, ?_⟩) HH.out ?_
  rotate_left
  · intro w hSw; go_simp; try with_reducible rfl
  change wpAnyH _ _ _ _ _ _ _ (Act.put _ (some 115) _) _
  simp only [Act.put, List.setIfInBounds_toArray, List.set_cons_zero, List.set_cons_succ]
  refine wpAnyH_take (i := 1) (v := ?_) rfl (by kernel_rfl) (by kernel_rfl) (by kernel_rfl) (fun _ _ _ h => h) (Or.inl ⟨by rfl, ?_⟩) HH.out ?_
  rotate_left
  · intro w hSw; go_simp; try with_reducible rfl
  change wpAnyH _ _ _ _ _ _ _ (Act.put _ (some 116) _) _
  simp only [Act.put, List.setIfInBounds_toArray, List.set_cons_zero, List.set_cons_succ]
  refine wpAnyH_take (i := 2) (v := ?_) rfl (by kernel_rfl) (by kernel_rfl) (by kernel_rfl) (fun _ _ _ h => h) (Or.inl ⟨by rfl, ?_⟩) HH.out ?_
  rotate_left
  · intro w hSw; go_simp; try with_reducible rfl
  change wpAnyH _ _ _ _ _ _ _ (Act.put _ (some 117) _) _
  simp only [Act.put, List.setIfInBounds_toArray, List.set_cons_zero, List.set_cons_succ]
  refine wpAnyH_take (i := 3) (v := ?_) rfl (by kernel_rfl) (by kernel_rfl) (by kernel_rfl) (fun _ _ _ h => h) (Or.inl ⟨by rfl, ?_⟩) HH.out ?_
  rotate_left
  · intro w hSw; go_simp; try with_reducible rfl
  change wpAnyH _ _ _ _ _ _ _ (Act.put _ (some 118) _) _
  simp only [Act.put, List.setIfInBounds_toArray, List.set_cons_zero, List.set_cons_succ]
  refine wpAnyH_ready (rs := [4]) (by kernel_rfl) (by simp) ?_
  refine AllReadyH.cons rfl (fun K hK => ?_) AllReadyH.nil
  go_simp
  (go_at_call 73; refine (xArg (hX.ext (by (repeat (first | with_reducible exact Ext.refl _ | with_reducible assumption | refine Ext.trans ?_ (by with_reducible assumption) | refine Ext.alloc ?_ _ _ | refine Ext.drew ?_ | refine Ext.drewN ?_ _)))) _ (by decide)).mono ?_; rintro e w1 ⟨r, rfl, hr, he⟩)
  refine hK.out _ _ ?_ (fun hHeld => ?_)
  · first | exact HH.out.trans he | exact HH.out
  clear hK K HH
  have HH : Hid (Ext W0 _) := hHeld
  clear hHeld
  refine wpAnyH_ready (rs := [5]) (by kernel_rfl) (by simp) ?_
  refine AllReadyH.cons rfl (fun K hK => ?_) AllReadyH.nil
  go_simp
  (go_at_call 156; refine (yAddrOf (NV.ext (by with_reducible assumption) (by (repeat (first | with_reducible exact Ext.refl _ | with_reducible assumption | refine Ext.trans ?_ (by with_reducible assumption) | refine Ext.alloc ?_ _ _ | refine Ext.drew ?_ | refine Ext.drewN ?_ _))))).mono ?_; rintro e w1 ⟨rfl, he⟩)
  refine hK.out _ _ ?_ (fun hHeld => ?_)
  · first | exact HH.out.trans he | exact HH.out
  clear hK K HH
  have HH : Hid (Ext W0 _) := hHeld
  clear hHeld
  refine wpAnyH_ready (rs := [6]) (by kernel_rfl) (by simp) ?_
  refine AllReadyH.cons rfl (fun K hK => ?_) AllReadyH.nil
  go_simp
  (go_at_call 342; refine (xAccess (hX.ext (by (repeat (first | with_reducible exact Ext.refl _ | with_reducible assumption | refine Ext.trans ?_ (by with_reducible assumption) | refine Ext.alloc ?_ _ _ | refine Ext.drew ?_ | refine Ext.drewN ?_ _)))) _ (by first | exact hX.ok.self | exact hX.ok.caller | exact Nat.mod_lt _ (by decide) | assumption)).mono ?_; rintro e w1 ⟨r, rfl, hr, he⟩)
  refine hK.out _ _ ?_ (fun hHeld => ?_)
  · first | exact HH.out.trans he | exact HH.out
  clear hK K HH
  have HH : Hid (Ext W0 _) := hHeld
  clear hHeld
  refine wpAnyH_take (i := 7) (v := ?_) rfl (by kernel_rfl) (by kernel_rfl) (by kernel_rfl) (fun _ _ _ h => h) (Or.inl ⟨by rfl, ?_⟩) HH.out ?_
  rotate_left
  · intro w hSw; go_simp; try with_reducible rfl
  change wpAnyH _ _ _ _ _ _ _ (Act.put _ (some 6) _) _
  simp only [Act.put, List.setIfInBounds_toArray, List.set_cons_zero, List.set_cons_succ]
  refine wpAnyH_done (by kernel_rfl) ?_ _
  go_wp2
  go_ret
  refine ⟨_, rfl, NV.cast (NV.ext (by assumption) (by (repeat (first | with_reducible exact Ext.refl _ | with_reducible assumption | refine Ext.trans ?_ (by with_reducible assumption) | refine Ext.alloc ?_ _ _ | refine Ext.drew ?_ | refine Ext.drewN ?_ _)))) ?_, by (repeat (first | with_reducible exact Ext.refl _ | with_reducible assumption | refine Ext.trans ?_ (by with_reducible assumption) | refine Ext.alloc ?_ _ _ | refine Ext.drew ?_ | refine Ext.drewN ?_ _))⟩
  unfold ASt.bareCost
  repeat (first | rw [if_pos (by omega)] | rw [if_neg (by omega)])
set_option maxRecDepth 100000 in
set_option maxHeartbeats 6400000 in
theorem yBare59 (hX : YX kk O TM TL w Y F q n tF c d W start st f) : Calls Hvah.prog 232 #[.pointer (some ⟨Y, 0, none⟩), .pointer (some ⟨F, q, none⟩), .int .u8 59] w fun e w' => ∃ r, e = .returned r ∧ NV O w' r (st.bareCost f 59) ∧ Ext w w' := by
  have hO := hX.small
  have hok := hX.ok
  have hal : addrA (f.arg 0) < 2 ^ 160 := Nat.mod_lt _ (by decide)
  have hda : dl (st.now.access (addrA (f.arg 0))) ≤ 400 := Nat.le_trans (dl_access _ _) (by decide)
  go_enter Hvah.func232, Hvah.ntmps232
  go_wp2
  refine w_ext ?_
  rintro W0 hW0
  have hX0 := hX.ext (show Ext w W0 by (repeat (first | with_reducible exact Ext.refl _ | with_reducible assumption | refine Ext.trans ?_ (by with_reducible assumption) | refine Ext.alloc ?_ _ _ | refine Ext.drew ?_ | refine Ext.drewN ?_ _)))
  refine wp_region_held_drew (S := fun w' => Ext W0 w') (by kernel_rfl) (Ext.refl _).drew (fun hHeld => ?_)
  have HH : Hid (Ext W0 _) := hHeld
  clear hHeld
  refine wpAnyH_take (i := 0) (v := ?_) rfl (by kernel_rfl) (by kernel_rfl) (by kernel_rfl) (fun _ _ _ h => h) (Or.inl ⟨by rfl, ?_⟩) HH.out ?_
  rotate_left
  · intro w hSw; go_simp; try with_reducible rfl
  change wpAnyH _ _ _ _ _ _ _ (Act.put _ (some 115) _) _
  simp only [Act.put, List.setIfInBounds_toArray, List.set_cons_zero, List.set_cons_succ]
  refine wpAnyH_take (i := 1) (v := ?_) rfl (by kernel_rfl) (by kernel_rfl) (by kernel_rfl) (fun _ _ _ h => h) (Or.inl ⟨by rfl, ?_⟩) HH.out ?_
  rotate_left
  · intro w hSw; go_simp; try with_reducible rfl
  change wpAnyH _ _ _ _ _ _ _ (Act.put _ (some 116) _) _
  simp only [Act.put, List.setIfInBounds_toArray, List.set_cons_zero, List.set_cons_succ]
  refine wpAnyH_take (i := 2) (v := ?_) rfl (by kernel_rfl) (by kernel_rfl) (by kernel_rfl) (fun _ _ _ h => h) (Or.inl ⟨by rfl, ?_⟩) HH.out ?_
  rotate_left
  · intro w hSw; go_simp; try with_reducible rfl
  change wpAnyH _ _ _ _ _ _ _ (Act.put _ (some 117) _) _
  simp only [Act.put, List.setIfInBounds_toArray, List.set_cons_zero, List.set_cons_succ]
  refine wpAnyH_take (i := 3) (v := ?_) rfl (by kernel_rfl) (by kernel_rfl) (by kernel_rfl) (fun _ _ _ h => h) (Or.inl ⟨by rfl, ?_⟩) HH.out ?_
  rotate_left
  · intro w hSw; go_simp; try with_reducible rfl
  change wpAnyH _ _ _ _ _ _ _ (Act.put _ (some 118) _) _
  simp only [Act.put, List.setIfInBounds_toArray, List.set_cons_zero, List.set_cons_succ]
  refine wpAnyH_ready (rs := [4]) (by kernel_rfl) (by simp) ?_
  refine AllReadyH.cons rfl (fun K hK => ?_) AllReadyH.nil
  go_simp
  (go_at_call 73; refine (xArg (hX.ext (by (repeat (first | with_reducible exact Ext.refl _ | with_reducible assumption | refine Ext.trans ?_ (by with_reducible assumption) | refine Ext.alloc ?_ _ _ | refine Ext.drew ?_ | refine Ext.drewN ?_ _)))) _ (by decide)).mono ?_; rintro e w1 ⟨r, rfl, hr, he⟩)
  refine hK.out _ _ ?_ (fun hHeld => ?_)
  · first | exact HH.out.trans he | exact HH.out
  clear hK K HH
  have HH : Hid (Ext W0 _) := hHeld
  clear hHeld
  refine wpAnyH_ready (rs := [5]) (by kernel_rfl) (by simp) ?_
  refine AllReadyH.cons rfl (fun K hK => ?_) AllReadyH.nil
  go_simp
  (go_at_call 156; refine (yAddrOf (NV.ext (by with_reducible assumption) (by (repeat (first | with_reducible exact Ext.refl _ | with_reducible assumption | refine Ext.trans ?_ (by with_reducible assumption) | refine Ext.alloc ?_ _ _ | refine Ext.drew ?_ | refine Ext.drewN ?_ _))))).mono ?_; rintro e w1 ⟨rfl, he⟩)
  refine hK.out _ _ ?_ (fun hHeld => ?_)
  · first | exact HH.out.trans he | exact HH.out
  clear hK K HH
  have HH : Hid (Ext W0 _) := hHeld
  clear hHeld
  refine wpAnyH_ready (rs := [6]) (by kernel_rfl) (by simp) ?_
  refine AllReadyH.cons rfl (fun K hK => ?_) AllReadyH.nil
  go_simp
  (go_at_call 342; refine (xAccess (hX.ext (by (repeat (first | with_reducible exact Ext.refl _ | with_reducible assumption | refine Ext.trans ?_ (by with_reducible assumption) | refine Ext.alloc ?_ _ _ | refine Ext.drew ?_ | refine Ext.drewN ?_ _)))) _ (by first | exact hX.ok.self | exact hX.ok.caller | exact Nat.mod_lt _ (by decide) | assumption)).mono ?_; rintro e w1 ⟨r, rfl, hr, he⟩)
  refine hK.out _ _ ?_ (fun hHeld => ?_)
  · first | exact HH.out.trans he | exact HH.out
  clear hK K HH
  have HH : Hid (Ext W0 _) := hHeld
  clear hHeld
  refine wpAnyH_take (i := 7) (v := ?_) rfl (by kernel_rfl) (by kernel_rfl) (by kernel_rfl) (fun _ _ _ h => h) (Or.inl ⟨by rfl, ?_⟩) HH.out ?_
  rotate_left
  · intro w hSw; go_simp; try with_reducible rfl
  change wpAnyH _ _ _ _ _ _ _ (Act.put _ (some 6) _) _
  simp only [Act.put, List.setIfInBounds_toArray, List.set_cons_zero, List.set_cons_succ]
  refine wpAnyH_done (by kernel_rfl) ?_ _
  go_wp2
  go_ret
  refine ⟨_, rfl, NV.cast (NV.ext (by assumption) (by (repeat (first | with_reducible exact Ext.refl _ | with_reducible assumption | refine Ext.trans ?_ (by with_reducible assumption) | refine Ext.alloc ?_ _ _ | refine Ext.drew ?_ | refine Ext.drewN ?_ _)))) ?_, by (repeat (first | with_reducible exact Ext.refl _ | with_reducible assumption | refine Ext.trans ?_ (by with_reducible assumption) | refine Ext.alloc ?_ _ _ | refine Ext.drew ?_ | refine Ext.drewN ?_ _))⟩
  unfold ASt.bareCost
  repeat (first | rw [if_pos (by omega)] | rw [if_neg (by omega)])
set_option maxRecDepth 100000 in
set_option maxHeartbeats 6400000 in
theorem yBare63 (hX : YX kk O TM TL w Y F q n tF c d W start st f) : Calls Hvah.prog 232 #[.pointer (some ⟨Y, 0, none⟩), .pointer (some ⟨F, q, none⟩), .int .u8 63] w fun e w' => ∃ r, e = .returned r ∧ NV O w' r (st.bareCost f 63) ∧ Ext w w' := by
  have hO := hX.small
  have hok := hX.ok
  have hal : addrA (f.arg 0) < 2 ^ 160 := Nat.mod_lt _ (by decide)
  have hda : dl (st.now.access (addrA (f.arg 0))) ≤ 400 := Nat.le_trans (dl_access _ _) (by decide)
  go_enter Hvah.func232, Hvah.ntmps232
  go_wp2
  refine w_ext ?_
  rintro W0 hW0
  have hX0 := hX.ext (show Ext w W0 by (repeat (first | with_reducible exact Ext.refl _ | with_reducible assumption | refine Ext.trans ?_ (by with_reducible assumption) | refine Ext.alloc ?_ _ _ | refine Ext.drew ?_ | refine Ext.drewN ?_ _)))
  refine wp_region_held_drew (S := fun w' => Ext W0 w') (by kernel_rfl) (Ext.refl _).drew (fun hHeld => ?_)
  have HH : Hid (Ext W0 _) := hHeld
  clear hHeld
  refine wpAnyH_take (i := 0) (v := ?_) rfl (by kernel_rfl) (by kernel_rfl) (by kernel_rfl) (fun _ _ _ h => h) (Or.inl ⟨by rfl, ?_⟩) HH.out ?_
  rotate_left
  · intro w hSw; go_simp; try with_reducible rfl
  change wpAnyH _ _ _ _ _ _ _ (Act.put _ (some 115) _) _
  simp only [Act.put, List.setIfInBounds_toArray, List.set_cons_zero, List.set_cons_succ]
  refine wpAnyH_take (i := 1) (v := ?_) rfl (by kernel_rfl) (by kernel_rfl) (by kernel_rfl) (fun _ _ _ h => h) (Or.inl ⟨by rfl, ?_⟩) HH.out ?_
  rotate_left
  · intro w hSw; go_simp; try with_reducible rfl
  change wpAnyH _ _ _ _ _ _ _ (Act.put _ (some 116) _) _
  simp only [Act.put, List.setIfInBounds_toArray, List.set_cons_zero, List.set_cons_succ]
  refine wpAnyH_take (i := 2) (v := ?_) rfl (by kernel_rfl) (by kernel_rfl) (by kernel_rfl) (fun _ _ _ h => h) (Or.inl ⟨by rfl, ?_⟩) HH.out ?_
  rotate_left
  · intro w hSw; go_simp; try with_reducible rfl
  change wpAnyH _ _ _ _ _ _ _ (Act.put _ (some 117) _) _
  simp only [Act.put, List.setIfInBounds_toArray, List.set_cons_zero, List.set_cons_succ]
  refine wpAnyH_take (i := 3) (v := ?_) rfl (by kernel_rfl) (by kernel_rfl) (by kernel_rfl) (fun _ _ _ h => h) (Or.inl ⟨by rfl, ?_⟩) HH.out ?_
  rotate_left
  · intro w hSw; go_simp; try with_reducible rfl
  change wpAnyH _ _ _ _ _ _ _ (Act.put _ (some 118) _) _
  simp only [Act.put, List.setIfInBounds_toArray, List.set_cons_zero, List.set_cons_succ]
  refine wpAnyH_ready (rs := [4]) (by kernel_rfl) (by simp) ?_
  refine AllReadyH.cons rfl (fun K hK => ?_) AllReadyH.nil
  go_simp
  (go_at_call 73; refine (xArg (hX.ext (by (repeat (first | with_reducible exact Ext.refl _ | with_reducible assumption | refine Ext.trans ?_ (by with_reducible assumption) | refine Ext.alloc ?_ _ _ | refine Ext.drew ?_ | refine Ext.drewN ?_ _)))) _ (by decide)).mono ?_; rintro e w1 ⟨r, rfl, hr, he⟩)
  refine hK.out _ _ ?_ (fun hHeld => ?_)
  · first | exact HH.out.trans he | exact HH.out
  clear hK K HH
  have HH : Hid (Ext W0 _) := hHeld
  clear hHeld
  refine wpAnyH_ready (rs := [5]) (by kernel_rfl) (by simp) ?_
  refine AllReadyH.cons rfl (fun K hK => ?_) AllReadyH.nil
  go_simp
  (go_at_call 156; refine (yAddrOf (NV.ext (by with_reducible assumption) (by (repeat (first | with_reducible exact Ext.refl _ | with_reducible assumption | refine Ext.trans ?_ (by with_reducible assumption) | refine Ext.alloc ?_ _ _ | refine Ext.drew ?_ | refine Ext.drewN ?_ _))))).mono ?_; rintro e w1 ⟨rfl, he⟩)
  refine hK.out _ _ ?_ (fun hHeld => ?_)
  · first | exact HH.out.trans he | exact HH.out
  clear hK K HH
  have HH : Hid (Ext W0 _) := hHeld
  clear hHeld
  refine wpAnyH_ready (rs := [6]) (by kernel_rfl) (by simp) ?_
  refine AllReadyH.cons rfl (fun K hK => ?_) AllReadyH.nil
  go_simp
  (go_at_call 342; refine (xAccess (hX.ext (by (repeat (first | with_reducible exact Ext.refl _ | with_reducible assumption | refine Ext.trans ?_ (by with_reducible assumption) | refine Ext.alloc ?_ _ _ | refine Ext.drew ?_ | refine Ext.drewN ?_ _)))) _ (by first | exact hX.ok.self | exact hX.ok.caller | exact Nat.mod_lt _ (by decide) | assumption)).mono ?_; rintro e w1 ⟨r, rfl, hr, he⟩)
  refine hK.out _ _ ?_ (fun hHeld => ?_)
  · first | exact HH.out.trans he | exact HH.out
  clear hK K HH
  have HH : Hid (Ext W0 _) := hHeld
  clear hHeld
  refine wpAnyH_take (i := 7) (v := ?_) rfl (by kernel_rfl) (by kernel_rfl) (by kernel_rfl) (fun _ _ _ h => h) (Or.inl ⟨by rfl, ?_⟩) HH.out ?_
  rotate_left
  · intro w hSw; go_simp; try with_reducible rfl
  change wpAnyH _ _ _ _ _ _ _ (Act.put _ (some 6) _) _
  simp only [Act.put, List.setIfInBounds_toArray, List.set_cons_zero, List.set_cons_succ]
  refine wpAnyH_done (by kernel_rfl) ?_ _
  go_wp2
  go_ret
  refine ⟨_, rfl, NV.cast (NV.ext (by assumption) (by (repeat (first | with_reducible exact Ext.refl _ | with_reducible assumption | refine Ext.trans ?_ (by with_reducible assumption) | refine Ext.alloc ?_ _ _ | refine Ext.drew ?_ | refine Ext.drewN ?_ _)))) ?_, by (repeat (first | with_reducible exact Ext.refl _ | with_reducible assumption | refine Ext.trans ?_ (by with_reducible assumption) | refine Ext.alloc ?_ _ _ | refine Ext.drew ?_ | refine Ext.drewN ?_ _))⟩
  unfold ASt.bareCost
  repeat (first | rw [if_pos (by omega)] | rw [if_neg (by omega)])
set_option maxRecDepth 100000 in
set_option maxHeartbeats 6400000 in
theorem yBare60 (hX : YX kk O TM TL w Y F q n tF c d W start st f) : Calls Hvah.prog 232 #[.pointer (some ⟨Y, 0, none⟩), .pointer (some ⟨F, q, none⟩), .int .u8 60] w fun e w' => ∃ r, e = .returned r ∧ NV O w' r (st.bareCost f 60) ∧ Ext w w' := by
  have hO := hX.small
  have hok := hX.ok
  have hal : addrA (f.arg 0) < 2 ^ 160 := Nat.mod_lt _ (by decide)
  have hda : dl (st.now.access (addrA (f.arg 0))) ≤ 400 := Nat.le_trans (dl_access _ _) (by decide)
  go_enter Hvah.func232, Hvah.ntmps232
  go_wp2
  refine w_ext ?_
  rintro W0 hW0
  have hX0 := hX.ext (show Ext w W0 by (repeat (first | with_reducible exact Ext.refl _ | with_reducible assumption | refine Ext.trans ?_ (by with_reducible assumption) | refine Ext.alloc ?_ _ _ | refine Ext.drew ?_ | refine Ext.drewN ?_ _)))
  refine wp_region_held_drew (S := fun w' => Ext W0 w') (by kernel_rfl) (Ext.refl _).drew (fun hHeld => ?_)
  have HH : Hid (Ext W0 _) := hHeld
  clear hHeld
  refine wpAnyH_take (i := 0) (v := ?_) rfl (by kernel_rfl) (by kernel_rfl) (by kernel_rfl) (fun _ _ _ h => h) (Or.inl ⟨by rfl, ?_⟩) HH.out ?_
  rotate_left
  · intro w hSw; go_simp; try with_reducible rfl
  change wpAnyH _ _ _ _ _ _ _ (Act.put _ (some 125) _) _
  simp only [Act.put, List.setIfInBounds_toArray, List.set_cons_zero, List.set_cons_succ]
  refine wpAnyH_take (i := 1) (v := ?_) rfl (by kernel_rfl) (by kernel_rfl) (by kernel_rfl) (fun _ _ _ h => h) (Or.inl ⟨by rfl, ?_⟩) HH.out ?_
  rotate_left
  · intro w hSw; go_simp; try with_reducible rfl
  change wpAnyH _ _ _ _ _ _ _ (Act.put _ (some 126) _) _
  simp only [Act.put, List.setIfInBounds_toArray, List.set_cons_zero, List.set_cons_succ]
  refine wpAnyH_take (i := 2) (v := ?_) rfl (by kernel_rfl) (by kernel_rfl) (by kernel_rfl) (fun _ _ _ h => h) (Or.inl ⟨by rfl, ?_⟩) HH.out ?_
  rotate_left
  · intro w hSw; go_simp; try with_reducible rfl
  change wpAnyH _ _ _ _ _ _ _ (Act.put _ (some 127) _) _
  simp only [Act.put, List.setIfInBounds_toArray, List.set_cons_zero, List.set_cons_succ]
  refine wpAnyH_take (i := 3) (v := ?_) rfl (by kernel_rfl) (by kernel_rfl) (by kernel_rfl) (fun _ _ _ h => h) (Or.inl ⟨by rfl, ?_⟩) HH.out ?_
  rotate_left
  · intro w hSw; go_simp; try with_reducible rfl
  change wpAnyH _ _ _ _ _ _ _ (Act.put _ (some 128) _) _
  simp only [Act.put, List.setIfInBounds_toArray, List.set_cons_zero, List.set_cons_succ]
  refine wpAnyH_take (i := 7) (v := ?_) rfl (by kernel_rfl) (by kernel_rfl) (by kernel_rfl) (fun _ _ _ h => h) (Or.inl ⟨by rfl, ?_⟩) HH.out ?_
  rotate_left
  · intro w hSw; go_simp; try with_reducible rfl
  change wpAnyH _ _ _ _ _ _ _ (Act.put _ (some 132) _) _
  simp only [Act.put, List.setIfInBounds_toArray, List.set_cons_zero, List.set_cons_succ]
  refine wpAnyH_ready (rs := [4]) (by kernel_rfl) (by simp) ?_
  refine AllReadyH.cons rfl (fun K hK => ?_) AllReadyH.nil
  go_simp
  (go_at_call 73; refine (xArg (hX.ext (by (repeat (first | with_reducible exact Ext.refl _ | with_reducible assumption | refine Ext.trans ?_ (by with_reducible assumption) | refine Ext.alloc ?_ _ _ | refine Ext.drew ?_ | refine Ext.drewN ?_ _)))) _ (by decide)).mono ?_; rintro e w1 ⟨r, rfl, hr, he⟩)
  refine hK.out _ _ ?_ (fun hHeld => ?_)
  · first | exact HH.out.trans he | exact HH.out
  clear hK K HH
  have HH : Hid (Ext W0 _) := hHeld
  clear hHeld
  refine wpAnyH_ready (rs := [5]) (by kernel_rfl) (by simp) ?_
  refine AllReadyH.cons rfl (fun K hK => ?_) AllReadyH.nil
  go_simp
  (go_at_call 156; refine (yAddrOf (NV.ext (by with_reducible assumption) (by (repeat (first | with_reducible exact Ext.refl _ | with_reducible assumption | refine Ext.trans ?_ (by with_reducible assumption) | refine Ext.alloc ?_ _ _ | refine Ext.drew ?_ | refine Ext.drewN ?_ _))))).mono ?_; rintro e w1 ⟨rfl, he⟩)
  refine hK.out _ _ ?_ (fun hHeld => ?_)
  · first | exact HH.out.trans he | exact HH.out
  clear hK K HH
  have HH : Hid (Ext W0 _) := hHeld
  clear hHeld
  refine wpAnyH_ready (rs := [6]) (by kernel_rfl) (by simp) ?_
  refine AllReadyH.cons rfl (fun K hK => ?_) AllReadyH.nil
  go_simp
  (go_at_call 342; refine (xAccess (hX.ext (by (repeat (first | with_reducible exact Ext.refl _ | with_reducible assumption | refine Ext.trans ?_ (by with_reducible assumption) | refine Ext.alloc ?_ _ _ | refine Ext.drew ?_ | refine Ext.drewN ?_ _)))) _ (by first | exact hX.ok.self | exact hX.ok.caller | exact Nat.mod_lt _ (by decide) | assumption)).mono ?_; rintro e w1 ⟨r, rfl, hr, he⟩)
  refine hK.out _ _ ?_ (fun hHeld => ?_)
  · first | exact HH.out.trans he | exact HH.out
  clear hK K HH
  have HH : Hid (Ext W0 _) := hHeld
  clear hHeld
  refine wpAnyH_ready (rs := [8]) (by kernel_rfl) (by simp) ?_
  refine AllReadyH.cons rfl (fun K hK => ?_) AllReadyH.nil
  go_simp
  (go_at_call 73; refine (xArg (hX.ext (by (repeat (first | with_reducible exact Ext.refl _ | with_reducible assumption | refine Ext.trans ?_ (by with_reducible assumption) | refine Ext.alloc ?_ _ _ | refine Ext.drew ?_ | refine Ext.drewN ?_ _)))) _ (by decide)).mono ?_; rintro e w1 ⟨r, rfl, hr, he⟩)
  refine hK.out _ _ ?_ (fun hHeld => ?_)
  · first | exact HH.out.trans he | exact HH.out
  clear hK K HH
  have HH : Hid (Ext W0 _) := hHeld
  clear hHeld
  refine wpAnyH_ready (rs := [9]) (by kernel_rfl) (by simp) ?_
  refine AllReadyH.cons rfl (fun K hK => ?_) AllReadyH.nil
  go_simp
  (go_at_call 341; refine (yCopyCost O _ _ _ (hO.ext (by (repeat (first | with_reducible exact Ext.refl _ | with_reducible assumption | refine Ext.trans ?_ (by with_reducible assumption) | refine Ext.alloc ?_ _ _ | refine Ext.drew ?_ | refine Ext.drewN ?_ _)))) (NV.ext (by with_reducible assumption) (by (repeat (first | with_reducible exact Ext.refl _ | with_reducible assumption | refine Ext.trans ?_ (by with_reducible assumption) | refine Ext.alloc ?_ _ _ | refine Ext.drew ?_ | refine Ext.drewN ?_ _)))) (by repeat (first | with_reducible assumption | exact Nat.le_trans (by with_reducible assumption) (by decide) | exact Nat.le_trans (hok.adl _) (by decide) | exact Nat.le_trans (dl_u64 _ (by first | decide | omega)) (by decide) | refine dl_end' ?_ ?_ | refine dl_max' ?_ ?_ | refine dl_add' ?_ ?_ | refine dl_words' ?_ | refine dl_mul' ?_ ?_ | decide))).mono ?_; rintro e w1 ⟨r, rfl, hr, he⟩)
  refine hK.out _ _ ?_ (fun hHeld => ?_)
  · first | exact HH.out.trans he | exact HH.out
  clear hK K HH
  have HH : Hid (Ext W0 _) := hHeld
  clear hHeld
  refine wpAnyH_ready (rs := [10]) (by kernel_rfl) (by simp) ?_
  refine AllReadyH.cons rfl (fun K hK => ?_) AllReadyH.nil
  go_simp
  (go_at_call 44; refine (nAdd O _ _ _ _ _ (hO.ext (by (repeat (first | with_reducible exact Ext.refl _ | with_reducible assumption | refine Ext.trans ?_ (by with_reducible assumption) | refine Ext.alloc ?_ _ _ | refine Ext.drew ?_ | refine Ext.drewN ?_ _)))) (by first | exact (NV.ext (by with_reducible assumption) (by (repeat (first | with_reducible exact Ext.refl _ | with_reducible assumption | refine Ext.trans ?_ (by with_reducible assumption) | refine Ext.alloc ?_ _ _ | refine Ext.drew ?_ | refine Ext.drewN ?_ _)))) | exact NV.nil) (by first | exact (NV.ext (by with_reducible assumption) (by (repeat (first | with_reducible exact Ext.refl _ | with_reducible assumption | refine Ext.trans ?_ (by with_reducible assumption) | refine Ext.alloc ?_ _ _ | refine Ext.drew ?_ | refine Ext.drewN ?_ _)))) | exact NV.nil) (by repeat (first | with_reducible assumption | exact Nat.le_trans (by with_reducible assumption) (by decide) | exact Nat.le_trans (hok.adl _) (by decide) | exact Nat.le_trans (dl_u64 _ (by first | decide | omega)) (by decide) | refine dl_end' ?_ ?_ | refine dl_max' ?_ ?_ | refine dl_add' ?_ ?_ | refine dl_words' ?_ | refine dl_mul' ?_ ?_ | decide)) (by repeat (first | with_reducible assumption | exact Nat.le_trans (by with_reducible assumption) (by decide) | exact Nat.le_trans (hok.adl _) (by decide) | exact Nat.le_trans (dl_u64 _ (by first | decide | omega)) (by decide) | refine dl_end' ?_ ?_ | refine dl_max' ?_ ?_ | refine dl_add' ?_ ?_ | refine dl_words' ?_ | refine dl_mul' ?_ ?_ | decide))).mono ?_; rintro e w1 ⟨r, rfl, hr, he⟩)
  refine hK.out _ _ ?_ (fun hHeld => ?_)
  · first | exact HH.out.trans he | exact HH.out
  clear hK K HH
  have HH : Hid (Ext W0 _) := hHeld
  clear hHeld
  refine wpAnyH_take (i := 11) (v := ?_) rfl (by kernel_rfl) (by kernel_rfl) (by kernel_rfl) (fun _ _ _ h => h) (Or.inl ⟨by rfl, ?_⟩) HH.out ?_
  rotate_left
  · intro w hSw; go_simp; try with_reducible rfl
  change wpAnyH _ _ _ _ _ _ _ (Act.put _ (some 6) _) _
  simp only [Act.put, List.setIfInBounds_toArray, List.set_cons_zero, List.set_cons_succ]
  refine wpAnyH_done (by kernel_rfl) ?_ _
  go_wp2
  go_ret
  refine ⟨_, rfl, NV.cast (NV.ext (by assumption) (by (repeat (first | with_reducible exact Ext.refl _ | with_reducible assumption | refine Ext.trans ?_ (by with_reducible assumption) | refine Ext.alloc ?_ _ _ | refine Ext.drew ?_ | refine Ext.drewN ?_ _)))) ?_, by (repeat (first | with_reducible exact Ext.refl _ | with_reducible assumption | refine Ext.trans ?_ (by with_reducible assumption) | refine Ext.alloc ?_ _ _ | refine Ext.drew ?_ | refine Ext.drewN ?_ _))⟩
  unfold ASt.bareCost copyCostA wordsA
  repeat (first | rw [if_pos (by omega)] | rw [if_neg (by omega)])
set_option maxRecDepth 100000 in
set_option maxHeartbeats 6400000 in
theorem yBare84 (hX : YX kk O TM TL w Y F q n tF c d W start st f) : Calls Hvah.prog 232 #[.pointer (some ⟨Y, 0, none⟩), .pointer (some ⟨F, q, none⟩), .int .u8 84] w fun e w' => ∃ r, e = .returned r ∧ NV O w' r (st.bareCost f 84) ∧ Ext w w' := by
  have hO := hX.small
  have hok := hX.ok
  have hal : addrA (f.arg 0) < 2 ^ 160 := Nat.mod_lt _ (by decide)
  have hda : dl (st.now.access (addrA (f.arg 0))) ≤ 400 := Nat.le_trans (dl_access _ _) (by decide)
  go_enter Hvah.func232, Hvah.ntmps232
  go_wp2
  refine w_ext ?_
  rintro W0 hW0
  have hX0 := hX.ext (show Ext w W0 by (repeat (first | with_reducible exact Ext.refl _ | with_reducible assumption | refine Ext.trans ?_ (by with_reducible assumption) | refine Ext.alloc ?_ _ _ | refine Ext.drew ?_ | refine Ext.drewN ?_ _)))
  refine wp_region_held_drew (S := fun w' => Ext W0 w') (by kernel_rfl) (Ext.refl _).drew (fun hHeld => ?_)
  have HH : Hid (Ext W0 _) := hHeld
  clear hHeld
  refine wpAnyH_take (i := 0) (v := ?_) rfl (by kernel_rfl) (by kernel_rfl) (by kernel_rfl) (fun _ _ _ h => h) (Or.inl ⟨by rfl, ?_⟩) HH.out ?_
  rotate_left
  · intro w hSw; go_simp; try with_reducible rfl
  change wpAnyH _ _ _ _ _ _ _ (Act.put _ (some 157) _) _
  simp only [Act.put, List.setIfInBounds_toArray, List.set_cons_zero, List.set_cons_succ]
  refine wpAnyH_take (i := 1) (v := ?_) rfl (by kernel_rfl) (by kernel_rfl) (by kernel_rfl) (fun _ _ _ h => h) (Or.inl ⟨by rfl, ?_⟩) HH.out ?_
  rotate_left
  · intro w hSw; go_simp; try with_reducible rfl
  change wpAnyH _ _ _ _ _ _ _ (Act.put _ (some 158) _) _
  simp only [Act.put, List.setIfInBounds_toArray, List.set_cons_zero, List.set_cons_succ]
  refine wpAnyH_take (i := 2) (v := ?_) rfl (by kernel_rfl) (by kernel_rfl) (by kernel_rfl) (fun _ _ _ h => h) (Or.inl ⟨by rfl, ?_⟩) HH.out ?_
  rotate_left
  · intro w hSw; go_simp; try with_reducible rfl
  change wpAnyH _ _ _ _ _ _ _ (Act.put _ (some 159) _) _
  simp only [Act.put, List.setIfInBounds_toArray, List.set_cons_zero, List.set_cons_succ]
  refine wpAnyH_take (i := 3) (v := ?_) rfl (by kernel_rfl) (by kernel_rfl) (by kernel_rfl) (fun _ _ _ h => h) (Or.inl ⟨by rfl, ?_⟩) HH.out ?_
  rotate_left
  · intro w hSw; go_simp; try with_reducible rfl
  change wpAnyH _ _ _ _ _ _ _ (Act.put _ (some 160) _) _
  simp only [Act.put, List.setIfInBounds_toArray, List.set_cons_zero, List.set_cons_succ]
  refine wpAnyH_take (i := 4) (v := ?_) rfl (by kernel_rfl) (by kernel_rfl) (by kernel_rfl) (fun _ _ _ h => h) (Or.inl ⟨by rfl, ?_⟩) HH.out ?_
  rotate_left
  · intro w hSw; go_simp; try with_reducible rfl
  change wpAnyH _ _ _ _ _ _ _ (Act.put _ (some 161) _) _
  simp only [Act.put, List.setIfInBounds_toArray, List.set_cons_zero, List.set_cons_succ]
  refine wpAnyH_take (i := 5) (v := ?_) rfl (by kernel_rfl) (by kernel_rfl) (by kernel_rfl) (fun _ _ _ h => h) (Or.inl ⟨by rfl, ?_⟩) HH.out ?_
  rotate_left
  · intro w hSw; go_simp; try with_reducible rfl
  change wpAnyH _ _ _ _ _ _ _ (Act.put _ (some 162) _) _
  simp only [Act.put, List.setIfInBounds_toArray, List.set_cons_zero, List.set_cons_succ]
  refine wpAnyH_take (i := 6) rfl (by kernel_rfl) (by kernel_rfl) (by kernel_rfl) (fun _ _ _ h => h) (yieldsIf_load_mid (by rfl) _ _ rfl _ _ rfl _ _ (fun w hSw => rng_av hX0.fc.self hX0.ok.self (hX0.bF.ext hSw) (by have := hX0.hq; omega)) under25 rfl (sz_av hX0.ok.self)) HH.out ?_
  change wpAnyH _ _ _ _ _ _ _ (Act.put _ (some 163) _) _
  simp only [Act.put, List.setIfInBounds_toArray, List.set_cons_zero, List.set_cons_succ]
  refine wpAnyH_take (i := 7) (v := ?_) rfl (by kernel_rfl) (by kernel_rfl) (by kernel_rfl) (fun _ _ _ h => h) (Or.inl ⟨by rfl, ?_⟩) HH.out ?_
  rotate_left
  · intro w hSw; go_simp; try with_reducible rfl
  change wpAnyH _ _ _ _ _ _ _ (Act.put _ (some 164) _) _
  simp only [Act.put, List.setIfInBounds_toArray, List.set_cons_zero, List.set_cons_succ]
  refine wpAnyH_ready (rs := [8]) (by kernel_rfl) (by simp) ?_
  refine AllReadyH.cons rfl (fun K hK => ?_) AllReadyH.nil
  go_simp
  (go_at_call 73; refine (xArg (hX.ext (by (repeat (first | with_reducible exact Ext.refl _ | with_reducible assumption | refine Ext.trans ?_ (by with_reducible assumption) | refine Ext.alloc ?_ _ _ | refine Ext.drew ?_ | refine Ext.drewN ?_ _)))) _ (by decide)).mono ?_; rintro e w1 ⟨r, rfl, hr, he⟩)
  refine hK.out _ _ ?_ (fun hHeld => ?_)
  · first | exact HH.out.trans he | exact HH.out
  clear hK K HH
  have HH : Hid (Ext W0 _) := hHeld
  clear hHeld
  refine wpAnyH_ready (rs := [9]) (by kernel_rfl) (by simp) ?_
  refine AllReadyH.cons rfl (fun K hK => ?_) AllReadyH.nil
  go_simp
  (go_at_call 138; refine (xWarmSlot (hX.ext (by (repeat (first | with_reducible exact Ext.refl _ | with_reducible assumption | refine Ext.trans ?_ (by with_reducible assumption) | refine Ext.alloc ?_ _ _ | refine Ext.drew ?_ | refine Ext.drewN ?_ _)))) _ (by first | exact hX.ok.self | exact hX.ok.caller | exact Nat.mod_lt _ (by decide) | assumption) _ _ (NV.ext (by with_reducible assumption) (by (repeat (first | with_reducible exact Ext.refl _ | with_reducible assumption | refine Ext.trans ?_ (by with_reducible assumption) | refine Ext.alloc ?_ _ _ | refine Ext.drew ?_ | refine Ext.drewN ?_ _))))).mono ?_; rintro e w1 ⟨rfl, he⟩)
  refine hK.out _ _ ?_ (fun hHeld => ?_)
  · first | exact HH.out.trans he | exact HH.out
  clear hK K HH
  have HH : Hid (Ext W0 _) := hHeld
  clear hHeld
  refine wpAnyH_done (by kernel_rfl) ?_ _
  go_wp2_with (first
    | (go_at_call 42; refine (nNum O _ _ (hO.ext (by (repeat (first | with_reducible exact Ext.refl _ | with_reducible assumption | refine Ext.trans ?_ (by with_reducible assumption) | refine Ext.alloc ?_ _ _ | refine Ext.drew ?_ | refine Ext.drewN ?_ _)))) (by first | decide | omega)).mono ?_; rintro e w1 ⟨r, rfl, hr, he⟩))
  all_goals go_ret
  all_goals refine ⟨_, rfl, NV.cast (NV.ext (by assumption) (by (repeat (first | with_reducible exact Ext.refl _ | with_reducible assumption | refine Ext.trans ?_ (by with_reducible assumption) | refine Ext.alloc ?_ _ _ | refine Ext.drew ?_ | refine Ext.drewN ?_ _)))) ?_, by (repeat (first | with_reducible exact Ext.refl _ | with_reducible assumption | refine Ext.trans ?_ (by with_reducible assumption) | refine Ext.alloc ?_ _ _ | refine Ext.drew ?_ | refine Ext.drewN ?_ _))⟩
  all_goals unfold ASt.bareCost
  · rw [(by assumption : st.now.warmS f.self (f.arg 0) = true)]; simp
  · rw [(by assumption : st.now.warmS f.self (f.arg 0) = false)]; simp
set_option maxRecDepth 100000 in
set_option maxHeartbeats 6400000 in
theorem yBare160 (hX : YX kk O TM TL w Y F q n tF c d W start st f) : Calls Hvah.prog 232 #[.pointer (some ⟨Y, 0, none⟩), .pointer (some ⟨F, q, none⟩), .int .u8 160] w fun e w' => ∃ r, e = .returned r ∧ NV O w' r (st.bareCost f 160) ∧ Ext w w' := by
  have hO := hX.small
  have hok := hX.ok
  have hal : addrA (f.arg 0) < 2 ^ 160 := Nat.mod_lt _ (by decide)
  have hda : dl (st.now.access (addrA (f.arg 0))) ≤ 400 := Nat.le_trans (dl_access _ _) (by decide)
  go_enter Hvah.func232, Hvah.ntmps232
  go_wp2_with (first
    | (go_at_call 42; refine (nNum O _ _ (hO.ext (by (repeat (first | with_reducible exact Ext.refl _ | with_reducible assumption | refine Ext.trans ?_ (by with_reducible assumption) | refine Ext.alloc ?_ _ _ | refine Ext.drew ?_ | refine Ext.drewN ?_ _)))) (by first | decide | omega)).mono ?_; rintro e w1 ⟨r, rfl, hr, he⟩)
    | (go_at_call 73; refine (xArg (hX.ext (by (repeat (first | with_reducible exact Ext.refl _ | with_reducible assumption | refine Ext.trans ?_ (by with_reducible assumption) | refine Ext.alloc ?_ _ _ | refine Ext.drew ?_ | refine Ext.drewN ?_ _)))) _ (by decide)).mono ?_; rintro e w1 ⟨r, rfl, hr, he⟩)
    | (go_at_call 60; refine (nMul O _ _ _ _ _ (hO.ext (by (repeat (first | with_reducible exact Ext.refl _ | with_reducible assumption | refine Ext.trans ?_ (by with_reducible assumption) | refine Ext.alloc ?_ _ _ | refine Ext.drew ?_ | refine Ext.drewN ?_ _)))) (by first | exact (NV.ext (by with_reducible assumption) (by (repeat (first | with_reducible exact Ext.refl _ | with_reducible assumption | refine Ext.trans ?_ (by with_reducible assumption) | refine Ext.alloc ?_ _ _ | refine Ext.drew ?_ | refine Ext.drewN ?_ _)))) | exact NV.nil) (by first | exact (NV.ext (by with_reducible assumption) (by (repeat (first | with_reducible exact Ext.refl _ | with_reducible assumption | refine Ext.trans ?_ (by with_reducible assumption) | refine Ext.alloc ?_ _ _ | refine Ext.drew ?_ | refine Ext.drewN ?_ _)))) | exact NV.nil) (by repeat (first | with_reducible assumption | exact Nat.le_trans (by with_reducible assumption) (by decide) | exact Nat.le_trans (hok.adl _) (by decide) | exact Nat.le_trans (dl_u64 _ (by first | decide | omega)) (by decide) | refine dl_end' ?_ ?_ | refine dl_max' ?_ ?_ | refine dl_add' ?_ ?_ | refine dl_words' ?_ | refine dl_mul' ?_ ?_ | decide)) (by repeat (first | with_reducible assumption | exact Nat.le_trans (by with_reducible assumption) (by decide) | exact Nat.le_trans (hok.adl _) (by decide) | exact Nat.le_trans (dl_u64 _ (by first | decide | omega)) (by decide) | refine dl_end' ?_ ?_ | refine dl_max' ?_ ?_ | refine dl_add' ?_ ?_ | refine dl_words' ?_ | refine dl_mul' ?_ ?_ | decide))).mono ?_; rintro e w1 ⟨r, rfl, hr, he⟩)
    | (go_at_call 44; refine (nAdd O _ _ _ _ _ (hO.ext (by (repeat (first | with_reducible exact Ext.refl _ | with_reducible assumption | refine Ext.trans ?_ (by with_reducible assumption) | refine Ext.alloc ?_ _ _ | refine Ext.drew ?_ | refine Ext.drewN ?_ _)))) (by first | exact (NV.ext (by with_reducible assumption) (by (repeat (first | with_reducible exact Ext.refl _ | with_reducible assumption | refine Ext.trans ?_ (by with_reducible assumption) | refine Ext.alloc ?_ _ _ | refine Ext.drew ?_ | refine Ext.drewN ?_ _)))) | exact NV.nil) (by first | exact (NV.ext (by with_reducible assumption) (by (repeat (first | with_reducible exact Ext.refl _ | with_reducible assumption | refine Ext.trans ?_ (by with_reducible assumption) | refine Ext.alloc ?_ _ _ | refine Ext.drew ?_ | refine Ext.drewN ?_ _)))) | exact NV.nil) (by repeat (first | with_reducible assumption | exact Nat.le_trans (by with_reducible assumption) (by decide) | exact Nat.le_trans (hok.adl _) (by decide) | exact Nat.le_trans (dl_u64 _ (by first | decide | omega)) (by decide) | refine dl_end' ?_ ?_ | refine dl_max' ?_ ?_ | refine dl_add' ?_ ?_ | refine dl_words' ?_ | refine dl_mul' ?_ ?_ | decide)) (by repeat (first | with_reducible assumption | exact Nat.le_trans (by with_reducible assumption) (by decide) | exact Nat.le_trans (hok.adl _) (by decide) | exact Nat.le_trans (dl_u64 _ (by first | decide | omega)) (by decide) | refine dl_end' ?_ ?_ | refine dl_max' ?_ ?_ | refine dl_add' ?_ ?_ | refine dl_words' ?_ | refine dl_mul' ?_ ?_ | decide))).mono ?_; rintro e w1 ⟨r, rfl, hr, he⟩))
  go_ret
  refine ⟨_, rfl, NV.cast (NV.ext (by assumption) (by (repeat (first | with_reducible exact Ext.refl _ | with_reducible assumption | refine Ext.trans ?_ (by with_reducible assumption) | refine Ext.alloc ?_ _ _ | refine Ext.drew ?_ | refine Ext.drewN ?_ _)))) ?_, by (repeat (first | with_reducible exact Ext.refl _ | with_reducible assumption | refine Ext.trans ?_ (by with_reducible assumption) | refine Ext.alloc ?_ _ _ | refine Ext.drew ?_ | refine Ext.drewN ?_ _))⟩
  unfold ASt.bareCost
  repeat (first | rw [if_pos (by omega)] | rw [if_neg (by omega)])
set_option maxRecDepth 100000 in
set_option maxHeartbeats 6400000 in
theorem yBare161 (hX : YX kk O TM TL w Y F q n tF c d W start st f) : Calls Hvah.prog 232 #[.pointer (some ⟨Y, 0, none⟩), .pointer (some ⟨F, q, none⟩), .int .u8 161] w fun e w' => ∃ r, e = .returned r ∧ NV O w' r (st.bareCost f 161) ∧ Ext w w' := by
  have hO := hX.small
  have hok := hX.ok
  have hal : addrA (f.arg 0) < 2 ^ 160 := Nat.mod_lt _ (by decide)
  have hda : dl (st.now.access (addrA (f.arg 0))) ≤ 400 := Nat.le_trans (dl_access _ _) (by decide)
  go_enter Hvah.func232, Hvah.ntmps232
  go_wp2_with (first
    | (go_at_call 42; refine (nNum O _ _ (hO.ext (by (repeat (first | with_reducible exact Ext.refl _ | with_reducible assumption | refine Ext.trans ?_ (by with_reducible assumption) | refine Ext.alloc ?_ _ _ | refine Ext.drew ?_ | refine Ext.drewN ?_ _)))) (by first | decide | omega)).mono ?_; rintro e w1 ⟨r, rfl, hr, he⟩)
    | (go_at_call 73; refine (xArg (hX.ext (by (repeat (first | with_reducible exact Ext.refl _ | with_reducible assumption | refine Ext.trans ?_ (by with_reducible assumption) | refine Ext.alloc ?_ _ _ | refine Ext.drew ?_ | refine Ext.drewN ?_ _)))) _ (by decide)).mono ?_; rintro e w1 ⟨r, rfl, hr, he⟩)
    | (go_at_call 60; refine (nMul O _ _ _ _ _ (hO.ext (by (repeat (first | with_reducible exact Ext.refl _ | with_reducible assumption | refine Ext.trans ?_ (by with_reducible assumption) | refine Ext.alloc ?_ _ _ | refine Ext.drew ?_ | refine Ext.drewN ?_ _)))) (by first | exact (NV.ext (by with_reducible assumption) (by (repeat (first | with_reducible exact Ext.refl _ | with_reducible assumption | refine Ext.trans ?_ (by with_reducible assumption) | refine Ext.alloc ?_ _ _ | refine Ext.drew ?_ | refine Ext.drewN ?_ _)))) | exact NV.nil) (by first | exact (NV.ext (by with_reducible assumption) (by (repeat (first | with_reducible exact Ext.refl _ | with_reducible assumption | refine Ext.trans ?_ (by with_reducible assumption) | refine Ext.alloc ?_ _ _ | refine Ext.drew ?_ | refine Ext.drewN ?_ _)))) | exact NV.nil) (by repeat (first | with_reducible assumption | exact Nat.le_trans (by with_reducible assumption) (by decide) | exact Nat.le_trans (hok.adl _) (by decide) | exact Nat.le_trans (dl_u64 _ (by first | decide | omega)) (by decide) | refine dl_end' ?_ ?_ | refine dl_max' ?_ ?_ | refine dl_add' ?_ ?_ | refine dl_words' ?_ | refine dl_mul' ?_ ?_ | decide)) (by repeat (first | with_reducible assumption | exact Nat.le_trans (by with_reducible assumption) (by decide) | exact Nat.le_trans (hok.adl _) (by decide) | exact Nat.le_trans (dl_u64 _ (by first | decide | omega)) (by decide) | refine dl_end' ?_ ?_ | refine dl_max' ?_ ?_ | refine dl_add' ?_ ?_ | refine dl_words' ?_ | refine dl_mul' ?_ ?_ | decide))).mono ?_; rintro e w1 ⟨r, rfl, hr, he⟩)
    | (go_at_call 44; refine (nAdd O _ _ _ _ _ (hO.ext (by (repeat (first | with_reducible exact Ext.refl _ | with_reducible assumption | refine Ext.trans ?_ (by with_reducible assumption) | refine Ext.alloc ?_ _ _ | refine Ext.drew ?_ | refine Ext.drewN ?_ _)))) (by first | exact (NV.ext (by with_reducible assumption) (by (repeat (first | with_reducible exact Ext.refl _ | with_reducible assumption | refine Ext.trans ?_ (by with_reducible assumption) | refine Ext.alloc ?_ _ _ | refine Ext.drew ?_ | refine Ext.drewN ?_ _)))) | exact NV.nil) (by first | exact (NV.ext (by with_reducible assumption) (by (repeat (first | with_reducible exact Ext.refl _ | with_reducible assumption | refine Ext.trans ?_ (by with_reducible assumption) | refine Ext.alloc ?_ _ _ | refine Ext.drew ?_ | refine Ext.drewN ?_ _)))) | exact NV.nil) (by repeat (first | with_reducible assumption | exact Nat.le_trans (by with_reducible assumption) (by decide) | exact Nat.le_trans (hok.adl _) (by decide) | exact Nat.le_trans (dl_u64 _ (by first | decide | omega)) (by decide) | refine dl_end' ?_ ?_ | refine dl_max' ?_ ?_ | refine dl_add' ?_ ?_ | refine dl_words' ?_ | refine dl_mul' ?_ ?_ | decide)) (by repeat (first | with_reducible assumption | exact Nat.le_trans (by with_reducible assumption) (by decide) | exact Nat.le_trans (hok.adl _) (by decide) | exact Nat.le_trans (dl_u64 _ (by first | decide | omega)) (by decide) | refine dl_end' ?_ ?_ | refine dl_max' ?_ ?_ | refine dl_add' ?_ ?_ | refine dl_words' ?_ | refine dl_mul' ?_ ?_ | decide))).mono ?_; rintro e w1 ⟨r, rfl, hr, he⟩))
  go_ret
  refine ⟨_, rfl, NV.cast (NV.ext (by assumption) (by (repeat (first | with_reducible exact Ext.refl _ | with_reducible assumption | refine Ext.trans ?_ (by with_reducible assumption) | refine Ext.alloc ?_ _ _ | refine Ext.drew ?_ | refine Ext.drewN ?_ _)))) ?_, by (repeat (first | with_reducible exact Ext.refl _ | with_reducible assumption | refine Ext.trans ?_ (by with_reducible assumption) | refine Ext.alloc ?_ _ _ | refine Ext.drew ?_ | refine Ext.drewN ?_ _))⟩
  unfold ASt.bareCost
  repeat (first | rw [if_pos (by omega)] | rw [if_neg (by omega)])
set_option maxRecDepth 100000 in
set_option maxHeartbeats 6400000 in
theorem yBare162 (hX : YX kk O TM TL w Y F q n tF c d W start st f) : Calls Hvah.prog 232 #[.pointer (some ⟨Y, 0, none⟩), .pointer (some ⟨F, q, none⟩), .int .u8 162] w fun e w' => ∃ r, e = .returned r ∧ NV O w' r (st.bareCost f 162) ∧ Ext w w' := by
  have hO := hX.small
  have hok := hX.ok
  have hal : addrA (f.arg 0) < 2 ^ 160 := Nat.mod_lt _ (by decide)
  have hda : dl (st.now.access (addrA (f.arg 0))) ≤ 400 := Nat.le_trans (dl_access _ _) (by decide)
  go_enter Hvah.func232, Hvah.ntmps232
  go_wp2_with (first
    | (go_at_call 42; refine (nNum O _ _ (hO.ext (by (repeat (first | with_reducible exact Ext.refl _ | with_reducible assumption | refine Ext.trans ?_ (by with_reducible assumption) | refine Ext.alloc ?_ _ _ | refine Ext.drew ?_ | refine Ext.drewN ?_ _)))) (by first | decide | omega)).mono ?_; rintro e w1 ⟨r, rfl, hr, he⟩)
    | (go_at_call 73; refine (xArg (hX.ext (by (repeat (first | with_reducible exact Ext.refl _ | with_reducible assumption | refine Ext.trans ?_ (by with_reducible assumption) | refine Ext.alloc ?_ _ _ | refine Ext.drew ?_ | refine Ext.drewN ?_ _)))) _ (by decide)).mono ?_; rintro e w1 ⟨r, rfl, hr, he⟩)
    | (go_at_call 60; refine (nMul O _ _ _ _ _ (hO.ext (by (repeat (first | with_reducible exact Ext.refl _ | with_reducible assumption | refine Ext.trans ?_ (by with_reducible assumption) | refine Ext.alloc ?_ _ _ | refine Ext.drew ?_ | refine Ext.drewN ?_ _)))) (by first | exact (NV.ext (by with_reducible assumption) (by (repeat (first | with_reducible exact Ext.refl _ | with_reducible assumption | refine Ext.trans ?_ (by with_reducible assumption) | refine Ext.alloc ?_ _ _ | refine Ext.drew ?_ | refine Ext.drewN ?_ _)))) | exact NV.nil) (by first | exact (NV.ext (by with_reducible assumption) (by (repeat (first | with_reducible exact Ext.refl _ | with_reducible assumption | refine Ext.trans ?_ (by with_reducible assumption) | refine Ext.alloc ?_ _ _ | refine Ext.drew ?_ | refine Ext.drewN ?_ _)))) | exact NV.nil) (by repeat (first | with_reducible assumption | exact Nat.le_trans (by with_reducible assumption) (by decide) | exact Nat.le_trans (hok.adl _) (by decide) | exact Nat.le_trans (dl_u64 _ (by first | decide | omega)) (by decide) | refine dl_end' ?_ ?_ | refine dl_max' ?_ ?_ | refine dl_add' ?_ ?_ | refine dl_words' ?_ | refine dl_mul' ?_ ?_ | decide)) (by repeat (first | with_reducible assumption | exact Nat.le_trans (by with_reducible assumption) (by decide) | exact Nat.le_trans (hok.adl _) (by decide) | exact Nat.le_trans (dl_u64 _ (by first | decide | omega)) (by decide) | refine dl_end' ?_ ?_ | refine dl_max' ?_ ?_ | refine dl_add' ?_ ?_ | refine dl_words' ?_ | refine dl_mul' ?_ ?_ | decide))).mono ?_; rintro e w1 ⟨r, rfl, hr, he⟩)
    | (go_at_call 44; refine (nAdd O _ _ _ _ _ (hO.ext (by (repeat (first | with_reducible exact Ext.refl _ | with_reducible assumption | refine Ext.trans ?_ (by with_reducible assumption) | refine Ext.alloc ?_ _ _ | refine Ext.drew ?_ | refine Ext.drewN ?_ _)))) (by first | exact (NV.ext (by with_reducible assumption) (by (repeat (first | with_reducible exact Ext.refl _ | with_reducible assumption | refine Ext.trans ?_ (by with_reducible assumption) | refine Ext.alloc ?_ _ _ | refine Ext.drew ?_ | refine Ext.drewN ?_ _)))) | exact NV.nil) (by first | exact (NV.ext (by with_reducible assumption) (by (repeat (first | with_reducible exact Ext.refl _ | with_reducible assumption | refine Ext.trans ?_ (by with_reducible assumption) | refine Ext.alloc ?_ _ _ | refine Ext.drew ?_ | refine Ext.drewN ?_ _)))) | exact NV.nil) (by repeat (first | with_reducible assumption | exact Nat.le_trans (by with_reducible assumption) (by decide) | exact Nat.le_trans (hok.adl _) (by decide) | exact Nat.le_trans (dl_u64 _ (by first | decide | omega)) (by decide) | refine dl_end' ?_ ?_ | refine dl_max' ?_ ?_ | refine dl_add' ?_ ?_ | refine dl_words' ?_ | refine dl_mul' ?_ ?_ | decide)) (by repeat (first | with_reducible assumption | exact Nat.le_trans (by with_reducible assumption) (by decide) | exact Nat.le_trans (hok.adl _) (by decide) | exact Nat.le_trans (dl_u64 _ (by first | decide | omega)) (by decide) | refine dl_end' ?_ ?_ | refine dl_max' ?_ ?_ | refine dl_add' ?_ ?_ | refine dl_words' ?_ | refine dl_mul' ?_ ?_ | decide))).mono ?_; rintro e w1 ⟨r, rfl, hr, he⟩))
  go_ret
  refine ⟨_, rfl, NV.cast (NV.ext (by assumption) (by (repeat (first | with_reducible exact Ext.refl _ | with_reducible assumption | refine Ext.trans ?_ (by with_reducible assumption) | refine Ext.alloc ?_ _ _ | refine Ext.drew ?_ | refine Ext.drewN ?_ _)))) ?_, by (repeat (first | with_reducible exact Ext.refl _ | with_reducible assumption | refine Ext.trans ?_ (by with_reducible assumption) | refine Ext.alloc ?_ _ _ | refine Ext.drew ?_ | refine Ext.drewN ?_ _))⟩
  unfold ASt.bareCost
  repeat (first | rw [if_pos (by omega)] | rw [if_neg (by omega)])
set_option maxRecDepth 100000 in
set_option maxHeartbeats 6400000 in
theorem yBare163 (hX : YX kk O TM TL w Y F q n tF c d W start st f) : Calls Hvah.prog 232 #[.pointer (some ⟨Y, 0, none⟩), .pointer (some ⟨F, q, none⟩), .int .u8 163] w fun e w' => ∃ r, e = .returned r ∧ NV O w' r (st.bareCost f 163) ∧ Ext w w' := by
  have hO := hX.small
  have hok := hX.ok
  have hal : addrA (f.arg 0) < 2 ^ 160 := Nat.mod_lt _ (by decide)
  have hda : dl (st.now.access (addrA (f.arg 0))) ≤ 400 := Nat.le_trans (dl_access _ _) (by decide)
  go_enter Hvah.func232, Hvah.ntmps232
  go_wp2_with (first
    | (go_at_call 42; refine (nNum O _ _ (hO.ext (by (repeat (first | with_reducible exact Ext.refl _ | with_reducible assumption | refine Ext.trans ?_ (by with_reducible assumption) | refine Ext.alloc ?_ _ _ | refine Ext.drew ?_ | refine Ext.drewN ?_ _)))) (by first | decide | omega)).mono ?_; rintro e w1 ⟨r, rfl, hr, he⟩)
    | (go_at_call 73; refine (xArg (hX.ext (by (repeat (first | with_reducible exact Ext.refl _ | with_reducible assumption | refine Ext.trans ?_ (by with_reducible assumption) | refine Ext.alloc ?_ _ _ | refine Ext.drew ?_ | refine Ext.drewN ?_ _)))) _ (by decide)).mono ?_; rintro e w1 ⟨r, rfl, hr, he⟩)
    | (go_at_call 60; refine (nMul O _ _ _ _ _ (hO.ext (by (repeat (first | with_reducible exact Ext.refl _ | with_reducible assumption | refine Ext.trans ?_ (by with_reducible assumption) | refine Ext.alloc ?_ _ _ | refine Ext.drew ?_ | refine Ext.drewN ?_ _)))) (by first | exact (NV.ext (by with_reducible assumption) (by (repeat (first | with_reducible exact Ext.refl _ | with_reducible assumption | refine Ext.trans ?_ (by with_reducible assumption) | refine Ext.alloc ?_ _ _ | refine Ext.drew ?_ | refine Ext.drewN ?_ _)))) | exact NV.nil) (by first | exact (NV.ext (by with_reducible assumption) (by (repeat (first | with_reducible exact Ext.refl _ | with_reducible assumption | refine Ext.trans ?_ (by with_reducible assumption) | refine Ext.alloc ?_ _ _ | refine Ext.drew ?_ | refine Ext.drewN ?_ _)))) | exact NV.nil) (by repeat (first | with_reducible assumption | exact Nat.le_trans (by with_reducible assumption) (by decide) | exact Nat.le_trans (hok.adl _) (by decide) | exact Nat.le_trans (dl_u64 _ (by first | decide | omega)) (by decide) | refine dl_end' ?_ ?_ | refine dl_max' ?_ ?_ | refine dl_add' ?_ ?_ | refine dl_words' ?_ | refine dl_mul' ?_ ?_ | decide)) (by repeat (first | with_reducible assumption | exact Nat.le_trans (by with_reducible assumption) (by decide) | exact Nat.le_trans (hok.adl _) (by decide) | exact Nat.le_trans (dl_u64 _ (by first | decide | omega)) (by decide) | refine dl_end' ?_ ?_ | refine dl_max' ?_ ?_ | refine dl_add' ?_ ?_ | refine dl_words' ?_ | refine dl_mul' ?_ ?_ | decide))).mono ?_; rintro e w1 ⟨r, rfl, hr, he⟩)
    | (go_at_call 44; refine (nAdd O _ _ _ _ _ (hO.ext (by (repeat (first | with_reducible exact Ext.refl _ | with_reducible assumption | refine Ext.trans ?_ (by with_reducible assumption) | refine Ext.alloc ?_ _ _ | refine Ext.drew ?_ | refine Ext.drewN ?_ _)))) (by first | exact (NV.ext (by with_reducible assumption) (by (repeat (first | with_reducible exact Ext.refl _ | with_reducible assumption | refine Ext.trans ?_ (by with_reducible assumption) | refine Ext.alloc ?_ _ _ | refine Ext.drew ?_ | refine Ext.drewN ?_ _)))) | exact NV.nil) (by first | exact (NV.ext (by with_reducible assumption) (by (repeat (first | with_reducible exact Ext.refl _ | with_reducible assumption | refine Ext.trans ?_ (by with_reducible assumption) | refine Ext.alloc ?_ _ _ | refine Ext.drew ?_ | refine Ext.drewN ?_ _)))) | exact NV.nil) (by repeat (first | with_reducible assumption | exact Nat.le_trans (by with_reducible assumption) (by decide) | exact Nat.le_trans (hok.adl _) (by decide) | exact Nat.le_trans (dl_u64 _ (by first | decide | omega)) (by decide) | refine dl_end' ?_ ?_ | refine dl_max' ?_ ?_ | refine dl_add' ?_ ?_ | refine dl_words' ?_ | refine dl_mul' ?_ ?_ | decide)) (by repeat (first | with_reducible assumption | exact Nat.le_trans (by with_reducible assumption) (by decide) | exact Nat.le_trans (hok.adl _) (by decide) | exact Nat.le_trans (dl_u64 _ (by first | decide | omega)) (by decide) | refine dl_end' ?_ ?_ | refine dl_max' ?_ ?_ | refine dl_add' ?_ ?_ | refine dl_words' ?_ | refine dl_mul' ?_ ?_ | decide))).mono ?_; rintro e w1 ⟨r, rfl, hr, he⟩))
  go_ret
  refine ⟨_, rfl, NV.cast (NV.ext (by assumption) (by (repeat (first | with_reducible exact Ext.refl _ | with_reducible assumption | refine Ext.trans ?_ (by with_reducible assumption) | refine Ext.alloc ?_ _ _ | refine Ext.drew ?_ | refine Ext.drewN ?_ _)))) ?_, by (repeat (first | with_reducible exact Ext.refl _ | with_reducible assumption | refine Ext.trans ?_ (by with_reducible assumption) | refine Ext.alloc ?_ _ _ | refine Ext.drew ?_ | refine Ext.drewN ?_ _))⟩
  unfold ASt.bareCost
  repeat (first | rw [if_pos (by omega)] | rw [if_neg (by omega)])
set_option maxRecDepth 100000 in
set_option maxHeartbeats 6400000 in
theorem yBare164 (hX : YX kk O TM TL w Y F q n tF c d W start st f) : Calls Hvah.prog 232 #[.pointer (some ⟨Y, 0, none⟩), .pointer (some ⟨F, q, none⟩), .int .u8 164] w fun e w' => ∃ r, e = .returned r ∧ NV O w' r (st.bareCost f 164) ∧ Ext w w' := by
  have hO := hX.small
  have hok := hX.ok
  have hal : addrA (f.arg 0) < 2 ^ 160 := Nat.mod_lt _ (by decide)
  have hda : dl (st.now.access (addrA (f.arg 0))) ≤ 400 := Nat.le_trans (dl_access _ _) (by decide)
  go_enter Hvah.func232, Hvah.ntmps232
  go_wp2_with (first
    | (go_at_call 42; refine (nNum O _ _ (hO.ext (by (repeat (first | with_reducible exact Ext.refl _ | with_reducible assumption | refine Ext.trans ?_ (by with_reducible assumption) | refine Ext.alloc ?_ _ _ | refine Ext.drew ?_ | refine Ext.drewN ?_ _)))) (by first | decide | omega)).mono ?_; rintro e w1 ⟨r, rfl, hr, he⟩)
    | (go_at_call 73; refine (xArg (hX.ext (by (repeat (first | with_reducible exact Ext.refl _ | with_reducible assumption | refine Ext.trans ?_ (by with_reducible assumption) | refine Ext.alloc ?_ _ _ | refine Ext.drew ?_ | refine Ext.drewN ?_ _)))) _ (by decide)).mono ?_; rintro e w1 ⟨r, rfl, hr, he⟩)
    | (go_at_call 60; refine (nMul O _ _ _ _ _ (hO.ext (by (repeat (first | with_reducible exact Ext.refl _ | with_reducible assumption | refine Ext.trans ?_ (by with_reducible assumption) | refine Ext.alloc ?_ _ _ | refine Ext.drew ?_ | refine Ext.drewN ?_ _)))) (by first | exact (NV.ext (by with_reducible assumption) (by (repeat (first | with_reducible exact Ext.refl _ | with_reducible assumption | refine Ext.trans ?_ (by with_reducible assumption) | refine Ext.alloc ?_ _ _ | refine Ext.drew ?_ | refine Ext.drewN ?_ _)))) | exact NV.nil) (by first | exact (NV.ext (by with_reducible assumption) (by (repeat (first | with_reducible exact Ext.refl _ | with_reducible assumption | refine Ext.trans ?_ (by with_reducible assumption) | refine Ext.alloc ?_ _ _ | refine Ext.drew ?_ | refine Ext.drewN ?_ _)))) | exact NV.nil) (by repeat (first | with_reducible assumption | exact Nat.le_trans (by with_reducible assumption) (by decide) | exact Nat.le_trans (hok.adl _) (by decide) | exact Nat.le_trans (dl_u64 _ (by first | decide | omega)) (by decide) | refine dl_end' ?_ ?_ | refine dl_max' ?_ ?_ | refine dl_add' ?_ ?_ | refine dl_words' ?_ | refine dl_mul' ?_ ?_ | decide)) (by repeat (first | with_reducible assumption | exact Nat.le_trans (by with_reducible assumption) (by decide) | exact Nat.le_trans (hok.adl _) (by decide) | exact Nat.le_trans (dl_u64 _ (by first | decide | omega)) (by decide) | refine dl_end' ?_ ?_ | refine dl_max' ?_ ?_ | refine dl_add' ?_ ?_ | refine dl_words' ?_ | refine dl_mul' ?_ ?_ | decide))).mono ?_; rintro e w1 ⟨r, rfl, hr, he⟩)
    | (go_at_call 44; refine (nAdd O _ _ _ _ _ (hO.ext (by (repeat (first | with_reducible exact Ext.refl _ | with_reducible assumption | refine Ext.trans ?_ (by with_reducible assumption) | refine Ext.alloc ?_ _ _ | refine Ext.drew ?_ | refine Ext.drewN ?_ _)))) (by first | exact (NV.ext (by with_reducible assumption) (by (repeat (first | with_reducible exact Ext.refl _ | with_reducible assumption | refine Ext.trans ?_ (by with_reducible assumption) | refine Ext.alloc ?_ _ _ | refine Ext.drew ?_ | refine Ext.drewN ?_ _)))) | exact NV.nil) (by first | exact (NV.ext (by with_reducible assumption) (by (repeat (first | with_reducible exact Ext.refl _ | with_reducible assumption | refine Ext.trans ?_ (by with_reducible assumption) | refine Ext.alloc ?_ _ _ | refine Ext.drew ?_ | refine Ext.drewN ?_ _)))) | exact NV.nil) (by repeat (first | with_reducible assumption | exact Nat.le_trans (by with_reducible assumption) (by decide) | exact Nat.le_trans (hok.adl _) (by decide) | exact Nat.le_trans (dl_u64 _ (by first | decide | omega)) (by decide) | refine dl_end' ?_ ?_ | refine dl_max' ?_ ?_ | refine dl_add' ?_ ?_ | refine dl_words' ?_ | refine dl_mul' ?_ ?_ | decide)) (by repeat (first | with_reducible assumption | exact Nat.le_trans (by with_reducible assumption) (by decide) | exact Nat.le_trans (hok.adl _) (by decide) | exact Nat.le_trans (dl_u64 _ (by first | decide | omega)) (by decide) | refine dl_end' ?_ ?_ | refine dl_max' ?_ ?_ | refine dl_add' ?_ ?_ | refine dl_words' ?_ | refine dl_mul' ?_ ?_ | decide))).mono ?_; rintro e w1 ⟨r, rfl, hr, he⟩))
  go_ret
  refine ⟨_, rfl, NV.cast (NV.ext (by assumption) (by (repeat (first | with_reducible exact Ext.refl _ | with_reducible assumption | refine Ext.trans ?_ (by with_reducible assumption) | refine Ext.alloc ?_ _ _ | refine Ext.drew ?_ | refine Ext.drewN ?_ _)))) ?_, by (repeat (first | with_reducible exact Ext.refl _ | with_reducible assumption | refine Ext.trans ?_ (by with_reducible assumption) | refine Ext.alloc ?_ _ _ | refine Ext.drew ?_ | refine Ext.drewN ?_ _))⟩
  unfold ASt.bareCost
  repeat (first | rw [if_pos (by omega)] | rw [if_neg (by omega)])
set_option maxRecDepth 100000 in
set_option maxHeartbeats 6400000 in
theorem yBareX (hX : YX kk O TM TL w Y F q n tF c d W start st f) (o : Nat) (ho : o < 256) (hn : o ≠ 49 ∧ o ≠ 59 ∧ o ≠ 63 ∧ o ≠ 60 ∧ o ≠ 84 ∧ o ≠ 160 ∧ o ≠ 161 ∧ o ≠ 162 ∧ o ≠ 163 ∧ o ≠ 164) : Calls Hvah.prog 232 #[.pointer (some ⟨Y, 0, none⟩), .pointer (some ⟨F, q, none⟩), .int .u8 o] w fun e w' => ∃ r, e = .returned r ∧ NV O w' r (st.bareCost f o) ∧ Ext w w' := by
  have hO := hX.small
  have hok := hX.ok
  have hal : addrA (f.arg 0) < 2 ^ 160 := Nat.mod_lt _ (by decide)
  have hda : dl (st.now.access (addrA (f.arg 0))) ≤ 400 := Nat.le_trans (dl_access _ _) (by decide)
  have h256 : (o : Int) < 256 := by omega
  have i49 : ((o : Int) == 49) = false := by rw [beq_eq_false_iff_ne]; omega
  have i59 : ((o : Int) == 59) = false := by rw [beq_eq_false_iff_ne]; omega
  have i63 : ((o : Int) == 63) = false := by rw [beq_eq_false_iff_ne]; omega
  have i60 : ((o : Int) == 60) = false := by rw [beq_eq_false_iff_ne]; omega
  have i84 : ((o : Int) == 84) = false := by rw [beq_eq_false_iff_ne]; omega
  have iL : ¬ (160 ≤ (o : Int) ∧ (o : Int) ≤ 164) := by omega
  go_enter Hvah.func232, Hvah.ntmps232
  go_wp2_with (first
    | (go_at_call 42; refine (nNum O _ _ (hO.ext (by (repeat (first | with_reducible exact Ext.refl _ | with_reducible assumption | refine Ext.trans ?_ (by with_reducible assumption) | refine Ext.alloc ?_ _ _ | refine Ext.drew ?_ | refine Ext.drewN ?_ _)))) (by first | decide | omega)).mono ?_; rintro e w1 ⟨r, rfl, hr, he⟩)
    | (go_at_call 73; refine (xArg (hX.ext (by (repeat (first | with_reducible exact Ext.refl _ | with_reducible assumption | refine Ext.trans ?_ (by with_reducible assumption) | refine Ext.alloc ?_ _ _ | refine Ext.drew ?_ | refine Ext.drewN ?_ _)))) _ (by decide)).mono ?_; rintro e w1 ⟨r, rfl, hr, he⟩)
    | (go_at_call 135; refine (nWords O _ _ _ (hO.ext (by (repeat (first | with_reducible exact Ext.refl _ | with_reducible assumption | refine Ext.trans ?_ (by with_reducible assumption) | refine Ext.alloc ?_ _ _ | refine Ext.drew ?_ | refine Ext.drewN ?_ _)))) (NV.ext (by with_reducible assumption) (by (repeat (first | with_reducible exact Ext.refl _ | with_reducible assumption | refine Ext.trans ?_ (by with_reducible assumption) | refine Ext.alloc ?_ _ _ | refine Ext.drew ?_ | refine Ext.drewN ?_ _)))) (by repeat (first | with_reducible assumption | exact Nat.le_trans (by with_reducible assumption) (by decide) | exact Nat.le_trans (hok.adl _) (by decide) | exact Nat.le_trans (dl_u64 _ (by first | decide | omega)) (by decide) | refine dl_end' ?_ ?_ | refine dl_max' ?_ ?_ | refine dl_add' ?_ ?_ | refine dl_words' ?_ | refine dl_mul' ?_ ?_ | decide))).mono ?_; rintro e w1 ⟨r, rfl, hr, he⟩)
    | (go_at_call 60; refine (nMul O _ _ _ _ _ (hO.ext (by (repeat (first | with_reducible exact Ext.refl _ | with_reducible assumption | refine Ext.trans ?_ (by with_reducible assumption) | refine Ext.alloc ?_ _ _ | refine Ext.drew ?_ | refine Ext.drewN ?_ _)))) (by first | exact (NV.ext (by with_reducible assumption) (by (repeat (first | with_reducible exact Ext.refl _ | with_reducible assumption | refine Ext.trans ?_ (by with_reducible assumption) | refine Ext.alloc ?_ _ _ | refine Ext.drew ?_ | refine Ext.drewN ?_ _)))) | exact NV.nil) (by first | exact (NV.ext (by with_reducible assumption) (by (repeat (first | with_reducible exact Ext.refl _ | with_reducible assumption | refine Ext.trans ?_ (by with_reducible assumption) | refine Ext.alloc ?_ _ _ | refine Ext.drew ?_ | refine Ext.drewN ?_ _)))) | exact NV.nil) (by repeat (first | with_reducible assumption | exact Nat.le_trans (by with_reducible assumption) (by decide) | exact Nat.le_trans (hok.adl _) (by decide) | exact Nat.le_trans (dl_u64 _ (by first | decide | omega)) (by decide) | refine dl_end' ?_ ?_ | refine dl_max' ?_ ?_ | refine dl_add' ?_ ?_ | refine dl_words' ?_ | refine dl_mul' ?_ ?_ | decide)) (by repeat (first | with_reducible assumption | exact Nat.le_trans (by with_reducible assumption) (by decide) | exact Nat.le_trans (hok.adl _) (by decide) | exact Nat.le_trans (dl_u64 _ (by first | decide | omega)) (by decide) | refine dl_end' ?_ ?_ | refine dl_max' ?_ ?_ | refine dl_add' ?_ ?_ | refine dl_words' ?_ | refine dl_mul' ?_ ?_ | decide))).mono ?_; rintro e w1 ⟨r, rfl, hr, he⟩)
    | (go_at_call 44; refine (nAdd O _ _ _ _ _ (hO.ext (by (repeat (first | with_reducible exact Ext.refl _ | with_reducible assumption | refine Ext.trans ?_ (by with_reducible assumption) | refine Ext.alloc ?_ _ _ | refine Ext.drew ?_ | refine Ext.drewN ?_ _)))) (by first | exact (NV.ext (by with_reducible assumption) (by (repeat (first | with_reducible exact Ext.refl _ | with_reducible assumption | refine Ext.trans ?_ (by with_reducible assumption) | refine Ext.alloc ?_ _ _ | refine Ext.drew ?_ | refine Ext.drewN ?_ _)))) | exact NV.nil) (by first | exact (NV.ext (by with_reducible assumption) (by (repeat (first | with_reducible exact Ext.refl _ | with_reducible assumption | refine Ext.trans ?_ (by with_reducible assumption) | refine Ext.alloc ?_ _ _ | refine Ext.drew ?_ | refine Ext.drewN ?_ _)))) | exact NV.nil) (by repeat (first | with_reducible assumption | exact Nat.le_trans (by with_reducible assumption) (by decide) | exact Nat.le_trans (hok.adl _) (by decide) | exact Nat.le_trans (dl_u64 _ (by first | decide | omega)) (by decide) | refine dl_end' ?_ ?_ | refine dl_max' ?_ ?_ | refine dl_add' ?_ ?_ | refine dl_words' ?_ | refine dl_mul' ?_ ?_ | decide)) (by repeat (first | with_reducible assumption | exact Nat.le_trans (by with_reducible assumption) (by decide) | exact Nat.le_trans (hok.adl _) (by decide) | exact Nat.le_trans (dl_u64 _ (by first | decide | omega)) (by decide) | refine dl_end' ?_ ?_ | refine dl_max' ?_ ?_ | refine dl_add' ?_ ?_ | refine dl_words' ?_ | refine dl_mul' ?_ ?_ | decide))).mono ?_; rintro e w1 ⟨r, rfl, hr, he⟩)
    | (go_at_call 340; refine (yExpCost O _ _ _ (hO.ext (by (repeat (first | with_reducible exact Ext.refl _ | with_reducible assumption | refine Ext.trans ?_ (by with_reducible assumption) | refine Ext.alloc ?_ _ _ | refine Ext.drew ?_ | refine Ext.drewN ?_ _)))) (NV.ext (by with_reducible assumption) (by (repeat (first | with_reducible exact Ext.refl _ | with_reducible assumption | refine Ext.trans ?_ (by with_reducible assumption) | refine Ext.alloc ?_ _ _ | refine Ext.drew ?_ | refine Ext.drewN ?_ _)))) (by repeat (first | with_reducible assumption | exact Nat.le_trans (by with_reducible assumption) (by decide) | exact Nat.le_trans (hok.adl _) (by decide) | exact Nat.le_trans (dl_u64 _ (by first | decide | omega)) (by decide) | refine dl_end' ?_ ?_ | refine dl_max' ?_ ?_ | refine dl_add' ?_ ?_ | refine dl_words' ?_ | refine dl_mul' ?_ ?_ | decide))).mono ?_; rintro e w1 ⟨r, rfl, hr, he⟩)
    | (go_at_call 341; refine (yCopyCost O _ _ _ (hO.ext (by (repeat (first | with_reducible exact Ext.refl _ | with_reducible assumption | refine Ext.trans ?_ (by with_reducible assumption) | refine Ext.alloc ?_ _ _ | refine Ext.drew ?_ | refine Ext.drewN ?_ _)))) (NV.ext (by with_reducible assumption) (by (repeat (first | with_reducible exact Ext.refl _ | with_reducible assumption | refine Ext.trans ?_ (by with_reducible assumption) | refine Ext.alloc ?_ _ _ | refine Ext.drew ?_ | refine Ext.drewN ?_ _)))) (by repeat (first | with_reducible assumption | exact Nat.le_trans (by with_reducible assumption) (by decide) | exact Nat.le_trans (hok.adl _) (by decide) | exact Nat.le_trans (dl_u64 _ (by first | decide | omega)) (by decide) | refine dl_end' ?_ ?_ | refine dl_max' ?_ ?_ | refine dl_add' ?_ ?_ | refine dl_words' ?_ | refine dl_mul' ?_ ?_ | decide))).mono ?_; rintro e w1 ⟨r, rfl, hr, he⟩)
    | (go_at_call 343; refine (ySstore (hX.ext (by (repeat (first | with_reducible exact Ext.refl _ | with_reducible assumption | refine Ext.trans ?_ (by with_reducible assumption) | refine Ext.alloc ?_ _ _ | refine Ext.drew ?_ | refine Ext.drewN ?_ _))))).mono ?_; rintro e w1 ⟨r1, r2, r3, rfl, hr1, hr2, hr3, he⟩)
    | (go_at_call 344; refine (yDestroyCost (hX.ext (by (repeat (first | with_reducible exact Ext.refl _ | with_reducible assumption | refine Ext.trans ?_ (by with_reducible assumption) | refine Ext.alloc ?_ _ _ | refine Ext.drew ?_ | refine Ext.drewN ?_ _))))).mono ?_; rintro e w1 ⟨r, rfl, hr, he⟩)
    | (go_at_call 19; refine (opFamily _ (by first | assumption | decide) _).mono ?_; rintro e w1 ⟨rfl, hww⟩; replace hww := hww.symm; subst hww)
    | (go_at_call 345; refine (yEnterCost (hX.ext (by (repeat (first | with_reducible exact Ext.refl _ | with_reducible assumption | refine Ext.trans ?_ (by with_reducible assumption) | refine Ext.alloc ?_ _ _ | refine Ext.drew ?_ | refine Ext.drewN ?_ _)))) _ (by simp only [beq_iff_eq, beq_eq_false_iff_ne, ne_eq, decide_eq_true_eq, decide_eq_false_iff_not] at *; exact enter_ops (by omega) (by omega))).mono ?_; rintro e w1 ⟨r, rfl, hr, he⟩))
  all_goals go_ret
  all_goals refine ⟨_, rfl, NV.cast (NV.ext (by assumption) (by (repeat (first | with_reducible exact Ext.refl _ | with_reducible assumption | refine Ext.trans ?_ (by with_reducible assumption) | refine Ext.alloc ?_ _ _ | refine Ext.drew ?_ | refine Ext.drewN ?_ _)))) ?_, by (repeat (first | with_reducible exact Ext.refl _ | with_reducible assumption | refine Ext.trans ?_ (by with_reducible assumption) | refine Ext.alloc ?_ _ _ | refine Ext.drew ?_ | refine Ext.drewN ?_ _))⟩
  all_goals (try simp only [cmpI_z, cmpI_n, cmpI_p, cmpI_nn, cmpI_pp, beq_iff_eq, beq_eq_false_iff_ne, ne_eq, decide_eq_true_eq, decide_eq_false_iff_not, Bool.not_eq_true', Bool.not_eq_false', Bool.not_eq_eq_eq_not, Bool.not_true, Bool.not_false, bne_iff_ne] at *)
  all_goals unfold ASt.bareCost copyCostA wordsA expCostA
  all_goals repeat (first | rw [if_pos (by omega)] | rw [if_neg (by omega)])
  all_goals omega
theorem yBareCost (hX : YX kk O TM TL w Y F q n tF c d W start st f) (o : Nat) (ho : o < 256) : Calls Hvah.prog 232 #[.pointer (some ⟨Y, 0, none⟩), .pointer (some ⟨F, q, none⟩), .int .u8 o] w fun e w' => ∃ r, e = .returned r ∧ NV O w' r (st.bareCost f o) ∧ Ext w w' := by
  by_cases h49 : o = 49
  · subst h49; exact yBare49 hX
  by_cases h59 : o = 59
  · subst h59; exact yBare59 hX
  by_cases h63 : o = 63
  · subst h63; exact yBare63 hX
  by_cases h60 : o = 60
  · subst h60; exact yBare60 hX
  by_cases h84 : o = 84
  · subst h84; exact yBare84 hX
  by_cases h160 : o = 160
  · subst h160; exact yBare160 hX
  by_cases h161 : o = 161
  · subst h161; exact yBare161 hX
  by_cases h162 : o = 162
  · subst h162; exact yBare162 hX
  by_cases h163 : o = 163
  · subst h163; exact yBare163 hX
  by_cases h164 : o = 164
  · subst h164; exact yBare164 hX
  exact yBareX hX o ho ⟨h49, h59, h63, h60, h84, h160, h161, h162, h163, h164⟩
end
end Go.Proofs.YgvahwGreat
