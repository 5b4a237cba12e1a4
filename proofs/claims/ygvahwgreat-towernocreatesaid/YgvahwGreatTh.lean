import Derived.Test.YgvahwGreatTd
import Derived.Test.YgvahwGreatYpYe
import Derived.Test.YgvahwGreatMLb
namespace Go.Proofs.YgvahwGreat
open Go.RowKit
set_option linter.unusedSimpArgs false
section
variable {kk : Nat → Value} {O TM TL : Nat → Prop} {w : World} {Y F q n : Nat} {tF : TypeId} {c d : Nat → Value} {W : YW} {start : List (Nat × Nat × Nat)} {st : ASt} {f : AFrame}
set_option maxRecDepth 100000 in
set_option maxHeartbeats 6400000 in
theorem yVal48 (hX : YX kk O TM TL w Y F q n tF c d W start st f) {vg : Value} {args : List Nat} (hA : NumL O w vg args) : Calls Hvah.prog 161 #[.pointer (some ⟨Y, 0, none⟩), .pointer (some ⟨F, q, none⟩), .int .u8 48, vg] w fun e w' => ∃ r, e = .returned r ∧ NV O w' r (f.self) ∧ Ext w w' := by
  have hO := hX.small
  have hok := hX.ok
  have hq := hX.hq
  have ho : 48 < 256 := by decide
  have hfam : famA 48 = 2 := by decide
  go_enter Hvah.func161, Hvah.ntmps161
  go_wp2_with (first
    | (go_at_call 237; refine (yOperand _ (NumL.ext hA (by (repeat (first | with_reducible exact Ext.refl _ | with_reducible assumption | refine Ext.trans ?_ (by with_reducible assumption) | refine Ext.alloc ?_ _ _ | refine Ext.drew ?_ | refine Ext.drewN ?_ _)))) _).mono ?_; rintro e w1 ⟨r, rfl, hr, hww⟩; replace hww := hww.symm; subst hww)
    | (go_at_call 19; refine (opFamily _ (by first | assumption | decide) _).mono ?_; rintro e w1 ⟨rfl, hww⟩; replace hww := hww.symm; subst hww)
    | (go_at_call 43; refine (nFromA (hO.ext (by (repeat (first | with_reducible exact Ext.refl _ | with_reducible assumption | refine Ext.trans ?_ (by with_reducible assumption) | refine Ext.alloc ?_ _ _ | refine Ext.drew ?_ | refine Ext.drewN ?_ _)))) ((hX.ext (by (repeat (first | with_reducible exact Ext.refl _ | with_reducible assumption | refine Ext.trans ?_ (by with_reducible assumption) | refine Ext.alloc ?_ _ _ | refine Ext.drew ?_ | refine Ext.drewN ?_ _)))).bF) hX.fc.self hX.ok.self (by have := hX.hq; omega)).mono ?_; rintro e w1 ⟨r, rfl, hr, he⟩))
  go_ret
  exact ⟨_, rfl, NV.ext hr (by (repeat (first | with_reducible exact Ext.refl _ | with_reducible assumption | refine Ext.trans ?_ (by with_reducible assumption) | refine Ext.alloc ?_ _ _ | refine Ext.drew ?_ | refine Ext.drewN ?_ _))), by (repeat (first | with_reducible exact Ext.refl _ | with_reducible assumption | refine Ext.trans ?_ (by with_reducible assumption) | refine Ext.alloc ?_ _ _ | refine Ext.drew ?_ | refine Ext.drewN ?_ _))⟩
set_option maxRecDepth 100000 in
set_option maxHeartbeats 6400000 in
theorem yVal50 (hX : YX kk O TM TL w Y F q n tF c d W start st f) {vg : Value} {args : List Nat} (hA : NumL O w vg args) : Calls Hvah.prog 161 #[.pointer (some ⟨Y, 0, none⟩), .pointer (some ⟨F, q, none⟩), .int .u8 50, vg] w fun e w' => ∃ r, e = .returned r ∧ NV O w' r (st.origin) ∧ Ext w w' := by
  have hO := hX.small
  have hok := hX.ok
  have hq := hX.hq
  have ho : 50 < 256 := by decide
  have hfam : famA 50 = 2 := by decide
  go_enter Hvah.func161, Hvah.ntmps161
  go_wp2_with (first
    | (go_at_call 237; refine (yOperand _ (NumL.ext hA (by (repeat (first | with_reducible exact Ext.refl _ | with_reducible assumption | refine Ext.trans ?_ (by with_reducible assumption) | refine Ext.alloc ?_ _ _ | refine Ext.drew ?_ | refine Ext.drewN ?_ _)))) _).mono ?_; rintro e w1 ⟨r, rfl, hr, hww⟩; replace hww := hww.symm; subst hww)
    | (go_at_call 19; refine (opFamily _ (by first | assumption | decide) _).mono ?_; rintro e w1 ⟨rfl, hww⟩; replace hww := hww.symm; subst hww)
    | (go_at_call 43; refine (nFromA (hO.ext (by (repeat (first | with_reducible exact Ext.refl _ | with_reducible assumption | refine Ext.trans ?_ (by with_reducible assumption) | refine Ext.alloc ?_ _ _ | refine Ext.drew ?_ | refine Ext.drewN ?_ _)))) ((hX.ext (by (repeat (first | with_reducible exact Ext.refl _ | with_reducible assumption | refine Ext.trans ?_ (by with_reducible assumption) | refine Ext.alloc ?_ _ _ | refine Ext.drew ?_ | refine Ext.drewN ?_ _)))).bY) hX.origin hX.oLt (by decide)).mono ?_; rintro e w1 ⟨r, rfl, hr, he⟩))
  go_ret
  exact ⟨_, rfl, NV.ext hr (by (repeat (first | with_reducible exact Ext.refl _ | with_reducible assumption | refine Ext.trans ?_ (by with_reducible assumption) | refine Ext.alloc ?_ _ _ | refine Ext.drew ?_ | refine Ext.drewN ?_ _))), by (repeat (first | with_reducible exact Ext.refl _ | with_reducible assumption | refine Ext.trans ?_ (by with_reducible assumption) | refine Ext.alloc ?_ _ _ | refine Ext.drew ?_ | refine Ext.drewN ?_ _))⟩
set_option maxRecDepth 100000 in
set_option maxHeartbeats 6400000 in
theorem yVal51 (hX : YX kk O TM TL w Y F q n tF c d W start st f) {vg : Value} {args : List Nat} (hA : NumL O w vg args) : Calls Hvah.prog 161 #[.pointer (some ⟨Y, 0, none⟩), .pointer (some ⟨F, q, none⟩), .int .u8 51, vg] w fun e w' => ∃ r, e = .returned r ∧ NV O w' r (f.caller) ∧ Ext w w' := by
  have hO := hX.small
  have hok := hX.ok
  have hq := hX.hq
  have ho : 51 < 256 := by decide
  have hfam : famA 51 = 2 := by decide
  go_enter Hvah.func161, Hvah.ntmps161
  go_wp2_with (first
    | (go_at_call 237; refine (yOperand _ (NumL.ext hA (by (repeat (first | with_reducible exact Ext.refl _ | with_reducible assumption | refine Ext.trans ?_ (by with_reducible assumption) | refine Ext.alloc ?_ _ _ | refine Ext.drew ?_ | refine Ext.drewN ?_ _)))) _).mono ?_; rintro e w1 ⟨r, rfl, hr, hww⟩; replace hww := hww.symm; subst hww)
    | (go_at_call 19; refine (opFamily _ (by first | assumption | decide) _).mono ?_; rintro e w1 ⟨rfl, hww⟩; replace hww := hww.symm; subst hww)
    | (go_at_call 43; refine (nFromA (hO.ext (by (repeat (first | with_reducible exact Ext.refl _ | with_reducible assumption | refine Ext.trans ?_ (by with_reducible assumption) | refine Ext.alloc ?_ _ _ | refine Ext.drew ?_ | refine Ext.drewN ?_ _)))) ((hX.ext (by (repeat (first | with_reducible exact Ext.refl _ | with_reducible assumption | refine Ext.trans ?_ (by with_reducible assumption) | refine Ext.alloc ?_ _ _ | refine Ext.drew ?_ | refine Ext.drewN ?_ _)))).bF) hX.fc.caller hX.ok.caller (by have := hX.hq; omega)).mono ?_; rintro e w1 ⟨r, rfl, hr, he⟩))
  go_ret
  exact ⟨_, rfl, NV.ext hr (by (repeat (first | with_reducible exact Ext.refl _ | with_reducible assumption | refine Ext.trans ?_ (by with_reducible assumption) | refine Ext.alloc ?_ _ _ | refine Ext.drew ?_ | refine Ext.drewN ?_ _))), by (repeat (first | with_reducible exact Ext.refl _ | with_reducible assumption | refine Ext.trans ?_ (by with_reducible assumption) | refine Ext.alloc ?_ _ _ | refine Ext.drew ?_ | refine Ext.drewN ?_ _))⟩
set_option maxRecDepth 100000 in
set_option maxHeartbeats 6400000 in
theorem yVal52 (hX : YX kk O TM TL w Y F q n tF c d W start st f) {vg : Value} {args : List Nat} (hA : NumL O w vg args) : Calls Hvah.prog 161 #[.pointer (some ⟨Y, 0, none⟩), .pointer (some ⟨F, q, none⟩), .int .u8 52, vg] w fun e w' => ∃ r, e = .returned r ∧ NV O w' r (f.value) ∧ Ext w w' := by
  have hO := hX.small
  have hok := hX.ok
  have hq := hX.hq
  have ho : 52 < 256 := by decide
  have hfam : famA 52 = 2 := by decide
  have hv := hX.fc.value
  go_enter Hvah.func161, Hvah.ntmps161
  go_wp2_with (first
    | (go_at_call 237; refine (yOperand _ (NumL.ext hA (by (repeat (first | with_reducible exact Ext.refl _ | with_reducible assumption | refine Ext.trans ?_ (by with_reducible assumption) | refine Ext.alloc ?_ _ _ | refine Ext.drew ?_ | refine Ext.drewN ?_ _)))) _).mono ?_; rintro e w1 ⟨r, rfl, hr, hww⟩; replace hww := hww.symm; subst hww)
    | (go_at_call 19; refine (opFamily _ (by first | assumption | decide) _).mono ?_; rintro e w1 ⟨rfl, hww⟩; replace hww := hww.symm; subst hww)
    | ((with_reducible (refine Veil.out ?_; apply wl_load1 one96)); (case hx => rfl); (case hB => exact (hX.bF.ext (by (repeat (first | with_reducible exact Ext.refl _ | with_reducible assumption | refine Ext.trans ?_ (by with_reducible assumption) | refine Ext.alloc ?_ _ _ | refine Ext.drew ?_ | refine Ext.drewN ?_ _))))); (case ho => first | decide | (have := hX.hq; omega)))
    | (go_at_call 132; refine (nNorm O _ _ _ (hO.ext (by (repeat (first | with_reducible exact Ext.refl _ | with_reducible assumption | refine Ext.trans ?_ (by with_reducible assumption) | refine Ext.alloc ?_ _ _ | refine Ext.drew ?_ | refine Ext.drewN ?_ _)))) (NV.ext (by with_reducible assumption) (by (repeat (first | with_reducible exact Ext.refl _ | with_reducible assumption | refine Ext.trans ?_ (by with_reducible assumption) | refine Ext.alloc ?_ _ _ | refine Ext.drew ?_ | refine Ext.drewN ?_ _))))).mono ?_; rintro e w1 ⟨r, rfl, hr0, he⟩; have hr := hr0.nv))
  go_ret
  exact ⟨_, rfl, NV.ext hr (by (repeat (first | with_reducible exact Ext.refl _ | with_reducible assumption | refine Ext.trans ?_ (by with_reducible assumption) | refine Ext.alloc ?_ _ _ | refine Ext.drew ?_ | refine Ext.drewN ?_ _))), by (repeat (first | with_reducible exact Ext.refl _ | with_reducible assumption | refine Ext.trans ?_ (by with_reducible assumption) | refine Ext.alloc ?_ _ _ | refine Ext.drew ?_ | refine Ext.drewN ?_ _))⟩
set_option maxRecDepth 100000 in
set_option maxHeartbeats 6400000 in
theorem yVal53 (hX : YX kk O TM TL w Y F q n tF c d W start st f) {vg : Value} {args : List Nat} (hA : NumL O w vg args) : Calls Hvah.prog 161 #[.pointer (some ⟨Y, 0, none⟩), .pointer (some ⟨F, q, none⟩), .int .u8 53, vg] w fun e w' => ∃ r, e = .returned r ∧ NV O w' r (bev (cutA f.input (args.getD 0 0) 32)) ∧ Ext w w' := by
  have hO := hX.small
  have hok := hX.ok
  have hq := hX.hq
  have ho : 53 < 256 := by decide
  have hfam : famA 53 = 2 := by decide
  obtain ⟨oi, ci, hid, hi1, hi2, hi3⟩ := hX.fc.input
  have hnl : NL O w (.slice oi f.input.length ci) f.input := ⟨oi, ci, rfl, hi1, hi2, hi3⟩
  have hll : (f.input.length : Int) ≤ 140737488355328 := by omega
  have hlw : IntKind.u64.wrap (f.input.length : Int) = f.input.length := by rw [IntKind.wrap_u64]; omega
  have kI : ∀ W, Ext w W → W.cell? ⟨F, q + 11, none⟩ = some (.slice oi f.input.length ci) := fun W hW => by rw [← hid]; exact (hX.bF.ext hW).cell (by omega)
  go_enter Hvah.func161, Hvah.ntmps161
  go_wp2_with (first
    | (go_at_call 237; refine (yOperand _ (NumL.ext hA (by (repeat (first | with_reducible exact Ext.refl _ | with_reducible assumption | refine Ext.trans ?_ (by with_reducible assumption) | refine Ext.alloc ?_ _ _ | refine Ext.drew ?_ | refine Ext.drewN ?_ _)))) _).mono ?_; rintro e w1 ⟨r, rfl, hr, hww⟩; replace hww := hww.symm; subst hww)
    | (go_at_call 19; refine (opFamily _ (by first | assumption | decide) _).mono ?_; rintro e w1 ⟨rfl, hww⟩; replace hww := hww.symm; subst hww))
  refine w_ext ?_
  rintro W0 hW0
  have hX0 := hX.ext (show Ext w W0 by (repeat (first | with_reducible exact Ext.refl _ | with_reducible assumption | refine Ext.trans ?_ (by with_reducible assumption) | refine Ext.alloc ?_ _ _ | refine Ext.drew ?_ | refine Ext.drewN ?_ _)))
  refine wp_region_held_drew (S := fun w' => Ext W0 w') (by kernel_rfl) (Ext.refl _).drew (fun hHeld => ?_)
  have HH : Hid (Ext W0 _) := hHeld
  clear hHeld
  refine wpAnyH_take (i := 0) (v := ?_) rfl (by kernel_rfl) (by kernel_rfl) (by kernel_rfl) (fun _ _ _ h => h) (Or.inl ⟨by rfl, ?_⟩) HH.out ?_
  rotate_left
  · intro w hSw; go_simp; try with_reducible rfl
  change wpAnyH _ _ _ _ _ _ _ (Act.put _ (some 124) _) _
  simp only [Act.put, List.setIfInBounds_toArray, List.set_cons_zero, List.set_cons_succ]
  refine wpAnyH_take (i := 1) (v := ?_) rfl (by kernel_rfl) (by kernel_rfl) (by kernel_rfl) (fun _ _ _ h => h) (Or.inl ⟨by rfl, ?_⟩) HH.out ?_
  rotate_left
  · intro w hSw; go_simp; try with_reducible rfl
  change wpAnyH _ _ _ _ _ _ _ (Act.put _ (some 125) _) _
  simp only [Act.put, List.setIfInBounds_toArray, List.set_cons_zero, List.set_cons_succ]
  refine wpAnyH_take (i := 2) (v := ?_) rfl (by kernel_rfl) (by kernel_rfl) (by kernel_rfl) (fun _ _ _ h => h) (Or.inl ⟨by rfl, ?_⟩) HH.out ?_
  rotate_left
  · intro w hSw; go_simp; try with_reducible rfl
  change wpAnyH _ _ _ _ _ _ _ (Act.put _ (some 126) _) _
  simp only [Act.put, List.setIfInBounds_toArray, List.set_cons_zero, List.set_cons_succ]
  refine wpAnyH_take (i := 3) rfl (by kernel_rfl) (by kernel_rfl) (by kernel_rfl) (fun _ _ _ h => h) (yieldsIf_load1 (by rfl) _ _ rfl _ _ rfl one32 _ (fun w hSw => kI _ (Ext.trans (by (repeat (first | with_reducible exact Ext.refl _ | with_reducible assumption | refine Ext.trans ?_ (by with_reducible assumption) | refine Ext.alloc ?_ _ _ | refine Ext.drew ?_ | refine Ext.drewN ?_ _))) hSw))) HH.out ?_
  change wpAnyH _ _ _ _ _ _ _ (Act.put _ (some 127) _) _
  simp only [Act.put, List.setIfInBounds_toArray, List.set_cons_zero, List.set_cons_succ]
  refine wpAnyH_take (i := 4) (v := ?_) rfl (by kernel_rfl) (by kernel_rfl) (by kernel_rfl) (fun _ _ _ h => h) (Or.inl ⟨by rfl, ?_⟩) HH.out ?_
  rotate_left
  · intro w hSw; go_simp; try with_reducible rfl
  change wpAnyH _ _ _ _ _ _ _ (Act.put _ (some 128) _) _
  simp only [Act.put, List.setIfInBounds_toArray, List.set_cons_zero, List.set_cons_succ]
  refine wpAnyH_ready (rs := [5]) (by kernel_rfl) (by simp) ?_
  refine AllReadyH.cons rfl (fun K hK => ?_) AllReadyH.nil
  go_simp
  (go_at_call 42; refine (nNum O _ _ (hO.ext (by (repeat (first | with_reducible exact Ext.refl _ | with_reducible assumption | refine Ext.trans ?_ (by with_reducible assumption) | refine Ext.alloc ?_ _ _ | refine Ext.drew ?_ | refine Ext.drewN ?_ _)))) (by first | decide | omega)).mono ?_; rintro e w1 ⟨r, rfl, hr, he⟩)
  refine hK.out _ _ ?_ (fun hHeld => ?_)
  · first | exact HH.out.trans hmY | exact HH.out.trans he | exact HH.out
  clear hK K HH
  have HH : Hid (Ext W0 _) := hHeld
  clear hHeld
  refine wpAnyH_ready (rs := [6]) (by kernel_rfl) (by simp) ?_
  refine AllReadyH.cons rfl (fun K hK => ?_) AllReadyH.nil
  go_simp
  (go_at_call 155; refine (yCut (hO.ext (by (repeat (first | with_reducible exact Ext.refl _ | with_reducible assumption | refine Ext.trans ?_ (by with_reducible assumption) | refine Ext.alloc ?_ _ _ | refine Ext.drew ?_ | refine Ext.drewN ?_ _)))) (hnl.ext (by (repeat (first | with_reducible exact Ext.refl _ | with_reducible assumption | refine Ext.trans ?_ (by with_reducible assumption) | refine Ext.alloc ?_ _ _ | refine Ext.drew ?_ | refine Ext.drewN ?_ _)))) (NV.ext (by with_reducible assumption) (by (repeat (first | with_reducible exact Ext.refl _ | with_reducible assumption | refine Ext.trans ?_ (by with_reducible assumption) | refine Ext.alloc ?_ _ _ | refine Ext.drew ?_ | refine Ext.drewN ?_ _)))) (NV.ext (by with_reducible assumption) (by (repeat (first | with_reducible exact Ext.refl _ | with_reducible assumption | refine Ext.trans ?_ (by with_reducible assumption) | refine Ext.alloc ?_ _ _ | refine Ext.drew ?_ | refine Ext.drewN ?_ _)))) (by first | decide | omega)).mono ?_; rintro e w1 ⟨r, rfl, hrl, he⟩)
  refine hK.out _ _ ?_ (fun hHeld => ?_)
  · first | exact HH.out.trans hmY | exact HH.out.trans he | exact HH.out
  clear hK K HH
  have HH : Hid (Ext W0 _) := hHeld
  clear hHeld
  refine wpAnyH_ready (rs := [7]) (by kernel_rfl) (by simp) ?_
  refine AllReadyH.cons rfl (fun K hK => ?_) AllReadyH.nil
  go_simp
  (go_at_call 43; refine (nFromBE (hO.ext (by (repeat (first | with_reducible exact Ext.refl _ | with_reducible assumption | refine Ext.trans ?_ (by with_reducible assumption) | refine Ext.alloc ?_ _ _ | refine Ext.drew ?_ | refine Ext.drewN ?_ _)))) (hrl.ext (by (repeat (first | with_reducible exact Ext.refl _ | with_reducible assumption | refine Ext.trans ?_ (by with_reducible assumption) | refine Ext.alloc ?_ _ _ | refine Ext.drew ?_ | refine Ext.drewN ?_ _))))).mono ?_; rintro e w1 ⟨r, rfl, hr, he⟩)
  refine hK.out _ _ ?_ (fun hHeld => ?_)
  · first | exact HH.out.trans hmY | exact HH.out.trans he | exact HH.out
  clear hK K HH
  have HH : Hid (Ext W0 _) := hHeld
  clear hHeld
  refine wpAnyH_take (i := 8) (v := ?_) rfl (by kernel_rfl) (by kernel_rfl) (by kernel_rfl) (fun _ _ _ h => h) (Or.inl ⟨by rfl, ?_⟩) HH.out ?_
  rotate_left
  · intro w hSw; go_simp; try with_reducible rfl
  change wpAnyH _ _ _ _ _ _ _ (Act.put _ (some 8) _) _
  simp only [Act.put, List.setIfInBounds_toArray, List.set_cons_zero, List.set_cons_succ]
  refine wpAnyH_done (by kernel_rfl) ?_ _
  go_wp2
  go_ret
  exact ⟨_, rfl, NV.ext hr (by (repeat (first | with_reducible exact Ext.refl _ | with_reducible assumption | refine Ext.trans ?_ (by with_reducible assumption) | refine Ext.alloc ?_ _ _ | refine Ext.drew ?_ | refine Ext.drewN ?_ _))), by (repeat (first | with_reducible exact Ext.refl _ | with_reducible assumption | refine Ext.trans ?_ (by with_reducible assumption) | refine Ext.alloc ?_ _ _ | refine Ext.drew ?_ | refine Ext.drewN ?_ _))⟩
set_option maxRecDepth 100000 in
set_option maxHeartbeats 6400000 in
theorem yVal54 (hX : YX kk O TM TL w Y F q n tF c d W start st f) {vg : Value} {args : List Nat} (hA : NumL O w vg args) : Calls Hvah.prog 161 #[.pointer (some ⟨Y, 0, none⟩), .pointer (some ⟨F, q, none⟩), .int .u8 54, vg] w fun e w' => ∃ r, e = .returned r ∧ NV O w' r (f.input.length) ∧ Ext w w' := by
  have hO := hX.small
  have hok := hX.ok
  have hq := hX.hq
  have ho : 54 < 256 := by decide
  have hfam : famA 54 = 2 := by decide
  obtain ⟨oi, ci, hid, hi1, hi2, hi3⟩ := hX.fc.input
  have hnl : NL O w (.slice oi f.input.length ci) f.input := ⟨oi, ci, rfl, hi1, hi2, hi3⟩
  have hll : (f.input.length : Int) ≤ 140737488355328 := by omega
  have hlw : IntKind.u64.wrap (f.input.length : Int) = f.input.length := by rw [IntKind.wrap_u64]; omega
  have kI : ∀ W, Ext w W → W.cell? ⟨F, q + 11, none⟩ = some (.slice oi f.input.length ci) := fun W hW => by rw [← hid]; exact (hX.bF.ext hW).cell (by omega)
  go_enter Hvah.func161, Hvah.ntmps161
  go_wp2_with (first
    | (go_at_call 237; refine (yOperand _ (NumL.ext hA (by (repeat (first | with_reducible exact Ext.refl _ | with_reducible assumption | refine Ext.trans ?_ (by with_reducible assumption) | refine Ext.alloc ?_ _ _ | refine Ext.drew ?_ | refine Ext.drewN ?_ _)))) _).mono ?_; rintro e w1 ⟨r, rfl, hr, hww⟩; replace hww := hww.symm; subst hww)
    | (go_at_call 19; refine (opFamily _ (by first | assumption | decide) _).mono ?_; rintro e w1 ⟨rfl, hww⟩; replace hww := hww.symm; subst hww)
    | ((with_reducible (refine Veil.out ?_; apply wl_load1 one32)); (case hx => rfl); (case hB => exact (hX.bF.ext (by (repeat (first | with_reducible exact Ext.refl _ | with_reducible assumption | refine Ext.trans ?_ (by with_reducible assumption) | refine Ext.alloc ?_ _ _ | refine Ext.drew ?_ | refine Ext.drewN ?_ _))))); (case ho => first | decide | (have := hX.hq; omega)))
    | (go_at_call 42; refine (nNum O f.input.length _ (hO.ext (by (repeat (first | with_reducible exact Ext.refl _ | with_reducible assumption | refine Ext.trans ?_ (by with_reducible assumption) | refine Ext.alloc ?_ _ _ | refine Ext.drew ?_ | refine Ext.drewN ?_ _)))) (by omega)).mono ?_; rintro e w1 ⟨r, rfl, hr, he⟩))
  go_ret
  exact ⟨_, rfl, NV.ext hr (by (repeat (first | with_reducible exact Ext.refl _ | with_reducible assumption | refine Ext.trans ?_ (by with_reducible assumption) | refine Ext.alloc ?_ _ _ | refine Ext.drew ?_ | refine Ext.drewN ?_ _))), by (repeat (first | with_reducible exact Ext.refl _ | with_reducible assumption | refine Ext.trans ?_ (by with_reducible assumption) | refine Ext.alloc ?_ _ _ | refine Ext.drew ?_ | refine Ext.drewN ?_ _))⟩
set_option maxRecDepth 100000 in
set_option maxHeartbeats 6400000 in
theorem yVal56 (hX : YX kk O TM TL w Y F q n tF c d W start st f) {vg : Value} {args : List Nat} (hA : NumL O w vg args) : Calls Hvah.prog 161 #[.pointer (some ⟨Y, 0, none⟩), .pointer (some ⟨F, q, none⟩), .int .u8 56, vg] w fun e w' => ∃ r, e = .returned r ∧ NV O w' r (f.code.length) ∧ Ext w w' := by
  have hO := hX.small
  have hok := hX.ok
  have hq := hX.hq
  have ho : 56 < 256 := by decide
  have hfam : famA 56 = 2 := by decide
  obtain ⟨oi, ci, hid, hi1, hi2, hi3⟩ := hX.fc.code
  have hnl : NL O w (.slice oi f.code.length ci) f.code := ⟨oi, ci, rfl, hi1, hi2, hi3⟩
  have hll : (f.code.length : Int) ≤ 140737488355328 := by omega
  have hlw : IntKind.u64.wrap (f.code.length : Int) = f.code.length := by rw [IntKind.wrap_u64]; omega
  have kI : ∀ W, Ext w W → W.cell? ⟨F, q + 10, none⟩ = some (.slice oi f.code.length ci) := fun W hW => by rw [← hid]; exact (hX.bF.ext hW).cell (by omega)
  go_enter Hvah.func161, Hvah.ntmps161
  go_wp2_with (first
    | (go_at_call 237; refine (yOperand _ (NumL.ext hA (by (repeat (first | with_reducible exact Ext.refl _ | with_reducible assumption | refine Ext.trans ?_ (by with_reducible assumption) | refine Ext.alloc ?_ _ _ | refine Ext.drew ?_ | refine Ext.drewN ?_ _)))) _).mono ?_; rintro e w1 ⟨r, rfl, hr, hww⟩; replace hww := hww.symm; subst hww)
    | (go_at_call 19; refine (opFamily _ (by first | assumption | decide) _).mono ?_; rintro e w1 ⟨rfl, hww⟩; replace hww := hww.symm; subst hww)
    | ((with_reducible (refine Veil.out ?_; apply wl_load1 one32)); (case hx => rfl); (case hB => exact (hX.bF.ext (by (repeat (first | with_reducible exact Ext.refl _ | with_reducible assumption | refine Ext.trans ?_ (by with_reducible assumption) | refine Ext.alloc ?_ _ _ | refine Ext.drew ?_ | refine Ext.drewN ?_ _))))); (case ho => first | decide | (have := hX.hq; omega)))
    | (go_at_call 42; refine (nNum O f.code.length _ (hO.ext (by (repeat (first | with_reducible exact Ext.refl _ | with_reducible assumption | refine Ext.trans ?_ (by with_reducible assumption) | refine Ext.alloc ?_ _ _ | refine Ext.drew ?_ | refine Ext.drewN ?_ _)))) (by omega)).mono ?_; rintro e w1 ⟨r, rfl, hr, he⟩))
  go_ret
  exact ⟨_, rfl, NV.ext hr (by (repeat (first | with_reducible exact Ext.refl _ | with_reducible assumption | refine Ext.trans ?_ (by with_reducible assumption) | refine Ext.alloc ?_ _ _ | refine Ext.drew ?_ | refine Ext.drewN ?_ _))), by (repeat (first | with_reducible exact Ext.refl _ | with_reducible assumption | refine Ext.trans ?_ (by with_reducible assumption) | refine Ext.alloc ?_ _ _ | refine Ext.drew ?_ | refine Ext.drewN ?_ _))⟩
set_option maxRecDepth 100000 in
set_option maxHeartbeats 6400000 in
theorem yVal58 (hX : YX kk O TM TL w Y F q n tF c d W start st f) {vg : Value} {args : List Nat} (hA : NumL O w vg args) : Calls Hvah.prog 161 #[.pointer (some ⟨Y, 0, none⟩), .pointer (some ⟨F, q, none⟩), .int .u8 58, vg] w fun e w' => ∃ r, e = .returned r ∧ NV O w' r (st.price) ∧ Ext w w' := by
  have hO := hX.small
  have hok := hX.ok
  have hq := hX.hq
  have ho : 58 < 256 := by decide
  have hfam : famA 58 = 2 := by decide
  have hv := hX.price
  go_enter Hvah.func161, Hvah.ntmps161
  go_wp2_with (first
    | (go_at_call 237; refine (yOperand _ (NumL.ext hA (by (repeat (first | with_reducible exact Ext.refl _ | with_reducible assumption | refine Ext.trans ?_ (by with_reducible assumption) | refine Ext.alloc ?_ _ _ | refine Ext.drew ?_ | refine Ext.drewN ?_ _)))) _).mono ?_; rintro e w1 ⟨r, rfl, hr, hww⟩; replace hww := hww.symm; subst hww)
    | (go_at_call 19; refine (opFamily _ (by first | assumption | decide) _).mono ?_; rintro e w1 ⟨rfl, hww⟩; replace hww := hww.symm; subst hww)
    | ((with_reducible (refine Veil.out ?_; apply wl_load1 one96)); (case hx => rfl); (case hB => exact (hX.bY.ext (by (repeat (first | with_reducible exact Ext.refl _ | with_reducible assumption | refine Ext.trans ?_ (by with_reducible assumption) | refine Ext.alloc ?_ _ _ | refine Ext.drew ?_ | refine Ext.drewN ?_ _))))); (case ho => first | decide | (have := hX.hq; omega)))
    | (go_at_call 132; refine (nNorm O _ _ _ (hO.ext (by (repeat (first | with_reducible exact Ext.refl _ | with_reducible assumption | refine Ext.trans ?_ (by with_reducible assumption) | refine Ext.alloc ?_ _ _ | refine Ext.drew ?_ | refine Ext.drewN ?_ _)))) (NV.ext (by with_reducible assumption) (by (repeat (first | with_reducible exact Ext.refl _ | with_reducible assumption | refine Ext.trans ?_ (by with_reducible assumption) | refine Ext.alloc ?_ _ _ | refine Ext.drew ?_ | refine Ext.drewN ?_ _))))).mono ?_; rintro e w1 ⟨r, rfl, hr0, he⟩; have hr := hr0.nv))
  go_ret
  exact ⟨_, rfl, NV.ext hr (by (repeat (first | with_reducible exact Ext.refl _ | with_reducible assumption | refine Ext.trans ?_ (by with_reducible assumption) | refine Ext.alloc ?_ _ _ | refine Ext.drew ?_ | refine Ext.drewN ?_ _))), by (repeat (first | with_reducible exact Ext.refl _ | with_reducible assumption | refine Ext.trans ?_ (by with_reducible assumption) | refine Ext.alloc ?_ _ _ | refine Ext.drew ?_ | refine Ext.drewN ?_ _))⟩
set_option maxRecDepth 100000 in
set_option maxHeartbeats 6400000 in
theorem yVal61 (hX : YX kk O TM TL w Y F q n tF c d W start st f) {vg : Value} {args : List Nat} (hA : NumL O w vg args) : Calls Hvah.prog 161 #[.pointer (some ⟨Y, 0, none⟩), .pointer (some ⟨F, q, none⟩), .int .u8 61, vg] w fun e w' => ∃ r, e = .returned r ∧ NV O w' r (st.ret.length) ∧ Ext w w' := by
  have hO := hX.small
  have hok := hX.ok
  have hq := hX.hq
  have ho : 61 < 256 := by decide
  have hfam : famA 61 = 2 := by decide
  obtain ⟨oi, ci, hid, hi1, hi2, hi3⟩ := hX.ret
  have hll : (st.ret.length : Int) ≤ 140737488355328 := by omega
  have hlw : IntKind.u64.wrap (st.ret.length : Int) = st.ret.length := by rw [IntKind.wrap_u64]; omega
  go_enter Hvah.func161, Hvah.ntmps161
  go_wp2_with (first
    | (go_at_call 237; refine (yOperand _ (NumL.ext hA (by (repeat (first | with_reducible exact Ext.refl _ | with_reducible assumption | refine Ext.trans ?_ (by with_reducible assumption) | refine Ext.alloc ?_ _ _ | refine Ext.drew ?_ | refine Ext.drewN ?_ _)))) _).mono ?_; rintro e w1 ⟨r, rfl, hr, hww⟩; replace hww := hww.symm; subst hww)
    | (go_at_call 19; refine (opFamily _ (by first | assumption | decide) _).mono ?_; rintro e w1 ⟨rfl, hww⟩; replace hww := hww.symm; subst hww)
    | ((with_reducible (refine Veil.out ?_; apply wl_load1 one32)); (case hx => rfl); (case hB => exact (hX.bY.ext (by (repeat (first | with_reducible exact Ext.refl _ | with_reducible assumption | refine Ext.trans ?_ (by with_reducible assumption) | refine Ext.alloc ?_ _ _ | refine Ext.drew ?_ | refine Ext.drewN ?_ _))))); (case ho => first | decide | (have := hX.hq; omega)))
    | (go_at_call 42; refine (nNum O st.ret.length _ (hO.ext (by (repeat (first | with_reducible exact Ext.refl _ | with_reducible assumption | refine Ext.trans ?_ (by with_reducible assumption) | refine Ext.alloc ?_ _ _ | refine Ext.drew ?_ | refine Ext.drewN ?_ _)))) (by omega)).mono ?_; rintro e w1 ⟨r, rfl, hr, he⟩))
  go_ret
  exact ⟨_, rfl, NV.ext hr (by (repeat (first | with_reducible exact Ext.refl _ | with_reducible assumption | refine Ext.trans ?_ (by with_reducible assumption) | refine Ext.alloc ?_ _ _ | refine Ext.drew ?_ | refine Ext.drewN ?_ _))), by (repeat (first | with_reducible exact Ext.refl _ | with_reducible assumption | refine Ext.trans ?_ (by with_reducible assumption) | refine Ext.alloc ?_ _ _ | refine Ext.drew ?_ | refine Ext.drewN ?_ _))⟩
set_option maxRecDepth 100000 in
set_option maxHeartbeats 6400000 in
theorem yVal71 (hX : YX kk O TM TL w Y F q n tF c d W start st f) {vg : Value} {args : List Nat} (hA : NumL O w vg args) : Calls Hvah.prog 161 #[.pointer (some ⟨Y, 0, none⟩), .pointer (some ⟨F, q, none⟩), .int .u8 71, vg] w fun e w' => ∃ r, e = .returned r ∧ NV O w' r ((W.acct f.self).bal) ∧ Ext w w' := by
  have hO := hX.small
  have hok := hX.ok
  have hq := hX.hq
  have ho : 71 < 256 := by decide
  have hfam : famA 71 = 2 := by decide
  go_enter Hvah.func161, Hvah.ntmps161
  go_wp2_with (first
    | (go_at_call 237; refine (yOperand _ (NumL.ext hA (by (repeat (first | with_reducible exact Ext.refl _ | with_reducible assumption | refine Ext.trans ?_ (by with_reducible assumption) | refine Ext.alloc ?_ _ _ | refine Ext.drew ?_ | refine Ext.drewN ?_ _)))) _).mono ?_; rintro e w1 ⟨r, rfl, hr, hww⟩; replace hww := hww.symm; subst hww)
    | (go_at_call 19; refine (opFamily _ (by first | assumption | decide) _).mono ?_; rintro e w1 ⟨rfl, hww⟩; replace hww := hww.symm; subst hww))
  refine w_ext ?_
  rintro W0 hW0
  have hX0 := hX.ext (show Ext w W0 by (repeat (first | with_reducible exact Ext.refl _ | with_reducible assumption | refine Ext.trans ?_ (by with_reducible assumption) | refine Ext.alloc ?_ _ _ | refine Ext.drew ?_ | refine Ext.drewN ?_ _)))
  refine wp_region_held_drew (S := fun w' => Ext W0 w') (by kernel_rfl) (Ext.refl _).drew (fun hHeld => ?_)
  have HH : Hid (Ext W0 _) := hHeld
  clear hHeld
  refine wpAnyH_take (i := 0) (v := ?_) rfl (by kernel_rfl) (by kernel_rfl) (by kernel_rfl) (fun _ _ _ h => h) (Or.inl ⟨by rfl, ?_⟩) HH.out ?_
  rotate_left
  · intro w hSw; go_simp; try with_reducible rfl
  change wpAnyH _ _ _ _ _ _ _ (Act.put _ (some 168) _) _
  simp only [Act.put, List.setIfInBounds_toArray, List.set_cons_zero, List.set_cons_succ]
  refine wpAnyH_take (i := 1) (v := ?_) rfl (by kernel_rfl) (by kernel_rfl) (by kernel_rfl) (fun _ _ _ h => h) (Or.inl ⟨by rfl, ?_⟩) HH.out ?_
  rotate_left
  · intro w hSw; go_simp; try with_reducible rfl
  change wpAnyH _ _ _ _ _ _ _ (Act.put _ (some 169) _) _
  simp only [Act.put, List.setIfInBounds_toArray, List.set_cons_zero, List.set_cons_succ]
  refine wpAnyH_take (i := 2) (v := ?_) rfl (by kernel_rfl) (by kernel_rfl) (by kernel_rfl) (fun _ _ _ h => h) (Or.inl ⟨by rfl, ?_⟩) HH.out ?_
  rotate_left
  · intro w hSw; go_simp; try with_reducible rfl
  change wpAnyH _ _ _ _ _ _ _ (Act.put _ (some 170) _) _
  simp only [Act.put, List.setIfInBounds_toArray, List.set_cons_zero, List.set_cons_succ]
  refine wpAnyH_take (i := 3) (v := ?_) rfl (by kernel_rfl) (by kernel_rfl) (by kernel_rfl) (fun _ _ _ h => h) (Or.inl ⟨by rfl, ?_⟩) HH.out ?_
  rotate_left
  · intro w hSw; go_simp; try with_reducible rfl
  change wpAnyH _ _ _ _ _ _ _ (Act.put _ (some 171) _) _
  simp only [Act.put, List.setIfInBounds_toArray, List.set_cons_zero, List.set_cons_succ]
  refine wpAnyH_take (i := 4) (v := ?_) rfl (by kernel_rfl) (by kernel_rfl) (by kernel_rfl) (fun _ _ _ h => h) (Or.inl ⟨by rfl, ?_⟩) HH.out ?_
  rotate_left
  · intro w hSw; go_simp; try with_reducible rfl
  change wpAnyH _ _ _ _ _ _ _ (Act.put _ (some 172) _) _
  simp only [Act.put, List.setIfInBounds_toArray, List.set_cons_zero, List.set_cons_succ]
  refine wpAnyH_take (i := 5) (v := ?_) rfl (by kernel_rfl) (by kernel_rfl) (by kernel_rfl) (fun _ _ _ h => h) (Or.inl ⟨by rfl, ?_⟩) HH.out ?_
  rotate_left
  · intro w hSw; go_simp; try with_reducible rfl
  change wpAnyH _ _ _ _ _ _ _ (Act.put _ (some 173) _) _
  simp only [Act.put, List.setIfInBounds_toArray, List.set_cons_zero, List.set_cons_succ]
  refine wpAnyH_take (i := 6) rfl (by kernel_rfl) (by kernel_rfl) (by kernel_rfl) (fun _ _ _ h => h) (yieldsIf_load_mid (by rfl) _ _ rfl _ _ rfl _ _ (fun w hSw => rng_av hX0.fc.self hX0.ok.self (hX0.bF.ext hSw) (by have := hX0.hq; omega)) under25 rfl (sz_av hX0.ok.self)) HH.out ?_
  change wpAnyH _ _ _ _ _ _ _ (Act.put _ (some 174) _) _
  simp only [Act.put, List.setIfInBounds_toArray, List.set_cons_zero, List.set_cons_succ]
  refine wpAnyH_ready (rs := [7]) (by kernel_rfl) (by simp) ?_
  refine AllReadyH.cons rfl (fun K hK => ?_) AllReadyH.nil
  go_simp
  (go_at_call 53; refine (xAccountG (hX.ext (by (repeat (first | with_reducible exact Ext.refl _ | with_reducible assumption | refine Ext.trans ?_ (by with_reducible assumption) | refine Ext.alloc ?_ _ _ | refine Ext.drew ?_ | refine Ext.drewN ?_ _)))) _ (by first | exact hX.ok.self | exact hX.ok.caller | exact Nat.mod_lt _ (by decide) | assumption)).mono ?_; rintro e w1 ⟨u1, u2, u3, u4, rfl, hp, hg, he⟩; obtain ⟨f1, f2, f3, f4, gs, go⟩ := hg)
  refine hK.out _ _ ?_ (fun hHeld => ?_)
  · first | exact HH.out.trans hmY | exact HH.out.trans he | exact HH.out
  clear hK K HH
  have HH : Hid (Ext W0 _) := hHeld
  clear hHeld
  refine wpAnyH_take (i := 8) (v := ?_) rfl (by kernel_rfl) (by kernel_rfl) (by kernel_rfl) (fun _ _ _ h => h) (Or.inl ⟨by rfl, ?_⟩) HH.out ?_
  rotate_left
  · intro w hSw; go_simp; try with_reducible rfl
  change wpAnyH _ _ _ _ _ _ _ (Act.put _ (some 176) _) _
  simp only [Act.put, List.setIfInBounds_toArray, List.set_cons_zero, List.set_cons_succ]
  refine wpAnyH_ready (rs := [9]) (by kernel_rfl) (by simp) ?_
  refine AllReadyH.cons rfl (fun K hK => ?_) AllReadyH.nil
  go_simp
  (go_at_call 132; refine (nNorm O _ _ _ (hO.ext (by (repeat (first | with_reducible exact Ext.refl _ | with_reducible assumption | refine Ext.trans ?_ (by with_reducible assumption) | refine Ext.alloc ?_ _ _ | refine Ext.drew ?_ | refine Ext.drewN ?_ _)))) (hp.bal.ext (by (repeat (first | with_reducible exact Ext.refl _ | with_reducible assumption | refine Ext.trans ?_ (by with_reducible assumption) | refine Ext.alloc ?_ _ _ | refine Ext.drew ?_ | refine Ext.drewN ?_ _))))).mono ?_; rintro e w1 ⟨r, rfl, hr0, he⟩; have hr := hr0.nv)
  refine hK.out _ _ ?_ (fun hHeld => ?_)
  · first | exact HH.out.trans hmY | exact HH.out.trans he | exact HH.out
  clear hK K HH
  have HH : Hid (Ext W0 _) := hHeld
  clear hHeld
  refine wpAnyH_take (i := 10) (v := ?_) rfl (by kernel_rfl) (by kernel_rfl) (by kernel_rfl) (fun _ _ _ h => h) (Or.inl ⟨by rfl, ?_⟩) HH.out ?_
  rotate_left
  · intro w hSw; go_simp; try with_reducible rfl
  change wpAnyH _ _ _ _ _ _ _ (Act.put _ (some 8) _) _
  simp only [Act.put, List.setIfInBounds_toArray, List.set_cons_zero, List.set_cons_succ]
  refine wpAnyH_done (by kernel_rfl) ?_ _
  go_wp2
  go_ret
  exact ⟨_, rfl, NV.ext hr (by (repeat (first | with_reducible exact Ext.refl _ | with_reducible assumption | refine Ext.trans ?_ (by with_reducible assumption) | refine Ext.alloc ?_ _ _ | refine Ext.drew ?_ | refine Ext.drewN ?_ _))), by (repeat (first | with_reducible exact Ext.refl _ | with_reducible assumption | refine Ext.trans ?_ (by with_reducible assumption) | refine Ext.alloc ?_ _ _ | refine Ext.drew ?_ | refine Ext.drewN ?_ _))⟩
set_option maxRecDepth 100000 in
set_option maxHeartbeats 6400000 in
theorem yVal81 (hX : YX kk O TM TL w Y F q n tF c d W start st f) {vg : Value} {args : List Nat} (hA : NumL O w vg args) : Calls Hvah.prog 161 #[.pointer (some ⟨Y, 0, none⟩), .pointer (some ⟨F, q, none⟩), .int .u8 81, vg] w fun e w' => ∃ r, e = .returned r ∧ NV O w' r (bev (cutA f.mem (args.getD 0 0) 32)) ∧ Ext w w' := by
  have hO := hX.small
  have hok := hX.ok
  have hq := hX.hq
  have ho : 81 < 256 := by decide
  have hfam : famA 81 = 2 := by decide
  obtain ⟨oi, ci, hid, hi1, hi2, hi3⟩ := hX.fc.memNL
  have hnl : NL (fun _ => False) w (.slice oi f.mem.length ci) f.mem := ⟨oi, ci, rfl, hi1, hi2, hi3⟩
  have hll : (f.mem.length : Int) ≤ 140737488355328 := by omega
  have hlw : IntKind.u64.wrap (f.mem.length : Int) = f.mem.length := by rw [IntKind.wrap_u64]; omega
  have kI : ∀ W, Ext w W → W.cell? ⟨F, q + 9, none⟩ = some (.slice oi f.mem.length ci) := fun W hW => by rw [← hid]; exact (hX.bF.ext hW).cell (by omega)
  go_enter Hvah.func161, Hvah.ntmps161
  go_wp2_with (first
    | (go_at_call 237; refine (yOperand _ (NumL.ext hA (by (repeat (first | with_reducible exact Ext.refl _ | with_reducible assumption | refine Ext.trans ?_ (by with_reducible assumption) | refine Ext.alloc ?_ _ _ | refine Ext.drew ?_ | refine Ext.drewN ?_ _)))) _).mono ?_; rintro e w1 ⟨r, rfl, hr, hww⟩; replace hww := hww.symm; subst hww)
    | (go_at_call 19; refine (opFamily _ (by first | assumption | decide) _).mono ?_; rintro e w1 ⟨rfl, hww⟩; replace hww := hww.symm; subst hww))
  refine w_ext ?_
  rintro W0 hW0
  have hX0 := hX.ext (show Ext w W0 by (repeat (first | with_reducible exact Ext.refl _ | with_reducible assumption | refine Ext.trans ?_ (by with_reducible assumption) | refine Ext.alloc ?_ _ _ | refine Ext.drew ?_ | refine Ext.drewN ?_ _)))
  refine wp_region_held_drew (S := fun w' => Ext W0 w') (by kernel_rfl) (Ext.refl _).drew (fun hHeld => ?_)
  have HH : Hid (Ext W0 _) := hHeld
  clear hHeld
  refine wpAnyH_take (i := 0) (v := ?_) rfl (by kernel_rfl) (by kernel_rfl) (by kernel_rfl) (fun _ _ _ h => h) (Or.inl ⟨by rfl, ?_⟩) HH.out ?_
  rotate_left
  · intro w hSw; go_simp; try with_reducible rfl
  change wpAnyH _ _ _ _ _ _ _ (Act.put _ (some 180) _) _
  simp only [Act.put, List.setIfInBounds_toArray, List.set_cons_zero, List.set_cons_succ]
  refine wpAnyH_take (i := 1) (v := ?_) rfl (by kernel_rfl) (by kernel_rfl) (by kernel_rfl) (fun _ _ _ h => h) (Or.inl ⟨by rfl, ?_⟩) HH.out ?_
  rotate_left
  · intro w hSw; go_simp; try with_reducible rfl
  change wpAnyH _ _ _ _ _ _ _ (Act.put _ (some 181) _) _
  simp only [Act.put, List.setIfInBounds_toArray, List.set_cons_zero, List.set_cons_succ]
  refine wpAnyH_take (i := 2) (v := ?_) rfl (by kernel_rfl) (by kernel_rfl) (by kernel_rfl) (fun _ _ _ h => h) (Or.inl ⟨by rfl, ?_⟩) HH.out ?_
  rotate_left
  · intro w hSw; go_simp; try with_reducible rfl
  change wpAnyH _ _ _ _ _ _ _ (Act.put _ (some 182) _) _
  simp only [Act.put, List.setIfInBounds_toArray, List.set_cons_zero, List.set_cons_succ]
  refine wpAnyH_take (i := 3) rfl (by kernel_rfl) (by kernel_rfl) (by kernel_rfl) (fun _ _ _ h => h) (yieldsIf_load1 (by rfl) _ _ rfl _ _ rfl one32 _ (fun w hSw => kI _ (Ext.trans (by (repeat (first | with_reducible exact Ext.refl _ | with_reducible assumption | refine Ext.trans ?_ (by with_reducible assumption) | refine Ext.alloc ?_ _ _ | refine Ext.drew ?_ | refine Ext.drewN ?_ _))) hSw))) HH.out ?_
  change wpAnyH _ _ _ _ _ _ _ (Act.put _ (some 183) _) _
  simp only [Act.put, List.setIfInBounds_toArray, List.set_cons_zero, List.set_cons_succ]
  refine wpAnyH_take (i := 4) (v := ?_) rfl (by kernel_rfl) (by kernel_rfl) (by kernel_rfl) (fun _ _ _ h => h) (Or.inl ⟨by rfl, ?_⟩) HH.out ?_
  rotate_left
  · intro w hSw; go_simp; try with_reducible rfl
  change wpAnyH _ _ _ _ _ _ _ (Act.put _ (some 184) _) _
  simp only [Act.put, List.setIfInBounds_toArray, List.set_cons_zero, List.set_cons_succ]
  refine wpAnyH_ready (rs := [5]) (by kernel_rfl) (by simp) ?_
  refine AllReadyH.cons rfl (fun K hK => ?_) AllReadyH.nil
  go_simp
  (go_at_call 42; refine (nNum O _ _ (hO.ext (by (repeat (first | with_reducible exact Ext.refl _ | with_reducible assumption | refine Ext.trans ?_ (by with_reducible assumption) | refine Ext.alloc ?_ _ _ | refine Ext.drew ?_ | refine Ext.drewN ?_ _)))) (by first | decide | omega)).mono ?_; rintro e w1 ⟨r, rfl, hr, he⟩)
  refine hK.out _ _ ?_ (fun hHeld => ?_)
  · first | exact HH.out.trans hmY | exact HH.out.trans he | exact HH.out
  clear hK K HH
  have HH : Hid (Ext W0 _) := hHeld
  clear hHeld
  refine wpAnyH_ready (rs := [6]) (by kernel_rfl) (by simp) ?_
  refine AllReadyH.cons rfl (fun K hK => ?_) AllReadyH.nil
  go_simp
  (go_at_call 155; refine (yCut (hO.ext (by (repeat (first | with_reducible exact Ext.refl _ | with_reducible assumption | refine Ext.trans ?_ (by with_reducible assumption) | refine Ext.alloc ?_ _ _ | refine Ext.drew ?_ | refine Ext.drewN ?_ _)))) (hnl.ext (by (repeat (first | with_reducible exact Ext.refl _ | with_reducible assumption | refine Ext.trans ?_ (by with_reducible assumption) | refine Ext.alloc ?_ _ _ | refine Ext.drew ?_ | refine Ext.drewN ?_ _)))) (NV.ext (by with_reducible assumption) (by (repeat (first | with_reducible exact Ext.refl _ | with_reducible assumption | refine Ext.trans ?_ (by with_reducible assumption) | refine Ext.alloc ?_ _ _ | refine Ext.drew ?_ | refine Ext.drewN ?_ _)))) (NV.ext (by with_reducible assumption) (by (repeat (first | with_reducible exact Ext.refl _ | with_reducible assumption | refine Ext.trans ?_ (by with_reducible assumption) | refine Ext.alloc ?_ _ _ | refine Ext.drew ?_ | refine Ext.drewN ?_ _)))) (by first | decide | omega)).mono ?_; rintro e w1 ⟨r, rfl, hrl, he⟩)
  refine hK.out _ _ ?_ (fun hHeld => ?_)
  · first | exact HH.out.trans hmY | exact HH.out.trans he | exact HH.out
  clear hK K HH
  have HH : Hid (Ext W0 _) := hHeld
  clear hHeld
  refine wpAnyH_ready (rs := [7]) (by kernel_rfl) (by simp) ?_
  refine AllReadyH.cons rfl (fun K hK => ?_) AllReadyH.nil
  go_simp
  (go_at_call 43; refine (nFromBE (hO.ext (by (repeat (first | with_reducible exact Ext.refl _ | with_reducible assumption | refine Ext.trans ?_ (by with_reducible assumption) | refine Ext.alloc ?_ _ _ | refine Ext.drew ?_ | refine Ext.drewN ?_ _)))) (hrl.ext (by (repeat (first | with_reducible exact Ext.refl _ | with_reducible assumption | refine Ext.trans ?_ (by with_reducible assumption) | refine Ext.alloc ?_ _ _ | refine Ext.drew ?_ | refine Ext.drewN ?_ _))))).mono ?_; rintro e w1 ⟨r, rfl, hr, he⟩)
  refine hK.out _ _ ?_ (fun hHeld => ?_)
  · first | exact HH.out.trans hmY | exact HH.out.trans he | exact HH.out
  clear hK K HH
  have HH : Hid (Ext W0 _) := hHeld
  clear hHeld
  refine wpAnyH_take (i := 8) (v := ?_) rfl (by kernel_rfl) (by kernel_rfl) (by kernel_rfl) (fun _ _ _ h => h) (Or.inl ⟨by rfl, ?_⟩) HH.out ?_
  rotate_left
  · intro w hSw; go_simp; try with_reducible rfl
  change wpAnyH _ _ _ _ _ _ _ (Act.put _ (some 8) _) _
  simp only [Act.put, List.setIfInBounds_toArray, List.set_cons_zero, List.set_cons_succ]
  refine wpAnyH_done (by kernel_rfl) ?_ _
  go_wp2
  go_ret
  exact ⟨_, rfl, NV.ext hr (by (repeat (first | with_reducible exact Ext.refl _ | with_reducible assumption | refine Ext.trans ?_ (by with_reducible assumption) | refine Ext.alloc ?_ _ _ | refine Ext.drew ?_ | refine Ext.drewN ?_ _))), by (repeat (first | with_reducible exact Ext.refl _ | with_reducible assumption | refine Ext.trans ?_ (by with_reducible assumption) | refine Ext.alloc ?_ _ _ | refine Ext.drew ?_ | refine Ext.drewN ?_ _))⟩
set_option maxRecDepth 100000 in
set_option maxHeartbeats 6400000 in
theorem yVal92 (hX : YX kk O TM TL w Y F q n tF c d W start st f) {vg : Value} {args : List Nat} (hA : NumL O w vg args) : Calls Hvah.prog 161 #[.pointer (some ⟨Y, 0, none⟩), .pointer (some ⟨F, q, none⟩), .int .u8 92, vg] w fun e w' => ∃ r, e = .returned r ∧ NV O w' r (st.now.temp f.self (args.getD 0 0)) ∧ Ext w w' := by
  have hO := hX.small
  have hok := hX.ok
  have hq := hX.hq
  have ho : 92 < 256 := by decide
  have hfam : famA 92 = 8 := by decide
  go_enter Hvah.func161, Hvah.ntmps161
  go_wp2_with (first
    | (go_at_call 237; refine (yOperand _ (NumL.ext hA (by (repeat (first | with_reducible exact Ext.refl _ | with_reducible assumption | refine Ext.trans ?_ (by with_reducible assumption) | refine Ext.alloc ?_ _ _ | refine Ext.drew ?_ | refine Ext.drewN ?_ _)))) _).mono ?_; rintro e w1 ⟨r, rfl, hr, hww⟩; replace hww := hww.symm; subst hww)
    | (go_at_call 19; refine (opFamily _ (by first | assumption | decide) _).mono ?_; rintro e w1 ⟨rfl, hww⟩; replace hww := hww.symm; subst hww))
  refine w_ext ?_
  rintro W0 hW0
  have hX0 := hX.ext (show Ext w W0 by (repeat (first | with_reducible exact Ext.refl _ | with_reducible assumption | refine Ext.trans ?_ (by with_reducible assumption) | refine Ext.alloc ?_ _ _ | refine Ext.drew ?_ | refine Ext.drewN ?_ _)))
  refine wp_region_held_drew (S := fun w' => Ext W0 w') (by kernel_rfl) (Ext.refl _).drew (fun hHeld => ?_)
  have HH : Hid (Ext W0 _) := hHeld
  clear hHeld
  refine wpAnyH_take (i := 0) (v := ?_) rfl (by kernel_rfl) (by kernel_rfl) (by kernel_rfl) (fun _ _ _ h => h) (Or.inl ⟨by rfl, ?_⟩) HH.out ?_
  rotate_left
  · intro w hSw; go_simp; try with_reducible rfl
  change wpAnyH _ _ _ _ _ _ _ (Act.put _ (some 210) _) _
  simp only [Act.put, List.setIfInBounds_toArray, List.set_cons_zero, List.set_cons_succ]
  refine wpAnyH_take (i := 1) (v := ?_) rfl (by kernel_rfl) (by kernel_rfl) (by kernel_rfl) (fun _ _ _ h => h) (Or.inl ⟨by rfl, ?_⟩) HH.out ?_
  rotate_left
  · intro w hSw; go_simp; try with_reducible rfl
  change wpAnyH _ _ _ _ _ _ _ (Act.put _ (some 211) _) _
  simp only [Act.put, List.setIfInBounds_toArray, List.set_cons_zero, List.set_cons_succ]
  refine wpAnyH_take (i := 2) (v := ?_) rfl (by kernel_rfl) (by kernel_rfl) (by kernel_rfl) (fun _ _ _ h => h) (Or.inl ⟨by rfl, ?_⟩) HH.out ?_
  rotate_left
  · intro w hSw; go_simp; try with_reducible rfl
  change wpAnyH _ _ _ _ _ _ _ (Act.put _ (some 212) _) _
  simp only [Act.put, List.setIfInBounds_toArray, List.set_cons_zero, List.set_cons_succ]
  refine wpAnyH_take (i := 3) (v := ?_) rfl (by kernel_rfl) (by kernel_rfl) (by kernel_rfl) (fun _ _ _ h => h) (Or.inl ⟨by rfl, ?_⟩) HH.out ?_
  rotate_left
  · intro w hSw; go_simp; try with_reducible rfl
  change wpAnyH _ _ _ _ _ _ _ (Act.put _ (some 213) _) _
  simp only [Act.put, List.setIfInBounds_toArray, List.set_cons_zero, List.set_cons_succ]
  refine wpAnyH_take (i := 4) (v := ?_) rfl (by kernel_rfl) (by kernel_rfl) (by kernel_rfl) (fun _ _ _ h => h) (Or.inl ⟨by rfl, ?_⟩) HH.out ?_
  rotate_left
  · intro w hSw; go_simp; try with_reducible rfl
  change wpAnyH _ _ _ _ _ _ _ (Act.put _ (some 214) _) _
  simp only [Act.put, List.setIfInBounds_toArray, List.set_cons_zero, List.set_cons_succ]
  refine wpAnyH_take (i := 5) (v := ?_) rfl (by kernel_rfl) (by kernel_rfl) (by kernel_rfl) (fun _ _ _ h => h) (Or.inl ⟨by rfl, ?_⟩) HH.out ?_
  rotate_left
  · intro w hSw; go_simp; try with_reducible rfl
  change wpAnyH _ _ _ _ _ _ _ (Act.put _ (some 215) _) _
  simp only [Act.put, List.setIfInBounds_toArray, List.set_cons_zero, List.set_cons_succ]
  refine wpAnyH_take (i := 6) rfl (by kernel_rfl) (by kernel_rfl) (by kernel_rfl) (fun _ _ _ h => h) (yieldsIf_load_mid (by rfl) _ _ rfl _ _ rfl _ _ (fun w hSw => rng_av hX0.fc.self hX0.ok.self (hX0.bF.ext hSw) (by have := hX0.hq; omega)) under25 rfl (sz_av hX0.ok.self)) HH.out ?_
  change wpAnyH _ _ _ _ _ _ _ (Act.put _ (some 216) _) _
  simp only [Act.put, List.setIfInBounds_toArray, List.set_cons_zero, List.set_cons_succ]
  refine wpAnyH_take (i := 7) (v := ?_) rfl (by kernel_rfl) (by kernel_rfl) (by kernel_rfl) (fun _ _ _ h => h) (Or.inl ⟨by rfl, ?_⟩) HH.out ?_
  rotate_left
  · intro w hSw; go_simp; try with_reducible rfl
  change wpAnyH _ _ _ _ _ _ _ (Act.put _ (some 217) _) _
  simp only [Act.put, List.setIfInBounds_toArray, List.set_cons_zero, List.set_cons_succ]
  refine wpAnyH_ready (rs := [8]) (by kernel_rfl) (by simp) ?_
  refine AllReadyH.cons rfl (fun K hK => ?_) AllReadyH.nil
  go_simp
  (go_at_call 242; refine (xTload (hX.ext (by (repeat (first | with_reducible exact Ext.refl _ | with_reducible assumption | refine Ext.trans ?_ (by with_reducible assumption) | refine Ext.alloc ?_ _ _ | refine Ext.drew ?_ | refine Ext.drewN ?_ _)))) _ (by first | exact hX.ok.self | exact hX.ok.caller | exact Nat.mod_lt _ (by decide) | assumption) _ _ (NV.ext (by with_reducible assumption) (by (repeat (first | with_reducible exact Ext.refl _ | with_reducible assumption | refine Ext.trans ?_ (by with_reducible assumption) | refine Ext.alloc ?_ _ _ | refine Ext.drew ?_ | refine Ext.drewN ?_ _))))).mono ?_; rintro e w1 ⟨r, rfl, hr, he⟩)
  refine hK.out _ _ ?_ (fun hHeld => ?_)
  · first | exact HH.out.trans hmY | exact HH.out.trans he | exact HH.out
  clear hK K HH
  have HH : Hid (Ext W0 _) := hHeld
  clear hHeld
  refine wpAnyH_take (i := 9) (v := ?_) rfl (by kernel_rfl) (by kernel_rfl) (by kernel_rfl) (fun _ _ _ h => h) (Or.inl ⟨by rfl, ?_⟩) HH.out ?_
  rotate_left
  · intro w hSw; go_simp; try with_reducible rfl
  change wpAnyH _ _ _ _ _ _ _ (Act.put _ (some 8) _) _
  simp only [Act.put, List.setIfInBounds_toArray, List.set_cons_zero, List.set_cons_succ]
  refine wpAnyH_done (by kernel_rfl) ?_ _
  go_wp2
  go_ret
  exact ⟨_, rfl, NV.ext hr (by (repeat (first | with_reducible exact Ext.refl _ | with_reducible assumption | refine Ext.trans ?_ (by with_reducible assumption) | refine Ext.alloc ?_ _ _ | refine Ext.drew ?_ | refine Ext.drewN ?_ _))), by (repeat (first | with_reducible exact Ext.refl _ | with_reducible assumption | refine Ext.trans ?_ (by with_reducible assumption) | refine Ext.alloc ?_ _ _ | refine Ext.drew ?_ | refine Ext.drewN ?_ _))⟩
set_option maxRecDepth 100000 in
set_option maxHeartbeats 6400000 in
theorem yVal88 (hX : YX kk O TM TL w Y F q n tF c d W start st f) {vg : Value} {args : List Nat} (hA : NumL O w vg args) : Calls Hvah.prog 161 #[.pointer (some ⟨Y, 0, none⟩), .pointer (some ⟨F, q, none⟩), .int .u8 88, vg] w fun e w' => ∃ r, e = .returned r ∧ NV O w' r (f.pc) ∧ Ext w w' := by
  have hO := hX.small
  have hok := hX.ok
  have hq := hX.hq
  have ho : 88 < 256 := by decide
  have hfam : famA 88 = 4 := by decide
  have hv := hX.fc.pc
  go_enter Hvah.func161, Hvah.ntmps161
  go_wp2_with (first
    | (go_at_call 237; refine (yOperand _ (NumL.ext hA (by (repeat (first | with_reducible exact Ext.refl _ | with_reducible assumption | refine Ext.trans ?_ (by with_reducible assumption) | refine Ext.alloc ?_ _ _ | refine Ext.drew ?_ | refine Ext.drewN ?_ _)))) _).mono ?_; rintro e w1 ⟨r, rfl, hr, hww⟩; replace hww := hww.symm; subst hww)
    | (go_at_call 19; refine (opFamily _ (by first | assumption | decide) _).mono ?_; rintro e w1 ⟨rfl, hww⟩; replace hww := hww.symm; subst hww)
    | ((with_reducible (refine Veil.out ?_; apply wl_load1 one96)); (case hx => rfl); (case hB => exact (hX.bF.ext (by (repeat (first | with_reducible exact Ext.refl _ | with_reducible assumption | refine Ext.trans ?_ (by with_reducible assumption) | refine Ext.alloc ?_ _ _ | refine Ext.drew ?_ | refine Ext.drewN ?_ _))))); (case ho => first | decide | (have := hX.hq; omega)))
    | (go_at_call 132; refine (nNorm O _ _ _ (hO.ext (by (repeat (first | with_reducible exact Ext.refl _ | with_reducible assumption | refine Ext.trans ?_ (by with_reducible assumption) | refine Ext.alloc ?_ _ _ | refine Ext.drew ?_ | refine Ext.drewN ?_ _)))) (NV.ext (by with_reducible assumption) (by (repeat (first | with_reducible exact Ext.refl _ | with_reducible assumption | refine Ext.trans ?_ (by with_reducible assumption) | refine Ext.alloc ?_ _ _ | refine Ext.drew ?_ | refine Ext.drewN ?_ _))))).mono ?_; rintro e w1 ⟨r, rfl, hr0, he⟩; have hr := hr0.nv))
  go_ret
  exact ⟨_, rfl, NV.ext hr (by (repeat (first | with_reducible exact Ext.refl _ | with_reducible assumption | refine Ext.trans ?_ (by with_reducible assumption) | refine Ext.alloc ?_ _ _ | refine Ext.drew ?_ | refine Ext.drewN ?_ _))), by (repeat (first | with_reducible exact Ext.refl _ | with_reducible assumption | refine Ext.trans ?_ (by with_reducible assumption) | refine Ext.alloc ?_ _ _ | refine Ext.drew ?_ | refine Ext.drewN ?_ _))⟩
set_option maxRecDepth 100000 in
set_option maxHeartbeats 6400000 in
theorem yVal89 (hX : YX kk O TM TL w Y F q n tF c d W start st f) {vg : Value} {args : List Nat} (hA : NumL O w vg args) : Calls Hvah.prog 161 #[.pointer (some ⟨Y, 0, none⟩), .pointer (some ⟨F, q, none⟩), .int .u8 89, vg] w fun e w' => ∃ r, e = .returned r ∧ NV O w' r (f.mem.length) ∧ Ext w w' := by
  have hO := hX.small
  have hok := hX.ok
  have hq := hX.hq
  have ho : 89 < 256 := by decide
  have hfam : famA 89 = 2 := by decide
  obtain ⟨oi, ci, hid, hi1, hi2, hi3⟩ := hX.fc.memNL
  have hnl : NL (fun _ => False) w (.slice oi f.mem.length ci) f.mem := ⟨oi, ci, rfl, hi1, hi2, hi3⟩
  have hll : (f.mem.length : Int) ≤ 140737488355328 := by omega
  have hlw : IntKind.u64.wrap (f.mem.length : Int) = f.mem.length := by rw [IntKind.wrap_u64]; omega
  have kI : ∀ W, Ext w W → W.cell? ⟨F, q + 9, none⟩ = some (.slice oi f.mem.length ci) := fun W hW => by rw [← hid]; exact (hX.bF.ext hW).cell (by omega)
  go_enter Hvah.func161, Hvah.ntmps161
  go_wp2_with (first
    | (go_at_call 237; refine (yOperand _ (NumL.ext hA (by (repeat (first | with_reducible exact Ext.refl _ | with_reducible assumption | refine Ext.trans ?_ (by with_reducible assumption) | refine Ext.alloc ?_ _ _ | refine Ext.drew ?_ | refine Ext.drewN ?_ _)))) _).mono ?_; rintro e w1 ⟨r, rfl, hr, hww⟩; replace hww := hww.symm; subst hww)
    | (go_at_call 19; refine (opFamily _ (by first | assumption | decide) _).mono ?_; rintro e w1 ⟨rfl, hww⟩; replace hww := hww.symm; subst hww)
    | ((with_reducible (refine Veil.out ?_; apply wl_load1 one32)); (case hx => rfl); (case hB => exact (hX.bF.ext (by (repeat (first | with_reducible exact Ext.refl _ | with_reducible assumption | refine Ext.trans ?_ (by with_reducible assumption) | refine Ext.alloc ?_ _ _ | refine Ext.drew ?_ | refine Ext.drewN ?_ _))))); (case ho => first | decide | (have := hX.hq; omega)))
    | (go_at_call 42; refine (nNum O f.mem.length _ (hO.ext (by (repeat (first | with_reducible exact Ext.refl _ | with_reducible assumption | refine Ext.trans ?_ (by with_reducible assumption) | refine Ext.alloc ?_ _ _ | refine Ext.drew ?_ | refine Ext.drewN ?_ _)))) (by omega)).mono ?_; rintro e w1 ⟨r, rfl, hr, he⟩))
  go_ret
  exact ⟨_, rfl, NV.ext hr (by (repeat (first | with_reducible exact Ext.refl _ | with_reducible assumption | refine Ext.trans ?_ (by with_reducible assumption) | refine Ext.alloc ?_ _ _ | refine Ext.drew ?_ | refine Ext.drewN ?_ _))), by (repeat (first | with_reducible exact Ext.refl _ | with_reducible assumption | refine Ext.trans ?_ (by with_reducible assumption) | refine Ext.alloc ?_ _ _ | refine Ext.drew ?_ | refine Ext.drewN ?_ _))⟩
set_option maxRecDepth 100000 in
set_option maxHeartbeats 6400000 in
theorem yVal90 (hX : YX kk O TM TL w Y F q n tF c d W start st f) {vg : Value} {args : List Nat} (hA : NumL O w vg args) : Calls Hvah.prog 161 #[.pointer (some ⟨Y, 0, none⟩), .pointer (some ⟨F, q, none⟩), .int .u8 90, vg] w fun e w' => ∃ r, e = .returned r ∧ NV O w' r (f.gas) ∧ Ext w w' := by
  have hO := hX.small
  have hok := hX.ok
  have hq := hX.hq
  have ho : 90 < 256 := by decide
  have hfam : famA 90 = 4 := by decide
  have hv := hX.fc.gas
  go_enter Hvah.func161, Hvah.ntmps161
  go_wp2_with (first
    | (go_at_call 237; refine (yOperand _ (NumL.ext hA (by (repeat (first | with_reducible exact Ext.refl _ | with_reducible assumption | refine Ext.trans ?_ (by with_reducible assumption) | refine Ext.alloc ?_ _ _ | refine Ext.drew ?_ | refine Ext.drewN ?_ _)))) _).mono ?_; rintro e w1 ⟨r, rfl, hr, hww⟩; replace hww := hww.symm; subst hww)
    | (go_at_call 19; refine (opFamily _ (by first | assumption | decide) _).mono ?_; rintro e w1 ⟨rfl, hww⟩; replace hww := hww.symm; subst hww)
    | ((with_reducible (refine Veil.out ?_; apply wl_load1 one96)); (case hx => rfl); (case hB => exact (hX.bF.ext (by (repeat (first | with_reducible exact Ext.refl _ | with_reducible assumption | refine Ext.trans ?_ (by with_reducible assumption) | refine Ext.alloc ?_ _ _ | refine Ext.drew ?_ | refine Ext.drewN ?_ _))))); (case ho => first | decide | (have := hX.hq; omega)))
    | (go_at_call 132; refine (nNorm O _ _ _ (hO.ext (by (repeat (first | with_reducible exact Ext.refl _ | with_reducible assumption | refine Ext.trans ?_ (by with_reducible assumption) | refine Ext.alloc ?_ _ _ | refine Ext.drew ?_ | refine Ext.drewN ?_ _)))) (NV.ext (by with_reducible assumption) (by (repeat (first | with_reducible exact Ext.refl _ | with_reducible assumption | refine Ext.trans ?_ (by with_reducible assumption) | refine Ext.alloc ?_ _ _ | refine Ext.drew ?_ | refine Ext.drewN ?_ _))))).mono ?_; rintro e w1 ⟨r, rfl, hr0, he⟩; have hr := hr0.nv))
  go_ret
  exact ⟨_, rfl, NV.ext hr (by (repeat (first | with_reducible exact Ext.refl _ | with_reducible assumption | refine Ext.trans ?_ (by with_reducible assumption) | refine Ext.alloc ?_ _ _ | refine Ext.drew ?_ | refine Ext.drewN ?_ _))), by (repeat (first | with_reducible exact Ext.refl _ | with_reducible assumption | refine Ext.trans ?_ (by with_reducible assumption) | refine Ext.alloc ?_ _ _ | refine Ext.drew ?_ | refine Ext.drewN ?_ _))⟩
set_option maxRecDepth 100000 in
set_option maxHeartbeats 6400000 in
theorem yVal32 (hX : YX kk O TM TL w Y F q n tF c d W start st f) {vg : Value} {args : List Nat} (hA : NumL O w vg args) (HK : KSum) (hn : args.getD 1 0 ≤ 717280) : Calls Hvah.prog 161 #[.pointer (some ⟨Y, 0, none⟩), .pointer (some ⟨F, q, none⟩), .int .u8 32, vg] w fun e w' => ∃ r, e = .returned r ∧ NV O w' r (kec (readA f.mem (args.getD 0 0) (args.getD 1 0))) ∧ Ext w w' := by
  have hO := hX.small
  have hok := hX.ok
  have hq := hX.hq
  have hln : (readA f.mem (args.getD 0 0) (args.getD 1 0)).length ≤ 1000000 := by
    unfold readA cutA
    split
    · exact Nat.zero_le _
    · rw [List.length_take]; omega
  go_enter Hvah.func161, Hvah.ntmps161
  go_wp2_with (first
    | (go_at_call 237; refine (yOperand _ (NumL.ext hA (by (repeat (first | with_reducible exact Ext.refl _ | with_reducible assumption | refine Ext.trans ?_ (by with_reducible assumption) | refine Ext.alloc ?_ _ _ | refine Ext.drew ?_ | refine Ext.drewN ?_ _)))) _).mono ?_; rintro e w1 ⟨r, rfl, hr, hww⟩; replace hww := hww.symm; subst hww)
    | (go_at_call 72; refine (yRead (hX.ext (by (repeat (first | with_reducible exact Ext.refl _ | with_reducible assumption | refine Ext.trans ?_ (by with_reducible assumption) | refine Ext.alloc ?_ _ _ | refine Ext.drew ?_ | refine Ext.drewN ?_ _)))).bF hX.hq (hO.ext (by (repeat (first | with_reducible exact Ext.refl _ | with_reducible assumption | refine Ext.trans ?_ (by with_reducible assumption) | refine Ext.alloc ?_ _ _ | refine Ext.drew ?_ | refine Ext.drewN ?_ _)))) (hX.fc.memNL.ext (by (repeat (first | with_reducible exact Ext.refl _ | with_reducible assumption | refine Ext.trans ?_ (by with_reducible assumption) | refine Ext.alloc ?_ _ _ | refine Ext.drew ?_ | refine Ext.drewN ?_ _)))) (NV.ext (by with_reducible assumption) (by (repeat (first | with_reducible exact Ext.refl _ | with_reducible assumption | refine Ext.trans ?_ (by with_reducible assumption) | refine Ext.alloc ?_ _ _ | refine Ext.drew ?_ | refine Ext.drewN ?_ _)))) (NV.ext (by with_reducible assumption) (by (repeat (first | with_reducible exact Ext.refl _ | with_reducible assumption | refine Ext.trans ?_ (by with_reducible assumption) | refine Ext.alloc ?_ _ _ | refine Ext.drew ?_ | refine Ext.drewN ?_ _)))) hn).mono ?_; rintro e w1 ⟨r, rfl, hrl, he⟩)
    | (go_at_call 224; refine (HK _ _ _ _ (hrl.ext (by (repeat (first | with_reducible exact Ext.refl _ | with_reducible assumption | refine Ext.trans ?_ (by with_reducible assumption) | refine Ext.alloc ?_ _ _ | refine Ext.drew ?_ | refine Ext.drewN ?_ _)))) hln).mono ?_; rintro e w1 ⟨rfl, he⟩)
    | ((with_reducible (refine Veil.out ?_; apply wl_allocL alT27)); rintro B W1 he hth hBl hBg)
    | ((with_reducible (refine Veil.out ?_; apply wl_storeB rt27)); (case hx => rfl); (case hy => rfl); (case hn => exact bw_size (kec_lt _)); (case hth => exact there_ext hth hBl (by (repeat (first | with_reducible exact Ext.refl _ | with_reducible assumption | refine Ext.trans ?_ (by with_reducible assumption) | refine Ext.alloc ?_ _ _ | refine Ext.drew ?_ | refine Ext.drewN ?_ _)))); (case hbl => exact Nat.lt_of_lt_of_le hBl (Ext.size (by (repeat (first | with_reducible exact Ext.refl _ | with_reducible assumption | refine Ext.trans ?_ (by with_reducible assumption) | refine Ext.alloc ?_ _ _ | refine Ext.drew ?_ | refine Ext.drewN ?_ _))))); (case h1 => exact bw_one _); rintro W2 hm hR hBl)
    | (go_at_call 43; refine (nFromR (hO.ext (by (repeat (first | with_reducible exact Ext.refl _ | with_reducible assumption | refine Ext.trans ?_ (by with_reducible assumption) | refine Ext.alloc ?_ _ _ | refine Ext.drew ?_ | refine Ext.drewN ?_ _ | refine Ext.trans_mod ?_ (by with_reducible assumption) (fun i hi => by have hi2 : i = _ := hi; rw [hi2]; refine Nat.le_trans ?_ (by with_reducible assumption); refine Ext.size ?_; (repeat (first | with_reducible exact Ext.refl _ | with_reducible assumption | refine Ext.trans ?_ (by with_reducible assumption) | refine Ext.alloc ?_ _ _ | refine Ext.drew ?_ | refine Ext.drewN ?_ _ | refine Ext.trans_mod ?_ (by with_reducible assumption) (fun i hi => by have hi2 : i = _ := hi; rw [hi2]; refine Nat.le_trans ?_ (by with_reducible assumption); refine Ext.size ?_; (repeat (first | with_reducible exact Ext.refl _ | with_reducible assumption | refine Ext.trans ?_ (by with_reducible assumption) | refine Ext.alloc ?_ _ _ | refine Ext.drew ?_ | refine Ext.drewN ?_ _)))))))))) hR (kec_lt _) hBl).mono ?_; rintro e w1 ⟨r, rfl, hr, he⟩))
  go_ret
  exact ⟨_, rfl, NV.ext hr (by (repeat (first | with_reducible exact Ext.refl _ | with_reducible assumption | refine Ext.trans ?_ (by with_reducible assumption) | refine Ext.alloc ?_ _ _ | refine Ext.drew ?_ | refine Ext.drewN ?_ _ | refine Ext.trans_mod ?_ (by with_reducible assumption) (fun i hi => by have hi2 : i = _ := hi; rw [hi2]; refine Nat.le_trans ?_ (by with_reducible assumption); refine Ext.size ?_; (repeat (first | with_reducible exact Ext.refl _ | with_reducible assumption | refine Ext.trans ?_ (by with_reducible assumption) | refine Ext.alloc ?_ _ _ | refine Ext.drew ?_ | refine Ext.drewN ?_ _ | refine Ext.trans_mod ?_ (by with_reducible assumption) (fun i hi => by have hi2 : i = _ := hi; rw [hi2]; refine Nat.le_trans ?_ (by with_reducible assumption); refine Ext.size ?_; (repeat (first | with_reducible exact Ext.refl _ | with_reducible assumption | refine Ext.trans ?_ (by with_reducible assumption) | refine Ext.alloc ?_ _ _ | refine Ext.drew ?_ | refine Ext.drewN ?_ _))))))))), by (repeat (first | with_reducible exact Ext.refl _ | with_reducible assumption | refine Ext.trans ?_ (by with_reducible assumption) | refine Ext.alloc ?_ _ _ | refine Ext.drew ?_ | refine Ext.drewN ?_ _ | refine Ext.trans_mod ?_ (by with_reducible assumption) (fun i hi => by have hi2 : i = _ := hi; rw [hi2]; refine Nat.le_trans ?_ (by with_reducible assumption); refine Ext.size ?_; (repeat (first | with_reducible exact Ext.refl _ | with_reducible assumption | refine Ext.trans ?_ (by with_reducible assumption) | refine Ext.alloc ?_ _ _ | refine Ext.drew ?_ | refine Ext.drewN ?_ _ | refine Ext.trans_mod ?_ (by with_reducible assumption) (fun i hi => by have hi2 : i = _ := hi; rw [hi2]; refine Nat.le_trans ?_ (by with_reducible assumption); refine Ext.size ?_; (repeat (first | with_reducible exact Ext.refl _ | with_reducible assumption | refine Ext.trans ?_ (by with_reducible assumption) | refine Ext.alloc ?_ _ _ | refine Ext.drew ?_ | refine Ext.drewN ?_ _))))))))⟩
end
end Go.Proofs.YgvahwGreat
