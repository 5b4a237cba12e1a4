import Derived.Test.YgvahwGreatTj
import Derived.Test.YgvahwGreatTf
namespace Go.Proofs.YgvahwGreat
open Go.RowKit
set_option linter.unusedSimpArgs false
section
variable {O O' : Nat → Prop} {w : World} {v : Value} {l : List Nat}
set_option maxRecDepth 100000 in
theorem yBytesOf2 (hO : Small O w) (h : NL O' w v l) : Calls Hvah.prog 36 #[v] w fun e w' => ∃ r, e = .returned r ∧ NL O w' r l ∧ Ext w w' := by
  obtain ⟨o, c, rfl, hc, hm, hb⟩ := h
  have hd := hb.lt
  have hle : l.length ≤ 140737488355328 := by omega
  have hnil := fun W => Lib.run_eql_slice_nil (P := Hvah.prog) W 23 5 o l.length c 0 0 Hvah.underlying23
  cases o with
  | none =>
    have hl : l = [] := by
      apply Decidable.byContradiction
      intro hne
      obtain ⟨b, off, q, _⟩ := hb.spot hne
      cases q
    subst hl
    simp only [List.length_nil] at hnil
    go_enter Hvah.func36, Hvah.ntmps36
    go_wp2
    go_ret
    exact ⟨_, rfl, NL.nil, Ext.refl _⟩
  | some ad =>
    by_cases hne : l = []
    · subst hne
      simp only [List.length_nil] at hnil
      go_enter Hvah.func36, Hvah.ntmps36
      go_wp2_with (first
        | (at_make; refine wl_make_bytes Hvah.underlying23 0 rfl rfl hle ?_)
        | ((with_reducible (refine Veil.out ?_; apply wl_copy0 Hvah.underlying23)); (case hd => rfl); (case hs => rfl); (case hl => rfl)))
      go_ret
      exact ⟨_, rfl, ⟨_, 0, rfl, by simp, by decide, by simp, fun q => absurd rfl q⟩, (Ext.refl _).alloc _ _⟩
    · go_enter Hvah.func36, Hvah.ntmps36
      go_wp2_with (first
        | (at_make; refine wl_make_bytes Hvah.underlying23 l.length rfl rfl hle ?_)
        | ((with_reducible (refine Veil.out ?_; apply wl_copy_bytes Hvah.underlying23 (L := List.replicate l.length 0) (t := 5) (l := l))); (case hd => rfl); (case hs => rfl); (case hg => exact heap_new _ _); (case hl => simp); (case hsrc => exact (hb.ext ((Ext.refl _).alloc _ _)).src hne); (case hfit => simp)))
      go_ret
      refine ⟨_, rfl, ?_, ((Ext.refl _).alloc _ _).setRow (Nat.le_refl _) _⟩
      refine NL.row (t := 5) ?_ hd (fun hx => Nat.lt_irrefl _ (hO _ hx)) rfl hle
      rw [setRow_heap _ _ _ _ _ _ (heap_new _ _)]
end
theorem beL_last (x : Nat) (hx : x < P256) (h : 31 < (beL 32 x).length) : (beL 32 x)[31] = x % 256 := by
  have h1 : bev (beL 32 x) = x := bev_beL 32 x
  have hd := digits_beL 32 x
  have hl := len32 hx
  generalize beL 32 x = l at *
  have e : l.reverse = l[31] :: (l.take 31).reverse := by
    have : l = l.take 31 ++ [l[31]] := by
      conv => lhs; rw [← List.take_append_drop 31 l]
      congr 1
      rw [List.drop_eq_getElem_cons h, List.drop_of_length_le (by omega)]
    conv => lhs; rw [this]
    simp
  unfold bev at h1
  rw [e] at h1
  simp only [val] at h1
  have := hd _ (List.getElem_mem h)
  omega
theorem byte31 {w : World} {B x : Nat} (hR : RowIn w B 0 (bw x)) (hx : x < P256) (hB : B < w.heap.size) : NL (fun _ => False) w (.slice (some ⟨B, 31, none⟩) 1 1) [x % 256] := by
  refine ⟨_, 1, rfl, by simp, by decide, fun d hd => by rw [List.mem_singleton.1 hd]; exact Nat.mod_lt _ (by decide), fun _ => ⟨B, 31, rfl, fun q => q, hB, fun i hi => ?_⟩⟩
  have hi0 : i = 0 := by simpa using hi
  subst hi0
  have hl := len32 hx
  have := hR 31 (.int .u8 ((beL 32 x)[31]'(by omega) : Nat)) (by simp [bw, bcells, hl])
  rw [Nat.zero_add] at this
  rw [Nat.add_zero, this, beL_last x hx (by omega)]
  rfl
section
variable {kk : Nat → Value} {O TM TL : Nat → Prop} {w : World} {Y F q n : Nat} {tF : TypeId} {c d : Nat → Value} {W : YW} {start : List (Nat × Nat × Nat)} {st : ASt} {f : AFrame}
set_option maxRecDepth 100000 in
set_option maxHeartbeats 6400000 in
theorem yEff55 (hX : YX kk O TM TL w Y F q n tF c d W start st f) {vg : Value} {args : List Nat} (hA : NumL O w vg args) (hk : args.getD 2 0 ≤ 717280) (hok' : FOK { f with mem := copyA f.mem (args.getD 0 0) f.input (args.getD 1 0) (args.getD 2 0) }) : Calls Hvah.prog 162 #[.pointer (some ⟨Y, 0, none⟩), .pointer (some ⟨F, q, none⟩), .int .u8 55, vg] w fun e w' => e = .returned (.bool true) ∧ YX kk O TM TL w' Y F q n tF c d W start st { f with mem := copyA f.mem (args.getD 0 0) f.input (args.getD 1 0) (args.getD 2 0) } ∧ Mod TM w w' := by
  have hO := hX.small
  have hq := hX.hq
  obtain ⟨oi, ci, hid, hi1, hi2, hi3⟩ := hX.fc.input
  have hnl : NL O w (.slice oi f.input.length ci) f.input := ⟨oi, ci, rfl, hi1, hi2, hi3⟩
  go_enter Hvah.func162, Hvah.ntmps162
  go_wp2_with (first
    | (go_at_call 237; refine (yOperand _ (NumL.ext hA (by (repeat (first | with_reducible exact Ext.refl _ | with_reducible assumption | refine Ext.trans ?_ (by with_reducible assumption) | refine Ext.alloc ?_ _ _ | refine Ext.drew ?_ | refine Ext.drewN ?_ _)))) _).mono ?_; rintro e w1 ⟨r, rfl, hr, hww⟩; replace hww := hww.symm; subst hww)
    | ((with_reducible (refine Veil.out ?_; apply wl_load1 one32)); (case hx => rfl); (case hB => exact (hX.bF.ext (by (repeat (first | with_reducible exact Ext.refl _ | with_reducible assumption | refine Ext.trans ?_ (by with_reducible assumption) | refine Ext.alloc ?_ _ _ | refine Ext.drew ?_ | refine Ext.drewN ?_ _))))); (case ho => first | decide | (have := hX.hq; omega)))
    | (go_at_call 243; refine (xCopied hX _ _ _ _ (NV.ext (by with_reducible assumption) (by (repeat (first | with_reducible exact Ext.refl _ | with_reducible assumption | refine Ext.trans ?_ (by with_reducible assumption) | refine Ext.alloc ?_ _ _ | refine Ext.drew ?_ | refine Ext.drewN ?_ _)))) hnl (NV.ext (by with_reducible assumption) (by (repeat (first | with_reducible exact Ext.refl _ | with_reducible assumption | refine Ext.trans ?_ (by with_reducible assumption) | refine Ext.alloc ?_ _ _ | refine Ext.drew ?_ | refine Ext.drewN ?_ _)))) (NV.ext (by with_reducible assumption) (by (repeat (first | with_reducible exact Ext.refl _ | with_reducible assumption | refine Ext.trans ?_ (by with_reducible assumption) | refine Ext.alloc ?_ _ _ | refine Ext.drew ?_ | refine Ext.drewN ?_ _)))) hk hok').mono ?_; rintro e w2 ⟨rfl, hX2, hm2⟩))
  go_ret
  exact ⟨rfl, hX2, hm2⟩
set_option maxRecDepth 100000 in
set_option maxHeartbeats 6400000 in
theorem yEff57 (hX : YX kk O TM TL w Y F q n tF c d W start st f) {vg : Value} {args : List Nat} (hA : NumL O w vg args) (hk : args.getD 2 0 ≤ 717280) (hok' : FOK { f with mem := copyA f.mem (args.getD 0 0) f.code (args.getD 1 0) (args.getD 2 0) }) : Calls Hvah.prog 162 #[.pointer (some ⟨Y, 0, none⟩), .pointer (some ⟨F, q, none⟩), .int .u8 57, vg] w fun e w' => e = .returned (.bool true) ∧ YX kk O TM TL w' Y F q n tF c d W start st { f with mem := copyA f.mem (args.getD 0 0) f.code (args.getD 1 0) (args.getD 2 0) } ∧ Mod TM w w' := by
  have hO := hX.small
  have hq := hX.hq
  obtain ⟨oi, ci, hid, hi1, hi2, hi3⟩ := hX.fc.code
  have hnl : NL O w (.slice oi f.code.length ci) f.code := ⟨oi, ci, rfl, hi1, hi2, hi3⟩
  go_enter Hvah.func162, Hvah.ntmps162
  go_wp2_with (first
    | (go_at_call 237; refine (yOperand _ (NumL.ext hA (by (repeat (first | with_reducible exact Ext.refl _ | with_reducible assumption | refine Ext.trans ?_ (by with_reducible assumption) | refine Ext.alloc ?_ _ _ | refine Ext.drew ?_ | refine Ext.drewN ?_ _)))) _).mono ?_; rintro e w1 ⟨r, rfl, hr, hww⟩; replace hww := hww.symm; subst hww)
    | ((with_reducible (refine Veil.out ?_; apply wl_load1 one32)); (case hx => rfl); (case hB => exact (hX.bF.ext (by (repeat (first | with_reducible exact Ext.refl _ | with_reducible assumption | refine Ext.trans ?_ (by with_reducible assumption) | refine Ext.alloc ?_ _ _ | refine Ext.drew ?_ | refine Ext.drewN ?_ _))))); (case ho => first | decide | (have := hX.hq; omega)))
    | (go_at_call 243; refine (xCopied hX _ _ _ _ (NV.ext (by with_reducible assumption) (by (repeat (first | with_reducible exact Ext.refl _ | with_reducible assumption | refine Ext.trans ?_ (by with_reducible assumption) | refine Ext.alloc ?_ _ _ | refine Ext.drew ?_ | refine Ext.drewN ?_ _)))) hnl (NV.ext (by with_reducible assumption) (by (repeat (first | with_reducible exact Ext.refl _ | with_reducible assumption | refine Ext.trans ?_ (by with_reducible assumption) | refine Ext.alloc ?_ _ _ | refine Ext.drew ?_ | refine Ext.drewN ?_ _)))) (NV.ext (by with_reducible assumption) (by (repeat (first | with_reducible exact Ext.refl _ | with_reducible assumption | refine Ext.trans ?_ (by with_reducible assumption) | refine Ext.alloc ?_ _ _ | refine Ext.drew ?_ | refine Ext.drewN ?_ _)))) hk hok').mono ?_; rintro e w2 ⟨rfl, hX2, hm2⟩))
  go_ret
  exact ⟨rfl, hX2, hm2⟩
set_option maxRecDepth 100000 in
set_option maxHeartbeats 6400000 in
theorem yEff62 (hX : YX kk O TM TL w Y F q n tF c d W start st f) {vg : Value} {args : List Nat} (hA : NumL O w vg args) (hk : args.getD 2 0 ≤ 717280) (hok' : FOK { f with mem := copyA f.mem (args.getD 0 0) st.ret (args.getD 1 0) (args.getD 2 0) }) : Calls Hvah.prog 162 #[.pointer (some ⟨Y, 0, none⟩), .pointer (some ⟨F, q, none⟩), .int .u8 62, vg] w fun e w' => e = .returned (.bool true) ∧ YX kk O TM TL w' Y F q n tF c d W start st { f with mem := copyA f.mem (args.getD 0 0) st.ret (args.getD 1 0) (args.getD 2 0) } ∧ Mod TM w w' := by
  have hO := hX.small
  have hq := hX.hq
  obtain ⟨oi, ci, hid, hi1, hi2, hi3⟩ := hX.ret
  have hnl : NL O w (.slice oi st.ret.length ci) st.ret := ⟨oi, ci, rfl, hi1, hi2, hi3⟩
  go_enter Hvah.func162, Hvah.ntmps162
  go_wp2_with (first
    | (go_at_call 237; refine (yOperand _ (NumL.ext hA (by (repeat (first | with_reducible exact Ext.refl _ | with_reducible assumption | refine Ext.trans ?_ (by with_reducible assumption) | refine Ext.alloc ?_ _ _ | refine Ext.drew ?_ | refine Ext.drewN ?_ _)))) _).mono ?_; rintro e w1 ⟨r, rfl, hr, hww⟩; replace hww := hww.symm; subst hww)
    | ((with_reducible (refine Veil.out ?_; apply wl_load1 one32)); (case hx => rfl); (case hB => exact (hX.bY.ext (by (repeat (first | with_reducible exact Ext.refl _ | with_reducible assumption | refine Ext.trans ?_ (by with_reducible assumption) | refine Ext.alloc ?_ _ _ | refine Ext.drew ?_ | refine Ext.drewN ?_ _))))); (case ho => first | decide | (have := hX.hq; omega)))
    | (go_at_call 243; refine (xCopied hX _ _ _ _ (NV.ext (by with_reducible assumption) (by (repeat (first | with_reducible exact Ext.refl _ | with_reducible assumption | refine Ext.trans ?_ (by with_reducible assumption) | refine Ext.alloc ?_ _ _ | refine Ext.drew ?_ | refine Ext.drewN ?_ _)))) hnl (NV.ext (by with_reducible assumption) (by (repeat (first | with_reducible exact Ext.refl _ | with_reducible assumption | refine Ext.trans ?_ (by with_reducible assumption) | refine Ext.alloc ?_ _ _ | refine Ext.drew ?_ | refine Ext.drewN ?_ _)))) (NV.ext (by with_reducible assumption) (by (repeat (first | with_reducible exact Ext.refl _ | with_reducible assumption | refine Ext.trans ?_ (by with_reducible assumption) | refine Ext.alloc ?_ _ _ | refine Ext.drew ?_ | refine Ext.drewN ?_ _)))) hk hok').mono ?_; rintro e w2 ⟨rfl, hX2, hm2⟩))
  go_ret
  exact ⟨rfl, hX2, hm2⟩
set_option maxRecDepth 100000 in
set_option maxHeartbeats 6400000 in
theorem yEff94 (hX : YX kk O TM TL w Y F q n tF c d W start st f) {vg : Value} {args : List Nat} (hA : NumL O w vg args) (hk : args.getD 2 0 ≤ 717280) (hok' : FOK { f with mem := copyA f.mem (args.getD 0 0) f.mem (args.getD 1 0) (args.getD 2 0) }) : Calls Hvah.prog 162 #[.pointer (some ⟨Y, 0, none⟩), .pointer (some ⟨F, q, none⟩), .int .u8 94, vg] w fun e w' => e = .returned (.bool true) ∧ YX kk O TM TL w' Y F q n tF c d W start st { f with mem := copyA f.mem (args.getD 0 0) f.mem (args.getD 1 0) (args.getD 2 0) } ∧ Mod TM w w' := by
  have hO := hX.small
  have hq := hX.hq
  obtain ⟨oi, ci, hid, hi1, hi2, hi3⟩ := hX.fc.memNL
  have hnl0 : NL (fun _ => False) w (.slice oi f.mem.length ci) f.mem := ⟨oi, ci, rfl, hi1, hi2, hi3⟩
  go_enter Hvah.func162, Hvah.ntmps162
  go_wp2_with (first
    | (go_at_call 237; refine (yOperand _ (NumL.ext hA (by (repeat (first | with_reducible exact Ext.refl _ | with_reducible assumption | refine Ext.trans ?_ (by with_reducible assumption) | refine Ext.alloc ?_ _ _ | refine Ext.drew ?_ | refine Ext.drewN ?_ _)))) _).mono ?_; rintro e w1 ⟨r, rfl, hr, hww⟩; replace hww := hww.symm; subst hww)
    | ((with_reducible (refine Veil.out ?_; apply wl_load1 one32)); (case hx => rfl); (case hB => exact (hX.bF.ext (by (repeat (first | with_reducible exact Ext.refl _ | with_reducible assumption | refine Ext.trans ?_ (by with_reducible assumption) | refine Ext.alloc ?_ _ _ | refine Ext.drew ?_ | refine Ext.drewN ?_ _))))); (case ho => first | decide | (have := hX.hq; omega)))
    | (go_at_call 36; refine (yBytesOf2 hO hnl0).mono ?_; rintro e w3 ⟨r3, rfl, hnl, he3⟩)
    | (go_at_call 243; refine (xCopied (hX.ext he3) _ _ _ _ (NV.ext (by with_reducible assumption) (by (repeat (first | with_reducible exact Ext.refl _ | with_reducible assumption | refine Ext.trans ?_ (by with_reducible assumption) | refine Ext.alloc ?_ _ _ | refine Ext.drew ?_ | refine Ext.drewN ?_ _)))) hnl (NV.ext (by with_reducible assumption) (by (repeat (first | with_reducible exact Ext.refl _ | with_reducible assumption | refine Ext.trans ?_ (by with_reducible assumption) | refine Ext.alloc ?_ _ _ | refine Ext.drew ?_ | refine Ext.drewN ?_ _)))) (NV.ext (by with_reducible assumption) (by (repeat (first | with_reducible exact Ext.refl _ | with_reducible assumption | refine Ext.trans ?_ (by with_reducible assumption) | refine Ext.alloc ?_ _ _ | refine Ext.drew ?_ | refine Ext.drewN ?_ _)))) hk hok').mono ?_; rintro e w2 ⟨rfl, hX2, hm2⟩))
  go_ret
  exact ⟨rfl, hX2, (he3.mod _).trans hm2⟩
set_option maxRecDepth 100000 in
set_option maxHeartbeats 6400000 in
theorem yEff60 (hX : YX kk O TM TL w Y F q n tF c d W start st f) {vg : Value} {args : List Nat} (hA : NumL O w vg args) (hl : YLim (W.warm (addrA (args.getD 0 0)))) (hk : args.getD 3 0 ≤ 717280) (hok' : FOK { f with mem := copyA f.mem (args.getD 1 0) (W.acct (addrA (args.getD 0 0))).code (args.getD 2 0) (args.getD 3 0) }) : Calls Hvah.prog 162 #[.pointer (some ⟨Y, 0, none⟩), .pointer (some ⟨F, q, none⟩), .int .u8 60, vg] w fun e w' => ∃ c', e = .returned (.bool true) ∧ YX kk O TM TL w' Y F q n tF c' d (W.warm (addrA (args.getD 0 0))) start { st with now := st.now.warm (addrA (args.getD 0 0)) } { f with mem := copyA f.mem (args.getD 1 0) (W.acct (addrA (args.getD 0 0))).code (args.getD 2 0) (args.getD 3 0) } ∧ Mod (fun b => b = Y ∨ TM b) w w' := by
  have hO := hX.small
  have hq := hX.hq
  have hsY := hX.hsY
  go_enter Hvah.func162, Hvah.ntmps162
  go_wp2_with (first
    | (go_at_call 237; refine (yOperand _ (NumL.ext hA (by (repeat (first | with_reducible exact Ext.refl _ | with_reducible assumption | refine Ext.trans ?_ (by with_reducible assumption) | refine Ext.alloc ?_ _ _ | refine Ext.drew ?_ | refine Ext.drewN ?_ _)))) _).mono ?_; rintro e w1 ⟨r, rfl, hr, hww⟩; replace hww := hww.symm; subst hww))
  refine w_ext ?_
  rintro W0 hW0
  have hX0 := hX.ext (w' := W0) (by (repeat (first | with_reducible exact Ext.refl _ | with_reducible assumption | refine Ext.trans ?_ (by with_reducible assumption) | refine Ext.alloc ?_ _ _ | refine Ext.drew ?_ | refine Ext.drewN ?_ _)))
  refine wp_region_held_drew (S := fun w' => Mod (fun x => x = Y) W0 w') (by kernel_rfl) (Mod.refl _ _).drew (fun hHeld => ?_)
  have HH : Hid (Mod (fun x => x = Y) W0 _) := hHeld
  clear hHeld
  refine wpAnyH_take (i := 0) (v := ?_) rfl (by kernel_rfl) (by kernel_rfl) (by kernel_rfl) (fun _ _ _ h => h) (Or.inl ⟨by rfl, ?_⟩) HH.out ?_
  rotate_left
  · intro w hSw; go_simp; try with_reducible rfl
  change wpAnyH _ _ _ _ _ _ _ (Act.put _ (some 75) _) _
  simp only [Act.put, List.setIfInBounds_toArray, List.set_cons_zero, List.set_cons_succ]
  refine wpAnyH_take (i := 1) (v := ?_) rfl (by kernel_rfl) (by kernel_rfl) (by kernel_rfl) (fun _ _ _ h => h) (Or.inl ⟨by rfl, ?_⟩) HH.out ?_
  rotate_left
  · intro w hSw; go_simp; try with_reducible rfl
  change wpAnyH _ _ _ _ _ _ _ (Act.put _ (some 76) _) _
  simp only [Act.put, List.setIfInBounds_toArray, List.set_cons_zero, List.set_cons_succ]
  refine wpAnyH_take (i := 2) (v := ?_) rfl (by kernel_rfl) (by kernel_rfl) (by kernel_rfl) (fun _ _ _ h => h) (Or.inl ⟨by rfl, ?_⟩) HH.out ?_
  rotate_left
  · intro w hSw; go_simp; try with_reducible rfl
  change wpAnyH _ _ _ _ _ _ _ (Act.put _ (some 77) _) _
  simp only [Act.put, List.setIfInBounds_toArray, List.set_cons_zero, List.set_cons_succ]
  refine wpAnyH_take (i := 3) (v := ?_) rfl (by kernel_rfl) (by kernel_rfl) (by kernel_rfl) (fun _ _ _ h => h) (Or.inl ⟨by rfl, ?_⟩) HH.out ?_
  rotate_left
  · intro w hSw; go_simp; try with_reducible rfl
  change wpAnyH _ _ _ _ _ _ _ (Act.put _ (some 78) _) _
  simp only [Act.put, List.setIfInBounds_toArray, List.set_cons_zero, List.set_cons_succ]
  refine wpAnyH_ready (rs := [4]) (by kernel_rfl) (by simp) ?_
  refine AllReadyH.cons rfl (fun K hK => ?_) AllReadyH.nil
  go_simp
  (go_at_call 156; refine (yAddrOf (NV.keep (by with_reducible assumption) (show Mod (fun x => x = Y) _ _ by (repeat (first | with_reducible exact Mod.refl _ _ | with_reducible assumption | refine Mod.trans ?_ (by with_reducible assumption) | refine Mod.trans_ext ?_ (by with_reducible assumption) | refine Mod.alloc ?_ _ _ | refine Mod.drew ?_ | refine Mod.drewN ?_ _))) hsY)).mono ?_; rintro e w1 ⟨rfl, he⟩)
  refine hK.out _ _ ?_ (fun hHeld => ?_)
  · first | exact HH.out.trans hmY | exact HH.out.trans_ext he | exact HH.out
  clear hK K HH
  have HH : Hid (Mod (fun x => x = Y) W0 _) := hHeld
  clear hHeld
  refine wpAnyH_ready (rs := [5]) (by kernel_rfl) (by simp) ?_
  refine AllReadyH.cons rfl (fun K hK => ?_) AllReadyH.nil
  go_simp
  (go_at_call 61; refine (xWarm (hX.ext (by (repeat (first | with_reducible exact Ext.refl _ | with_reducible assumption | refine Ext.trans ?_ (by with_reducible assumption) | refine Ext.alloc ?_ _ _ | refine Ext.drew ?_ | refine Ext.drewN ?_ _)))) _ (Nat.mod_lt _ (by decide)) hl).mono ?_; rintro e w1 ⟨c1, rfl, hX, hmY⟩)
  refine hK.out _ _ ?_ (fun hHeld => ?_)
  · first | exact HH.out.trans hmY | exact HH.out.trans_ext he | exact HH.out
  clear hK K HH
  have HH : Hid (Mod (fun x => x = Y) W0 _) := hHeld
  clear hHeld
  refine wpAnyH_done (by kernel_rfl) ?_ _
  go_wp2
  refine w_ext ?_
  rintro W0 hW0
  have hX0 := hX.ext (w' := W0) (by (repeat (first | with_reducible exact Ext.refl _ | with_reducible assumption | refine Ext.trans ?_ (by with_reducible assumption) | refine Ext.alloc ?_ _ _ | refine Ext.drew ?_ | refine Ext.drewN ?_ _)))
  refine wp_region_held_drew (S := fun w' => Mod TM W0 w') (by kernel_rfl) (Mod.refl _ _).drew (fun hHeld => ?_)
  have HH : Hid (Mod TM W0 _) := hHeld
  clear hHeld
  refine wpAnyH_take (i := 0) (v := ?_) rfl (by kernel_rfl) (by kernel_rfl) (by kernel_rfl) (fun _ _ _ h => h) (Or.inl ⟨by rfl, ?_⟩) HH.out ?_
  rotate_left
  · intro w hSw; go_simp; try with_reducible rfl
  change wpAnyH _ _ _ _ _ _ _ (Act.put _ (some 81) _) _
  simp only [Act.put, List.setIfInBounds_toArray, List.set_cons_zero, List.set_cons_succ]
  refine wpAnyH_take (i := 1) (v := ?_) rfl (by kernel_rfl) (by kernel_rfl) (by kernel_rfl) (fun _ _ _ h => h) (Or.inl ⟨by rfl, ?_⟩) HH.out ?_
  rotate_left
  · intro w hSw; go_simp; try with_reducible rfl
  change wpAnyH _ _ _ _ _ _ _ (Act.put _ (some 82) _) _
  simp only [Act.put, List.setIfInBounds_toArray, List.set_cons_zero, List.set_cons_succ]
  refine wpAnyH_take (i := 2) (v := ?_) rfl (by kernel_rfl) (by kernel_rfl) (by kernel_rfl) (fun _ _ _ h => h) (Or.inl ⟨by rfl, ?_⟩) HH.out ?_
  rotate_left
  · intro w hSw; go_simp; try with_reducible rfl
  change wpAnyH _ _ _ _ _ _ _ (Act.put _ (some 83) _) _
  simp only [Act.put, List.setIfInBounds_toArray, List.set_cons_zero, List.set_cons_succ]
  refine wpAnyH_take (i := 3) (v := ?_) rfl (by kernel_rfl) (by kernel_rfl) (by kernel_rfl) (fun _ _ _ h => h) (Or.inl ⟨by rfl, ?_⟩) HH.out ?_
  rotate_left
  · intro w hSw; go_simp; try with_reducible rfl
  change wpAnyH _ _ _ _ _ _ _ (Act.put _ (some 84) _) _
  simp only [Act.put, List.setIfInBounds_toArray, List.set_cons_zero, List.set_cons_succ]
  refine wpAnyH_take (i := 4) (v := ?_) rfl (by kernel_rfl) (by kernel_rfl) (by kernel_rfl) (fun _ _ _ h => h) (Or.inl ⟨by rfl, ?_⟩) HH.out ?_
  rotate_left
  · intro w hSw; go_simp; try with_reducible rfl
  change wpAnyH _ _ _ _ _ _ _ (Act.put _ (some 85) _) _
  simp only [Act.put, List.setIfInBounds_toArray, List.set_cons_zero, List.set_cons_succ]
  refine wpAnyH_take (i := 5) (v := ?_) rfl (by kernel_rfl) (by kernel_rfl) (by kernel_rfl) (fun _ _ _ h => h) (Or.inl ⟨by rfl, ?_⟩) HH.out ?_
  rotate_left
  · intro w hSw; go_simp; try with_reducible rfl
  change wpAnyH _ _ _ _ _ _ _ (Act.put _ (some 86) _) _
  simp only [Act.put, List.setIfInBounds_toArray, List.set_cons_zero, List.set_cons_succ]
  refine wpAnyH_take (i := 9) (v := ?_) rfl (by kernel_rfl) (by kernel_rfl) (by kernel_rfl) (fun _ _ _ h => h) (Or.inl ⟨by rfl, ?_⟩) HH.out ?_
  rotate_left
  · intro w hSw; go_simp; try with_reducible rfl
  change wpAnyH _ _ _ _ _ _ _ (Act.put _ (some 90) _) _
  simp only [Act.put, List.setIfInBounds_toArray, List.set_cons_zero, List.set_cons_succ]
  refine wpAnyH_take (i := 10) (v := ?_) rfl (by kernel_rfl) (by kernel_rfl) (by kernel_rfl) (fun _ _ _ h => h) (Or.inl ⟨by rfl, ?_⟩) HH.out ?_
  rotate_left
  · intro w hSw; go_simp; try with_reducible rfl
  change wpAnyH _ _ _ _ _ _ _ (Act.put _ (some 91) _) _
  simp only [Act.put, List.setIfInBounds_toArray, List.set_cons_zero, List.set_cons_succ]
  refine wpAnyH_ready (rs := [6]) (by kernel_rfl) (by simp) ?_
  refine AllReadyH.cons rfl (fun K hK => ?_) AllReadyH.nil
  go_simp
  (go_at_call 156; refine (yAddrOf (NV.keep (by with_reducible assumption) (show Mod (fun x => x = Y) _ _ by (repeat (first | with_reducible exact Mod.refl _ _ | with_reducible assumption | refine Mod.trans ?_ (by with_reducible assumption) | refine Mod.trans_ext ?_ (by with_reducible assumption) | refine Mod.alloc ?_ _ _ | refine Mod.drew ?_ | refine Mod.drewN ?_ _))) hsY)).mono ?_; rintro e w1 ⟨rfl, he⟩)
  refine hK.out _ _ ?_ (fun hHeld => ?_)
  · first | exact HH.out.trans hmT | exact HH.out.trans_ext he | exact HH.out
  clear hK K HH
  have HH : Hid (Mod TM W0 _) := hHeld
  clear hHeld
  refine wpAnyH_ready (rs := [7]) (by kernel_rfl) (by simp) ?_
  refine AllReadyH.cons rfl (fun K hK => ?_) AllReadyH.nil
  go_simp
  (go_at_call 53; refine (xAccountG (hX.ext (by (repeat (first | with_reducible exact Ext.refl _ | with_reducible assumption | refine Ext.trans ?_ (by with_reducible assumption) | refine Ext.alloc ?_ _ _ | refine Ext.drew ?_ | refine Ext.drewN ?_ _)))) _ (Nat.mod_lt _ (by decide))).mono ?_; rintro e w1 ⟨u1, u2, u3, u4, rfl, hp, hg, he⟩; obtain ⟨f1, f2, f3, f4, gs, go⟩ := hg)
  refine hK.out _ _ ?_ (fun hHeld => ?_)
  · first | exact HH.out.trans hmT | exact HH.out.trans_ext he | exact HH.out
  clear hK K HH
  have HH : Hid (Mod TM W0 _) := hHeld
  clear hHeld
  refine wpAnyH_take (i := 8) (v := ?_) rfl (by kernel_rfl) (by kernel_rfl) (by kernel_rfl) (fun _ _ _ h => h) (Or.inl ⟨by rfl, ?_⟩) HH.out ?_
  rotate_left
  · intro w hSw; go_simp; try with_reducible rfl
  change wpAnyH _ _ _ _ _ _ _ (Act.put _ (some 89) _) _
  simp only [Act.put, List.setIfInBounds_toArray, List.set_cons_zero, List.set_cons_succ]
  refine wpAnyH_ready (rs := [11]) (by kernel_rfl) (by simp) ?_
  refine AllReadyH.cons rfl (fun K hK => ?_) AllReadyH.nil
  go_simp
  (go_at_call 237; refine (yOperand _ (NumL.keep hA (show Mod (fun x => x = Y) _ _ by (repeat (first | with_reducible exact Mod.refl _ _ | with_reducible assumption | refine Mod.trans ?_ (by with_reducible assumption) | refine Mod.trans_ext ?_ (by with_reducible assumption) | refine Mod.alloc ?_ _ _ | refine Mod.drew ?_ | refine Mod.drewN ?_ _))) hsY) _).mono ?_; rintro e w1 ⟨r, rfl, hr, hww⟩; replace hww := hww.symm; subst hww)
  refine hK.out _ _ ?_ (fun hHeld => ?_)
  · first | exact HH.out.trans hmT | exact HH.out.trans_ext he | exact HH.out
  clear hK K HH
  have HH : Hid (Mod TM W0 _) := hHeld
  clear hHeld
  refine wpAnyH_ready (rs := [12]) (by kernel_rfl) (by simp) ?_
  refine AllReadyH.cons rfl (fun K hK => ?_) AllReadyH.nil
  go_simp
  (go_at_call 243; refine (xCopied (hX.ext (by (repeat (first | with_reducible exact Ext.refl _ | with_reducible assumption | refine Ext.trans ?_ (by with_reducible assumption) | refine Ext.alloc ?_ _ _ | refine Ext.drew ?_ | refine Ext.drewN ?_ _)))) _ _ _ _ (NV.keep (by with_reducible assumption) (show Mod (fun x => x = Y) _ _ by (repeat (first | with_reducible exact Mod.refl _ _ | with_reducible assumption | refine Mod.trans ?_ (by with_reducible assumption) | refine Mod.trans_ext ?_ (by with_reducible assumption) | refine Mod.alloc ?_ _ _ | refine Mod.drew ?_ | refine Mod.drewN ?_ _))) hsY) (hp.code.ext (by (repeat (first | with_reducible exact Ext.refl _ | with_reducible assumption | refine Ext.trans ?_ (by with_reducible assumption) | refine Ext.alloc ?_ _ _ | refine Ext.drew ?_ | refine Ext.drewN ?_ _)))) (NV.keep (by with_reducible assumption) (show Mod (fun x => x = Y) _ _ by (repeat (first | with_reducible exact Mod.refl _ _ | with_reducible assumption | refine Mod.trans ?_ (by with_reducible assumption) | refine Mod.trans_ext ?_ (by with_reducible assumption) | refine Mod.alloc ?_ _ _ | refine Mod.drew ?_ | refine Mod.drewN ?_ _))) hsY) (NV.keep (by with_reducible assumption) (show Mod (fun x => x = Y) _ _ by (repeat (first | with_reducible exact Mod.refl _ _ | with_reducible assumption | refine Mod.trans ?_ (by with_reducible assumption) | refine Mod.trans_ext ?_ (by with_reducible assumption) | refine Mod.alloc ?_ _ _ | refine Mod.drew ?_ | refine Mod.drewN ?_ _))) hsY) hk hok').mono ?_; rintro e w2 ⟨rfl, hX2, hmT⟩)
  refine hK.out _ _ ?_ (fun hHeld => ?_)
  · first | exact HH.out.trans hmT | exact HH.out.trans_ext he | exact HH.out
  clear hK K HH
  have HH : Hid (Mod TM W0 _) := hHeld
  clear hHeld
  refine wpAnyH_done (by kernel_rfl) ?_ _
  go_wp2
  go_ret
  have hmz : Mod (fun b => b = Y ∨ TM b) w w2 := ((show Mod (fun x => x = Y) w _ by (repeat (first | with_reducible exact Mod.refl _ _ | with_reducible assumption | refine Mod.trans ?_ (by with_reducible assumption) | refine Mod.trans_ext ?_ (by with_reducible assumption) | refine Mod.alloc ?_ _ _ | refine Mod.drew ?_ | refine Mod.drewN ?_ _))).sub (fun _ h => Or.inl h)).trans (hmT.sub (fun _ h => Or.inr h))
  exact ⟨rfl, ⟨_, hX2⟩, hmz⟩
set_option maxRecDepth 100000 in
set_option maxHeartbeats 6400000 in
theorem yEff82 (hX : YX kk O TM TL w Y F q n tF c d W start st f) {vg : Value} {args : List Nat} (hA : NumL O w vg args) (hb : args.getD 1 0 < P256) (hok' : FOK { f with mem := writeA f.mem (args.getD 0 0) (beL 32 (args.getD 1 0)) }) : Calls Hvah.prog 162 #[.pointer (some ⟨Y, 0, none⟩), .pointer (some ⟨F, q, none⟩), .int .u8 82, vg] w fun e w' => e = .returned (.bool true) ∧ YX kk O TM TL w' Y F q n tF c d W start st { f with mem := writeA f.mem (args.getD 0 0) (beL 32 (args.getD 1 0)) } ∧ Mod TM w w' := by
  have hO := hX.small
  have hq := hX.hq
  go_enter Hvah.func162, Hvah.ntmps162
  go_wp2_with (first
    | (go_at_call 237; refine (yOperand _ (NumL.ext hA (by (repeat (first | with_reducible exact Ext.refl _ | with_reducible assumption | refine Ext.trans ?_ (by with_reducible assumption) | refine Ext.alloc ?_ _ _ | refine Ext.drew ?_ | refine Ext.drewN ?_ _)))) _).mono ?_; rintro e w1 ⟨r, rfl, hr, hww⟩; replace hww := hww.symm; subst hww)
    | (go_at_call 35; refine (yWord _ _ _ (NV.ext (by with_reducible assumption) (by (repeat (first | with_reducible exact Ext.refl _ | with_reducible assumption | refine Ext.trans ?_ (by with_reducible assumption) | refine Ext.alloc ?_ _ _ | refine Ext.drew ?_ | refine Ext.drewN ?_ _)))) hb).mono ?_; rintro e w1 ⟨rfl, he⟩)
    | ((with_reducible (refine Veil.out ?_; apply wl_allocL alT28)); rintro B W1 he hth hBl hBg)
    | ((with_reducible (refine Veil.out ?_; apply wl_storeB rt28)); (case hx => rfl); (case hy => rfl); (case hn => exact bw_size hb); (case hth => exact there_ext hth hBl (by (repeat (first | with_reducible exact Ext.refl _ | with_reducible assumption | refine Ext.trans ?_ (by with_reducible assumption) | refine Ext.alloc ?_ _ _ | refine Ext.drew ?_ | refine Ext.drewN ?_ _)))); (case hbl => exact Nat.lt_of_lt_of_le hBl (Ext.size (by (repeat (first | with_reducible exact Ext.refl _ | with_reducible assumption | refine Ext.trans ?_ (by with_reducible assumption) | refine Ext.alloc ?_ _ _ | refine Ext.drew ?_ | refine Ext.drewN ?_ _))))); (case h1 => exact bw_one _); rintro W2 hm hR hBl)
    | (go_at_call 151; refine (xWrite (hX.ext (by (repeat (first | with_reducible exact Ext.refl _ | with_reducible assumption | refine Ext.trans ?_ (by with_reducible assumption) | refine Ext.alloc ?_ _ _ | refine Ext.drew ?_ | refine Ext.drewN ?_ _ | refine Ext.trans_mod ?_ (by with_reducible assumption) (fun i hi => by have hi2 : i = _ := hi; rw [hi2]; refine Nat.le_trans ?_ (by with_reducible assumption); refine Ext.size ?_; (repeat (first | with_reducible exact Ext.refl _ | with_reducible assumption | refine Ext.trans ?_ (by with_reducible assumption) | refine Ext.alloc ?_ _ _ | refine Ext.drew ?_ | refine Ext.drewN ?_ _ | refine Ext.trans_mod ?_ (by with_reducible assumption) (fun i hi => by have hi2 : i = _ := hi; rw [hi2]; refine Nat.le_trans ?_ (by with_reducible assumption); refine Ext.size ?_; (repeat (first | with_reducible exact Ext.refl _ | with_reducible assumption | refine Ext.trans ?_ (by with_reducible assumption) | refine Ext.alloc ?_ _ _ | refine Ext.drew ?_ | refine Ext.drewN ?_ _)))))))))) _ _ (NV.ext (by with_reducible assumption) (by (repeat (first | with_reducible exact Ext.refl _ | with_reducible assumption | refine Ext.trans ?_ (by with_reducible assumption) | refine Ext.alloc ?_ _ _ | refine Ext.drew ?_ | refine Ext.drewN ?_ _ | refine Ext.trans_mod ?_ (by with_reducible assumption) (fun i hi => by have hi2 : i = _ := hi; rw [hi2]; refine Nat.le_trans ?_ (by with_reducible assumption); refine Ext.size ?_; (repeat (first | with_reducible exact Ext.refl _ | with_reducible assumption | refine Ext.trans ?_ (by with_reducible assumption) | refine Ext.alloc ?_ _ _ | refine Ext.drew ?_ | refine Ext.drewN ?_ _ | refine Ext.trans_mod ?_ (by with_reducible assumption) (fun i hi => by have hi2 : i = _ := hi; rw [hi2]; refine Nat.le_trans ?_ (by with_reducible assumption); refine Ext.size ?_; (repeat (first | with_reducible exact Ext.refl _ | with_reducible assumption | refine Ext.trans ?_ (by with_reducible assumption) | refine Ext.alloc ?_ _ _ | refine Ext.drew ?_ | refine Ext.drewN ?_ _)))))))))) (NL.ofRow (cap := 32) hR (digits_beL _ _) (len32 hb) hBl (Nat.le_refl _) (by decide)) hok').mono ?_; rintro e w2 ⟨rfl, hX2, hm2⟩))
  go_ret
  exact ⟨rfl, hX2, (Ext.mod (by (repeat (first | with_reducible exact Ext.refl _ | with_reducible assumption | refine Ext.trans ?_ (by with_reducible assumption) | refine Ext.alloc ?_ _ _ | refine Ext.drew ?_ | refine Ext.drewN ?_ _ | refine Ext.trans_mod ?_ (by with_reducible assumption) (fun i hi => by have hi2 : i = _ := hi; rw [hi2]; refine Nat.le_trans ?_ (by with_reducible assumption); refine Ext.size ?_; (repeat (first | with_reducible exact Ext.refl _ | with_reducible assumption | refine Ext.trans ?_ (by with_reducible assumption) | refine Ext.alloc ?_ _ _ | refine Ext.drew ?_ | refine Ext.drewN ?_ _ | refine Ext.trans_mod ?_ (by with_reducible assumption) (fun i hi => by have hi2 : i = _ := hi; rw [hi2]; refine Nat.le_trans ?_ (by with_reducible assumption); refine Ext.size ?_; (repeat (first | with_reducible exact Ext.refl _ | with_reducible assumption | refine Ext.trans ?_ (by with_reducible assumption) | refine Ext.alloc ?_ _ _ | refine Ext.drew ?_ | refine Ext.drewN ?_ _))))))))) _).trans hm2⟩
set_option maxRecDepth 100000 in
set_option maxHeartbeats 6400000 in
theorem yEff83 (hX : YX kk O TM TL w Y F q n tF c d W start st f) {vg : Value} {args : List Nat} (hA : NumL O w vg args) (hb : args.getD 1 0 < P256) (hok' : FOK { f with mem := writeA f.mem (args.getD 0 0) [args.getD 1 0 % 256] }) : Calls Hvah.prog 162 #[.pointer (some ⟨Y, 0, none⟩), .pointer (some ⟨F, q, none⟩), .int .u8 83, vg] w fun e w' => e = .returned (.bool true) ∧ YX kk O TM TL w' Y F q n tF c d W start st { f with mem := writeA f.mem (args.getD 0 0) [args.getD 1 0 % 256] } ∧ Mod TM w w' := by
  have hO := hX.small
  have hq := hX.hq
  go_enter Hvah.func162, Hvah.ntmps162
  go_wp2_with (first
    | (go_at_call 237; refine (yOperand _ (NumL.ext hA (by (repeat (first | with_reducible exact Ext.refl _ | with_reducible assumption | refine Ext.trans ?_ (by with_reducible assumption) | refine Ext.alloc ?_ _ _ | refine Ext.drew ?_ | refine Ext.drewN ?_ _)))) _).mono ?_; rintro e w1 ⟨r, rfl, hr, hww⟩; replace hww := hww.symm; subst hww)
    | (go_at_call 35; refine (yWord _ _ _ (NV.ext (by with_reducible assumption) (by (repeat (first | with_reducible exact Ext.refl _ | with_reducible assumption | refine Ext.trans ?_ (by with_reducible assumption) | refine Ext.alloc ?_ _ _ | refine Ext.drew ?_ | refine Ext.drewN ?_ _)))) hb).mono ?_; rintro e w1 ⟨rfl, he⟩)
    | ((with_reducible (refine Veil.out ?_; apply wl_allocL alT28)); rintro B W1 he hth hBl hBg)
    | ((with_reducible (refine Veil.out ?_; apply wl_storeB rt28)); (case hx => rfl); (case hy => rfl); (case hn => exact bw_size hb); (case hth => exact there_ext hth hBl (by (repeat (first | with_reducible exact Ext.refl _ | with_reducible assumption | refine Ext.trans ?_ (by with_reducible assumption) | refine Ext.alloc ?_ _ _ | refine Ext.drew ?_ | refine Ext.drewN ?_ _)))); (case hbl => exact Nat.lt_of_lt_of_le hBl (Ext.size (by (repeat (first | with_reducible exact Ext.refl _ | with_reducible assumption | refine Ext.trans ?_ (by with_reducible assumption) | refine Ext.alloc ?_ _ _ | refine Ext.drew ?_ | refine Ext.drewN ?_ _))))); (case h1 => exact bw_one _); rintro W2 hm hR hBl)
    | (go_at_call 151; refine (xWrite (hX.ext (by (repeat (first | with_reducible exact Ext.refl _ | with_reducible assumption | refine Ext.trans ?_ (by with_reducible assumption) | refine Ext.alloc ?_ _ _ | refine Ext.drew ?_ | refine Ext.drewN ?_ _ | refine Ext.trans_mod ?_ (by with_reducible assumption) (fun i hi => by have hi2 : i = _ := hi; rw [hi2]; refine Nat.le_trans ?_ (by with_reducible assumption); refine Ext.size ?_; (repeat (first | with_reducible exact Ext.refl _ | with_reducible assumption | refine Ext.trans ?_ (by with_reducible assumption) | refine Ext.alloc ?_ _ _ | refine Ext.drew ?_ | refine Ext.drewN ?_ _ | refine Ext.trans_mod ?_ (by with_reducible assumption) (fun i hi => by have hi2 : i = _ := hi; rw [hi2]; refine Nat.le_trans ?_ (by with_reducible assumption); refine Ext.size ?_; (repeat (first | with_reducible exact Ext.refl _ | with_reducible assumption | refine Ext.trans ?_ (by with_reducible assumption) | refine Ext.alloc ?_ _ _ | refine Ext.drew ?_ | refine Ext.drewN ?_ _)))))))))) _ _ (NV.ext (by with_reducible assumption) (by (repeat (first | with_reducible exact Ext.refl _ | with_reducible assumption | refine Ext.trans ?_ (by with_reducible assumption) | refine Ext.alloc ?_ _ _ | refine Ext.drew ?_ | refine Ext.drewN ?_ _ | refine Ext.trans_mod ?_ (by with_reducible assumption) (fun i hi => by have hi2 : i = _ := hi; rw [hi2]; refine Nat.le_trans ?_ (by with_reducible assumption); refine Ext.size ?_; (repeat (first | with_reducible exact Ext.refl _ | with_reducible assumption | refine Ext.trans ?_ (by with_reducible assumption) | refine Ext.alloc ?_ _ _ | refine Ext.drew ?_ | refine Ext.drewN ?_ _ | refine Ext.trans_mod ?_ (by with_reducible assumption) (fun i hi => by have hi2 : i = _ := hi; rw [hi2]; refine Nat.le_trans ?_ (by with_reducible assumption); refine Ext.size ?_; (repeat (first | with_reducible exact Ext.refl _ | with_reducible assumption | refine Ext.trans ?_ (by with_reducible assumption) | refine Ext.alloc ?_ _ _ | refine Ext.drew ?_ | refine Ext.drewN ?_ _)))))))))) (byte31 hR hb hBl) hok').mono ?_; rintro e w2 ⟨rfl, hX2, hm2⟩))
  go_ret
  exact ⟨rfl, hX2, (Ext.mod (by (repeat (first | with_reducible exact Ext.refl _ | with_reducible assumption | refine Ext.trans ?_ (by with_reducible assumption) | refine Ext.alloc ?_ _ _ | refine Ext.drew ?_ | refine Ext.drewN ?_ _ | refine Ext.trans_mod ?_ (by with_reducible assumption) (fun i hi => by have hi2 : i = _ := hi; rw [hi2]; refine Nat.le_trans ?_ (by with_reducible assumption); refine Ext.size ?_; (repeat (first | with_reducible exact Ext.refl _ | with_reducible assumption | refine Ext.trans ?_ (by with_reducible assumption) | refine Ext.alloc ?_ _ _ | refine Ext.drew ?_ | refine Ext.drewN ?_ _ | refine Ext.trans_mod ?_ (by with_reducible assumption) (fun i hi => by have hi2 : i = _ := hi; rw [hi2]; refine Nat.le_trans ?_ (by with_reducible assumption); refine Ext.size ?_; (repeat (first | with_reducible exact Ext.refl _ | with_reducible assumption | refine Ext.trans ?_ (by with_reducible assumption) | refine Ext.alloc ?_ _ _ | refine Ext.drew ?_ | refine Ext.drewN ?_ _))))))))) _).trans hm2⟩
end
end Go.Proofs.YgvahwGreat
