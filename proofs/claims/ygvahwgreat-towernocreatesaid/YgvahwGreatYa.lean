import Derived.Test.YgvahwGreatIb2
import Derived.Test.YgvahwGreatTq
import Derived.Test.YgvahwGreatTa
namespace Go.Proofs.YgvahwGreat
open Go.RowKit
set_option linter.unusedSimpArgs false

section
variable {O : Nat → Prop} {w : World} {Y : Nat} {tY : TypeId} {c : Nat → Value} {e : AEnv} {r : Array Value} {t : ATx}
set_option maxRecDepth 100000 in
set_option maxHeartbeats 6400000 in
theorem rBaseFee (hO : Small O w) (hB : Blk w Y 179 tY c) (hE : EnvC O w c 59 e) : Calls Hvah.prog 79 #[.pointer (some ⟨Y, 0, none⟩)] w fun x w' => ∃ r, x = .returned r ∧ NV O w' r e.baseFee ∧ Ext w w' := by
  go_enter Hvah.func79, Hvah.ntmps79
  go_wp2_with (go_at_call 43; refine (nFromB hO hB hE.baseFee hE.bLt (by decide)).mono ?_; rintro x w1 ⟨r, rfl, hr, he⟩)
  go_ret
  exact ⟨_, rfl, hr, he⟩
set_option maxRecDepth 100000 in
set_option maxHeartbeats 6400000 in
theorem yPrice (hO : Small O w) (hB : Blk w Y 179 tY c) (hE : EnvC O w c 59 e) (hr : r.size = 174) (h : TxC O w (cf r) t) : Calls Hvah.prog 57 #[.pointer (some ⟨Y, 0, none⟩), .agg r] w fun x w' => ∃ v, x = .returned v ∧ NV O w' v (e.baseFee + min t.tipF (t.most - e.baseFee)) ∧ Ext w w' := by
  have hml := ATx.mostLt h
  have htl := ATx.tipLt h
  have HF := fun W (hW : Ext w W) (B : Nat) (hB : Blk W B 174 40 (cf r)) => oFees hB (h.ext hW)
  generalize t.most = most at *
  generalize t.tipF = tip at *
  have hbl := hE.bLt
  have HBF := fun W (hW : Ext w W) => rBaseFee (hO.ext hW) (hB.ext hW) (hE.ext hW)
  generalize e.baseFee = base at *
  have d1 : dl base ≤ 32 := (dl_le_iff base 32).2 (by rw [P256_eq] at hbl; exact hbl)
  have d2 : dl (min tip (most - base)) ≤ 32 := (dl_le_iff _ 32).2 (by rw [P256_eq] at htl; exact Nat.lt_of_le_of_lt (Nat.min_le_left _ _) htl)
  go_enter Hvah.func57, Hvah.ntmps57
  go_upto_region 2 with (first
    | ((with_reducible (refine Veil.out ?_; apply wl_boxB)); (case hx => rfl); (case hn => exact hr); rintro B1 W1 e1 b1 g1)
    | (go_at_call 129; refine (HF _ e1 B1 b1).mono ?_; rintro e w4 ⟨rfl, e4⟩)
    | ((with_reducible (refine Veil.out ?_; apply wl_allocBB)); rintro B4 W4 c4 e5 b4 _ g4; (with_reducible (refine Veil.out ?_; apply wl_allocBB)); rintro B5 W5 c5 e6 b5 _ g5)
    | ((with_reducible (refine Veil.out ?_; apply wl_storeBB (v := most))); (case hx => rfl); (case hy => rfl); (case hv => exact hml); (case hB => exact b4.ext e6); (case hi => decide); rintro W6 c6 b6 a6 _ m6)
    | ((with_reducible (refine Veil.out ?_; apply wl_storeBB (v := tip))); (case hx => rfl); (case hy => rfl); (case hv => exact htl); (case hB => exact b5.mod m6 (fun q => by have q2 : B5 = B4 := q; have := b4.lt; omega)); (case hi => decide); rintro W7 c7 b7 a7 _ m7))
  have n54 : ¬ B4 = B5 := fun q => by have := b4.lt; omega
  have eX : Ext w4 W7 := Ext.trans_mod (Ext.trans_mod (e5.trans e6) m6 (fun q hq => by have hq2 : q = B4 := hq; rw [hq2]; exact g4)) m7 (fun q hq => by have hq2 : q = B5 := hq; rw [hq2]; exact Nat.le_trans e5.size g5)
  have eY : Ext w W7 := (e1.trans e4).trans eX
  have b6' := b6.mod m7 n54
  have HM := fun W (hW : Ext W7 W) => nFromB (hO.ext (eY.trans hW)) (b6'.ext hW) a6 hml (by decide)
  have HT := fun W (hW : Ext W7 W) => nFromB (hO.ext (eY.trans hW)) (b7.ext hW) a7 htl (by decide)
  have hO7 := hO.ext eY
  have HBF7 := fun W (hW : Ext W7 W) => HBF W (eY.trans hW)
  clear HF h b1 b4 b5 b6 b7 b6' m6 m7 e1 e4 e5 e6 eX HBF hO
  have hO := hO7
  have HBF := HBF7
  clear hO7 HBF7
  go_upto_region 3 with (first
    | (go_at_call 43; refine (HM _ (by (repeat (first | with_reducible exact Ext.refl _ | with_reducible assumption | refine Ext.trans ?_ (by with_reducible assumption) | refine Ext.alloc ?_ _ _ | refine Ext.drew ?_ | refine Ext.drewN ?_ _)))).mono ?_; rintro x w1 ⟨r, rfl, hr, he⟩)
    | (go_at_call 79; refine (HBF _ (by (repeat (first | with_reducible exact Ext.refl _ | with_reducible assumption | refine Ext.trans ?_ (by with_reducible assumption) | refine Ext.alloc ?_ _ _ | refine Ext.drew ?_ | refine Ext.drewN ?_ _)))).mono ?_; rintro x w1 ⟨r, rfl, hr, he⟩)
    | (go_at_call 55; refine (nLess O _ _ _ _ _ (hO.ext (by (repeat (first | with_reducible exact Ext.refl _ | with_reducible assumption | refine Ext.trans ?_ (by with_reducible assumption) | refine Ext.alloc ?_ _ _ | refine Ext.drew ?_ | refine Ext.drewN ?_ _)))) (NV.ext (by with_reducible assumption) (by (repeat (first | with_reducible exact Ext.refl _ | with_reducible assumption | refine Ext.trans ?_ (by with_reducible assumption) | refine Ext.alloc ?_ _ _ | refine Ext.drew ?_ | refine Ext.drewN ?_ _)))) (NV.ext (by with_reducible assumption) (by (repeat (first | with_reducible exact Ext.refl _ | with_reducible assumption | refine Ext.trans ?_ (by with_reducible assumption) | refine Ext.alloc ?_ _ _ | refine Ext.drew ?_ | refine Ext.drewN ?_ _))))).mono ?_; rintro e w1 ⟨r, rfl, hr, he⟩))
  refine w_ext ?_
  rintro W0 hW0
  refine wp_region_held_drew (S := fun w' => Ext W0 w') (by kernel_rfl) (Ext.refl _).drew (fun hHeld => ?_)
  have HH : Hid (Ext W0 _) := hHeld
  clear hHeld
  refine wpAnyH_take (i := 0) (v := ?_) rfl (by kernel_rfl) (by kernel_rfl) (by kernel_rfl) (fun _ _ _ h => h) (Or.inl ⟨by rfl, ?_⟩) HH.out ?_
  rotate_left
  · intro w hSw; go_simp; try with_reducible rfl
  change wpAnyH _ _ _ _ _ _ _ (Act.put _ (some 17) _) _
  simp only [Act.put, List.setIfInBounds_toArray, List.set_cons_zero, List.set_cons_succ]
  refine wpAnyH_take (i := 2) (v := ?_) rfl (by kernel_rfl) (by kernel_rfl) (by kernel_rfl) (fun _ _ _ h => h) (Or.inl ⟨by rfl, ?_⟩) HH.out ?_
  rotate_left
  · intro w hSw; go_simp; try with_reducible rfl
  change wpAnyH _ _ _ _ _ _ _ (Act.put _ (some 19) _) _
  simp only [Act.put, List.setIfInBounds_toArray, List.set_cons_zero, List.set_cons_succ]
  refine wpAnyH_take (i := 4) (v := ?_) rfl (by kernel_rfl) (by kernel_rfl) (by kernel_rfl) (fun _ _ _ h => h) (Or.inl ⟨by rfl, ?_⟩) HH.out ?_
  rotate_left
  · intro w hSw; go_simp; try with_reducible rfl
  change wpAnyH _ _ _ _ _ _ _ (Act.put _ (some 21) _) _
  simp only [Act.put, List.setIfInBounds_toArray, List.set_cons_zero, List.set_cons_succ]
  refine wpAnyH_ready (rs := [1]) (by kernel_rfl) (by simp) ?_
  refine AllReadyH.cons rfl (fun K hK => ?_) AllReadyH.nil
  go_simp
  go_at_call 79; refine (HBF _ (by (repeat (first | with_reducible exact Ext.refl _ | with_reducible assumption | refine Ext.trans ?_ (by with_reducible assumption) | refine Ext.alloc ?_ _ _ | refine Ext.drew ?_ | refine Ext.drewN ?_ _)))).mono ?_; rintro x w1 ⟨r, rfl, hr, he⟩
  refine hK.out _ _ ?_ (fun hHeld => ?_)
  · first | exact HH.out.trans hmY | exact HH.out.trans he | exact HH.out
  clear hK K HH
  have HH : Hid (Ext W0 _) := hHeld
  clear hHeld
  refine wpAnyH_ready (rs := [3]) (by kernel_rfl) (by simp) ?_
  refine AllReadyH.cons rfl (fun K hK => ?_) AllReadyH.nil
  go_simp
  go_at_call 43; refine (HT _ (by (repeat (first | with_reducible exact Ext.refl _ | with_reducible assumption | refine Ext.trans ?_ (by with_reducible assumption) | refine Ext.alloc ?_ _ _ | refine Ext.drew ?_ | refine Ext.drewN ?_ _)))).mono ?_; rintro x w1 ⟨r, rfl, hr, he⟩
  refine hK.out _ _ ?_ (fun hHeld => ?_)
  · first | exact HH.out.trans hmY | exact HH.out.trans he | exact HH.out
  clear hK K HH
  have HH : Hid (Ext W0 _) := hHeld
  clear hHeld
  refine wpAnyH_ready (rs := [5]) (by kernel_rfl) (by simp) ?_
  refine AllReadyH.cons rfl (fun K hK => ?_) AllReadyH.nil
  go_simp
  go_at_call 77; refine (nMin O _ _ _ _ _ (NV.ext (by with_reducible assumption) (by (repeat (first | with_reducible exact Ext.refl _ | with_reducible assumption | refine Ext.trans ?_ (by with_reducible assumption) | refine Ext.alloc ?_ _ _ | refine Ext.drew ?_ | refine Ext.drewN ?_ _)))) (NV.ext (by with_reducible assumption) (by (repeat (first | with_reducible exact Ext.refl _ | with_reducible assumption | refine Ext.trans ?_ (by with_reducible assumption) | refine Ext.alloc ?_ _ _ | refine Ext.drew ?_ | refine Ext.drewN ?_ _))))).mono ?_; rintro e w1 ⟨r, rfl, hr, he⟩
  refine hK.out _ _ ?_ (fun hHeld => ?_)
  · first | exact HH.out.trans hmY | exact HH.out.trans he | exact HH.out
  clear hK K HH
  have HH : Hid (Ext W0 _) := hHeld
  clear hHeld
  refine wpAnyH_ready (rs := [6]) (by kernel_rfl) (by simp) ?_
  refine AllReadyH.cons rfl (fun K hK => ?_) AllReadyH.nil
  go_simp
  go_at_call 44; refine (nAdd O _ _ _ _ _ (hO.ext (by (repeat (first | with_reducible exact Ext.refl _ | with_reducible assumption | refine Ext.trans ?_ (by with_reducible assumption) | refine Ext.alloc ?_ _ _ | refine Ext.drew ?_ | refine Ext.drewN ?_ _)))) (by first | exact (NV.ext (by with_reducible assumption) (by (repeat (first | with_reducible exact Ext.refl _ | with_reducible assumption | refine Ext.trans ?_ (by with_reducible assumption) | refine Ext.alloc ?_ _ _ | refine Ext.drew ?_ | refine Ext.drewN ?_ _)))) | exact NV.nil) (by first | exact (NV.ext (by with_reducible assumption) (by (repeat (first | with_reducible exact Ext.refl _ | with_reducible assumption | refine Ext.trans ?_ (by with_reducible assumption) | refine Ext.alloc ?_ _ _ | refine Ext.drew ?_ | refine Ext.drewN ?_ _)))) | exact NV.nil) (by repeat (first | with_reducible assumption | exact Nat.le_trans (by with_reducible assumption) (by decide) | exact Nat.le_trans (hok.adl _) (by decide) | exact Nat.le_trans (dl_u64 _ (by first | decide | omega)) (by decide) | refine dl_end' ?_ ?_ | refine dl_max' ?_ ?_ | refine dl_add' ?_ ?_ | refine dl_words' ?_ | refine dl_mul' ?_ ?_ | decide)) (by repeat (first | with_reducible assumption | exact Nat.le_trans (by with_reducible assumption) (by decide) | exact Nat.le_trans (hok.adl _) (by decide) | exact Nat.le_trans (dl_u64 _ (by first | decide | omega)) (by decide) | refine dl_end' ?_ ?_ | refine dl_max' ?_ ?_ | refine dl_add' ?_ ?_ | refine dl_words' ?_ | refine dl_mul' ?_ ?_ | decide))).mono ?_; rintro e w1 ⟨r, rfl, hr, he⟩
  refine hK.out _ _ ?_ (fun hHeld => ?_)
  · first | exact HH.out.trans hmY | exact HH.out.trans he | exact HH.out
  clear hK K HH
  have HH : Hid (Ext W0 _) := hHeld
  clear hHeld
  refine wpAnyH_take (i := 7) (v := ?_) rfl (by kernel_rfl) (by kernel_rfl) (by kernel_rfl) (fun _ _ _ h => h) (Or.inl ⟨by rfl, ?_⟩) HH.out ?_
  rotate_left
  · intro w hSw; go_simp; try with_reducible rfl
  change wpAnyH _ _ _ _ _ _ _ (Act.put _ (some 4) _) _
  simp only [Act.put, List.setIfInBounds_toArray, List.set_cons_zero, List.set_cons_succ]
  refine wpAnyH_done (by kernel_rfl) ?_ _
  have HH9 := HH.out
  go_wp2
  go_ret
  exact ⟨_, rfl, by assumption, eY.trans (by (repeat (first | with_reducible exact Ext.refl _ | with_reducible assumption | refine Ext.trans ?_ (by with_reducible assumption) | refine Ext.alloc ?_ _ _ | refine Ext.drew ?_ | refine Ext.drewN ?_ _)))⟩
end
end Go.Proofs.YgvahwGreat
