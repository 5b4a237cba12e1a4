import Derived.Test.YgvahwGreatYk0
import Derived.Test.YgvahwGreatYF
import Derived.Test.YgvahwGreatKc
import Derived.Test.YgvahwGreatRowsK
import Derived.Test.YgvahwGreatRowsN
import Derived.Test.YgvahwGreatTb
import Derived.Test.YgvahwGreatTk
namespace Go.Proofs.YgvahwGreat
open Go.RowKit
set_option linter.unusedSimpArgs false

theorem Small.wdk {O : Nat → Prop} {w w' : World} {B n : Nat} {t : TypeId} {c : Nat → Value} (h : Small O w) (e : Ext w w') (hB : Blk w' B n t c) : Small (Wd O B) w' := fun b hb => by
  rcases hb with hb | hb
  · exact Nat.lt_of_lt_of_le (h b hb) e.size
  · rw [hb]; exact hB.lt
theorem yAppY {kk : Nat → Value} {O TM TL : Nat → Prop} {w w1 : World} {Y F q n : Nat} {tF : TypeId} {c d : Nat → Value} {W : YW} {start : List (Nat × Nat × Nat)} {st : ASt} {f : AFrame} (hX : YX kk O TM TL w Y F q n tF c d W start st f) {b b' : Nat} (hT : (∀ cap, c 4 = .slice (some ⟨b, 0, none⟩) W.logs.length cap → TL b) ∨ (∀ cap, c 4 = .slice (some ⟨b, 0, none⟩) W.logs.length cap → cap = W.logs.length))
    (hR : b' = b ∧ (∃ cap, c 4 = .slice (some ⟨b, 0, none⟩) W.logs.length cap ∧ W.logs.length + 1 ≤ cap) ∧ Mod (· = b) w w1 ∨ (b' = w.heap.size ∧ Ext w w1)) : Blk w1 Y 179 118 c := by
  rcases hR with ⟨q1, ⟨cap, q2, q3⟩, q4⟩ | ⟨q1, q2⟩
  · have tb : TL b := by
      rcases hT with k | k
      · exact k _ q2
      · have := k _ q2; omega
    exact hX.bY.mod q4 (fun e => (hX.tl b tb).2.1 e.symm)
  · exact hX.bY.ext q2
theorem onet96k : OneT 109 := oneT_of (by kernel_rfl) (by kernel_rfl)
theorem joinLg {P Fc : Nat → World → Value → Prop} {G : Prop} (h : (∀ B W u, Fc B W u → P B W u) → G) (k : ∀ B W u, Fc B W u → P B W u) : G := h k
section
variable {kk : Nat → Value} {O TM TL : Nat → Prop} {w : World} {Y F q n : Nat} {tF : TypeId} {c d : Nat → Value} {W : YW} {start : List (Nat × Nat × Nat)} {st : ASt} {f : AFrame}
set_option maxRecDepth 100000 in
set_option maxHeartbeats 6400000 in
theorem yEffLog (hX : YX kk O TM TL w Y F q n tF c d W start st f) {vg : Value} {args : List Nat} (hA : NumL O w vg args) (k : Nat) (hk : k ≤ 4) (o : Nat) (ho : o = 160 + k) (hlen : args.length = 2 + k) (hP : ∀ j, args.getD j 0 < P256) (hb : args.getD 1 0 ≤ 717280) (hl : YLim (W.putLog ⟨f.self, args.drop 2, readA f.mem (args.getD 0 0) (args.getD 1 0)⟩)) : Calls Hvah.prog 162 #[.pointer (some ⟨Y, 0, none⟩), .pointer (some ⟨F, q, none⟩), .int .u8 o, vg] w fun e w' => ∃ O' TL' c', e = .returned (.bool true) ∧ YX kk O' TM TL' w' Y F q n tF c' d (W.putLog ⟨f.self, args.drop 2, readA f.mem (args.getD 0 0) (args.getD 1 0)⟩) start { st with now := st.now.putLog ⟨f.self, args.drop 2, readA f.mem (args.getD 0 0) (args.getD 1 0)⟩ } f ∧ (∀ b, O b → O' b) ∧ (∀ b, b < w.heap.size → O' b → O b) ∧ (∀ b, TL' b → TL b ∨ w.heap.size ≤ b) ∧ Mod (fun b => b = Y ∨ TL b) w w' := by
  have hO := hX.small
  have hq := hX.hq
  have hself := hX.ok.self
  obtain ⟨bA, capA, cA, hvA, hA1, hA2, bAA, hAO, hAr⟩ : ∃ b cap cA, vg = .slice (some ⟨b, 0, none⟩) (2 + k) cap ∧ 2 + k ≤ cap ∧ cap ≤ 9223372036854775807 ∧ Blk w b cap 109 cA ∧ ¬ O b ∧ Hid (∀ j, j < k → NV O w (cA (2 + j)) (args.getD (2 + j) 0)) := by
    rcases hA with ⟨q1, _⟩ | ⟨b, cap, cA, h1, h2, h3, h4, h5, h6⟩
    · rw [q1] at hlen; simp at hlen; omega
    · refine ⟨b, cap, cA, by rw [h1, hlen], by omega, h3, by rw [Nat.mul_one] at h4; exact h4, h5, (fun j hj => ?_ : ∀ j, j < k → _)⟩
      have := h6 (2 + j) (by omega)
      unfold NuC at this
      rw [Nat.mul_one] at this
      rw [List.getD_eq_getElem?_getD, List.getElem?_eq_getElem (by omega)]
      exact this
  have HOP := fun W' (hW : Ext w W') i => yOperand args (NumL.ext hA hW) i
  have n55 : ¬ (o : Int) = 55 := by omega
  have n57 : ¬ (o : Int) = 57 := by omega
  have n62 : ¬ (o : Int) = 62 := by omega
  have n94 : ¬ (o : Int) = 94 := by omega
  have n60 : ¬ (o : Int) = 60 := by omega
  have n82 : ¬ (o : Int) = 82 := by omega
  have n83 : ¬ (o : Int) = 83 := by omega
  have n85 : ¬ (o : Int) = 85 := by omega
  have n93 : ¬ (o : Int) = 93 := by omega
  have g160 : (160 : Int) ≤ o := by omega
  have g164 : (o : Int) ≤ 164 := by omega
  have htop : Hid (args.drop 2 = (List.range k).map fun j => args.getD (2 + j) 0) := by
    apply List.ext_getElem (by simp; omega)
    intro i h1 h2
    simp at h1
    simp [List.getD_eq_getElem?_getD, List.getElem?_eq_getElem, show 2 + i < args.length by omega]
  have hk64 : (k : Int) ≤ 4 := by omega
  obtain ⟨x0, hx0⟩ : ∃ x, Hid (args.getD 0 0 = x) := ⟨_, rfl⟩
  obtain ⟨x1, hx1⟩ : ∃ x, Hid (args.getD 1 0 = x) := ⟨_, rfl⟩
  rw [hx0.out, hx1.out] at hl ⊢
  rw [hx1.out] at hb
  have HO0 := fun W' (hW : Ext w W') => HOP W' hW 0
  have HO1 := fun W' (hW : Ext w W') => HOP W' hW 1
  have HO2 := fun W' (hW : Ext w W') => HOP W' hW 2
  rw [hx0.out] at HO0
  rw [hx1.out] at HO1
  clear HOP hA ho
  subst hvA
  go_enter Hvah.func162, Hvah.ntmps162
  go_upto_region 2 with (go_at_call 237; refine (HO0 _ (by (repeat (first | with_reducible exact Ext.refl _ | with_reducible assumption | refine Ext.trans ?_ (by with_reducible assumption) | refine Ext.alloc ?_ _ _ | refine Ext.drew ?_ | refine Ext.drewN ?_ _)))).mono ?_; rintro e w1 ⟨r0, rfl, hr0, hww⟩; replace hww := hww.symm; subst hww)
  go_upto_region 3 with (go_at_call 237; refine (HO1 _ (by (repeat (first | with_reducible exact Ext.refl _ | with_reducible assumption | refine Ext.trans ?_ (by with_reducible assumption) | refine Ext.alloc ?_ _ _ | refine Ext.drew ?_ | refine Ext.drewN ?_ _)))).mono ?_; rintro e w1 ⟨r1, rfl, hr1, hww⟩; replace hww := hww.symm; subst hww)
  go_upto_region 4 with (go_at_call 237; refine (HO2 _ (by (repeat (first | with_reducible exact Ext.refl _ | with_reducible assumption | refine Ext.trans ?_ (by with_reducible assumption) | refine Ext.alloc ?_ _ _ | refine Ext.drew ?_ | refine Ext.drewN ?_ _)))).mono ?_; rintro e w1 ⟨r2, rfl, hr2, hww⟩; replace hww := hww.symm; subst hww)
  clear HO0 HO1 HO2 hlen hr2
  go_upto_region 26 with (fail)
  refine w_ext ?_
  rintro W0 hW0
  refine' joinLg (P := _) (Fc := fun B W u => Ext W0 W ∧ W0.heap.size ≤ B ∧ Blk W B 22 141 (layv (cf (lgV 0 (.slice none 0 0) (.slice none 0 0))) 0 (lgV f.self (.slice none 0 0) u)) ∧ NL (Wd O B) W u (readA f.mem x0 x1)) (fun key => _) _
  rotate_left
  refine wp_region_held_drew (S := fun w' => Ext W0 w') (by kernel_rfl) (Ext.refl _).drew (fun hHeld => ?_)
  have HH : Hid (Ext W0 _) := hHeld
  clear hHeld
  refine wpAnyH_take (i := 0) (v := ?_) rfl (by kernel_rfl) (by kernel_rfl) (by kernel_rfl) (fun _ _ _ h => h) (Or.inl ⟨by rfl, ?_⟩) HH.out ?_
  rotate_left
  · intro w hSw; go_simp; try with_reducible rfl
  change wpAnyH _ _ _ _ _ _ _ (Act.put _ (some 140) _) _
  simp only [Act.put, List.setIfInBounds_toArray, List.set_cons_zero, List.set_cons_succ]
  refine wpAnyH_take (i := 1) (v := ?_) rfl (by kernel_rfl) (by kernel_rfl) (by kernel_rfl) (fun _ _ _ h => h) (Or.inl ⟨by rfl, ?_⟩) HH.out ?_
  rotate_left
  · intro w hSw; go_simp; try with_reducible rfl
  change wpAnyH _ _ _ _ _ _ _ (Act.put _ (some 141) _) _
  simp only [Act.put, List.setIfInBounds_toArray, List.set_cons_zero, List.set_cons_succ]
  refine wpAnyH_take (i := 2) (v := ?_) rfl (by kernel_rfl) (by kernel_rfl) (by kernel_rfl) (fun _ _ _ h => h) (Or.inl ⟨by rfl, ?_⟩) HH.out ?_
  rotate_left
  · intro w hSw; go_simp; try with_reducible rfl
  change wpAnyH _ _ _ _ _ _ _ (Act.put _ (some 142) _) _
  simp only [Act.put, List.setIfInBounds_toArray, List.set_cons_zero, List.set_cons_succ]
  refine wpAnyH_take (i := 3) rfl (by kernel_rfl) (by kernel_rfl) (by kernel_rfl) (fun _ _ _ h => h) (yields_A (by rfl) rfl rfl (fun w hSw => hX.bF.ext (hW0.trans hSw)) hX.fc.self hself (by omega)) HH.out ?_
  change wpAnyH _ _ _ _ _ _ _ (Act.put _ (some 143) _) _
  simp only [Act.put, List.setIfInBounds_toArray, List.set_cons_zero, List.set_cons_succ]
  refine wpAnyH_take (i := 4) (v := ?_) rfl (by kernel_rfl) (by kernel_rfl) (by kernel_rfl) (fun _ _ _ h => h) (Or.inl ⟨by rfl, ?_⟩) HH.out ?_
  rotate_left
  · intro w hSw; go_simp; try with_reducible rfl
  change wpAnyH _ _ _ _ _ _ _ (Act.put _ (some 144) _) _
  simp only [Act.put, List.setIfInBounds_toArray, List.set_cons_zero, List.set_cons_succ]
  refine wpAnyH_take (i := 5) (v := ?_) rfl (by kernel_rfl) (by kernel_rfl) (by kernel_rfl) (fun _ _ _ h => h) (Or.inl ⟨by rfl, ?_⟩) HH.out ?_
  rotate_left
  · intro w hSw; go_simp; try with_reducible rfl
  change wpAnyH _ _ _ _ _ _ _ (Act.put _ (some 145) _) _
  simp only [Act.put, List.setIfInBounds_toArray, List.set_cons_zero, List.set_cons_succ]
  refine wpAnyH_take (i := 6) (v := ?_) rfl (by kernel_rfl) (by kernel_rfl) (by kernel_rfl) (fun _ _ _ h => h) (Or.inl ⟨by rfl, ?_⟩) HH.out ?_
  rotate_left
  · intro w hSw; go_simp; try with_reducible rfl
  change wpAnyH _ _ _ _ _ _ _ (Act.put _ (some 146) _) _
  simp only [Act.put, List.setIfInBounds_toArray, List.set_cons_zero, List.set_cons_succ]
  refine wpAnyH_ready (rs := [7, 9]) (by kernel_rfl) (by simp) ?_
  refine (AllReadyH.cons rfl (fun K hK => ?_) (AllReadyH.cons rfl (fun K hK => ?_) AllReadyH.nil))
  go_simp
  go_at_call 72; refine (yRead (O := O) (hX.bF.ext (by (repeat (first | with_reducible exact Ext.refl _ | with_reducible assumption | refine Ext.trans ?_ (by with_reducible assumption) | refine Ext.alloc ?_ _ _ | refine Ext.drew ?_ | refine Ext.drewN ?_ _)))) hq (hO.ext (by (repeat (first | with_reducible exact Ext.refl _ | with_reducible assumption | refine Ext.trans ?_ (by with_reducible assumption) | refine Ext.alloc ?_ _ _ | refine Ext.drew ?_ | refine Ext.drewN ?_ _)))) (hX.fc.memNL.ext (by (repeat (first | with_reducible exact Ext.refl _ | with_reducible assumption | refine Ext.trans ?_ (by with_reducible assumption) | refine Ext.alloc ?_ _ _ | refine Ext.drew ?_ | refine Ext.drewN ?_ _)))) (NV.ext hr0 (by (repeat (first | with_reducible exact Ext.refl _ | with_reducible assumption | refine Ext.trans ?_ (by with_reducible assumption) | refine Ext.alloc ?_ _ _ | refine Ext.drew ?_ | refine Ext.drewN ?_ _)))) (NV.ext hr1 (by (repeat (first | with_reducible exact Ext.refl _ | with_reducible assumption | refine Ext.trans ?_ (by with_reducible assumption) | refine Ext.alloc ?_ _ _ | refine Ext.drew ?_ | refine Ext.drewN ?_ _)))) hb).mono ?_; rintro e w3 ⟨rv, rfl, hrv, he⟩
  refine hK.out _ _ ?_ (fun hHeld => ?_)
  · first | exact HH.out.trans hmY | exact HH.out.trans he | exact HH.out
  clear hK K HH
  have HH : Hid (Ext W0 _) := hHeld
  clear hHeld
  refine wpAnyH_take (i := 8) rfl (by kernel_rfl) (by kernel_rfl) (by kernel_rfl) (fun _ _ _ h => h) (yields_build (ps := [(0, .agg (av f.self)), (2, rv)]) (by rfl) rfl (b132 hself hrv.one) (by simp [Act.eval])) HH.out ?_
  change wpAnyH _ _ _ _ _ _ _ (Act.put _ (some 148) _) _
  simp only [Act.put, List.setIfInBounds_toArray, List.set_cons_zero, List.set_cons_succ]
  refine wpAnyH_ready (rs := [9]) (by kernel_rfl) (by simp) ?_
  refine AllReadyH.cons rfl (fun K hK => ?_) AllReadyH.nil
  refine step_any rfl (op_alloc (n := 22) rfl zero132' (lgV_size (by decide) _ _) ?_)
  rintro B6 W5 e5 b5 g5
  refine hK.out _ _ ?_ (fun hHeld => ?_)
  · exact HH.out.trans e5
  clear hK K HH
  have HH : Hid (Ext W0 _) := hHeld
  clear hHeld
  change wpAnyH _ _ _ _ _ _ _ (Act.put _ (some 14) _) _
  simp only [Act.put, List.setIfInBounds_toArray, List.set_cons_zero, List.set_cons_succ]
  refine wpAnyH_ready (rs := [10]) (by kernel_rfl) (by simp) ?_
  refine AllReadyH.cons rfl (fun K hK => ?_) AllReadyH.nil
  refine step_any rfl (op_storeRow rfl rt132 rfl rfl (lgV_size hself _ _) (lgV_ones hself rfl hrv.one) (b5.ext (by (repeat (first | with_reducible exact Ext.refl _ | with_reducible assumption | refine Ext.trans ?_ (by with_reducible assumption) | refine Ext.alloc ?_ _ _ | refine Ext.drew ?_ | refine Ext.drewN ?_ _)))) (by decide) ?_)
  rintro W6 b6 m6
  refine hK.out _ _ ?_ (fun hHeld => ?_)
  · exact Ext.trans_mod HH.out m6 (fun q hq => by have hq2 : q = B6 := hq; rw [hq2]; exact Nat.le_trans (Ext.size (by (repeat (first | with_reducible exact Ext.refl _ | with_reducible assumption | refine Ext.trans ?_ (by with_reducible assumption) | refine Ext.alloc ?_ _ _ | refine Ext.drew ?_ | refine Ext.drewN ?_ _)))) g5)
  clear hK K HH
  have HH : Hid (Ext W0 _) := hHeld
  clear hHeld
  change wpAnyH _ _ _ _ _ _ _ (Act.put _ none _) _
  simp only [Act.put, List.setIfInBounds_toArray, List.set_cons_zero, List.set_cons_succ]
  refine wpAnyH_done (by kernel_rfl) ?_ _
  exact key B6 W6 rv ⟨HH.out, Nat.le_trans (Ext.size (by (repeat (first | with_reducible exact Ext.refl _ | with_reducible assumption | refine Ext.trans ?_ (by with_reducible assumption) | refine Ext.alloc ?_ _ _ | refine Ext.drew ?_ | refine Ext.drewN ?_ _)))) g5, b6, by first | exact NL.keep (hrv.ext (by (repeat (first | with_reducible exact Ext.refl _ | with_reducible assumption | refine Ext.trans ?_ (by with_reducible assumption) | refine Ext.alloc ?_ _ _ | refine Ext.drew ?_ | refine Ext.drewN ?_ _)))) m6 (fun x hx q => hx (Or.inr q)) | exact NL.keep ((hrv.widen (Nat.le_trans (Ext.size (by (repeat (first | with_reducible exact Ext.refl _ | with_reducible assumption | refine Ext.trans ?_ (by with_reducible assumption) | refine Ext.alloc ?_ _ _ | refine Ext.drew ?_ | refine Ext.drewN ?_ _)))) g5)).ext (by (repeat (first | with_reducible exact Ext.refl _ | with_reducible assumption | refine Ext.trans ?_ (by with_reducible assumption) | refine Ext.alloc ?_ _ _ | refine Ext.drew ?_ | refine Ext.drewN ?_ _)))) m6 (fun x hx q => hx (Or.inr q))⟩
  refine step_any rfl (op_alloc (n := 22) rfl zero132' (lgV_size (by decide) _ _) ?_)
  rintro B6 W5 e5 b5 g5
  refine hK.out _ _ ?_ (fun hHeld => ?_)
  · exact HH.out.trans e5
  clear hK K HH
  have HH : Hid (Ext W0 _) := hHeld
  clear hHeld
  change wpAnyH _ _ _ _ _ _ _ (Act.put _ (some 14) _) _
  simp only [Act.put, List.setIfInBounds_toArray, List.set_cons_zero, List.set_cons_succ]
  refine wpAnyH_ready (rs := [7]) (by kernel_rfl) (by simp) ?_
  refine AllReadyH.cons rfl (fun K hK => ?_) AllReadyH.nil
  go_simp
  go_at_call 72; refine (yRead (O := Wd O B6) (hX.bF.ext (by (repeat (first | with_reducible exact Ext.refl _ | with_reducible assumption | refine Ext.trans ?_ (by with_reducible assumption) | refine Ext.alloc ?_ _ _ | refine Ext.drew ?_ | refine Ext.drewN ?_ _)))) hq (Small.wdk hO (by (repeat (first | with_reducible exact Ext.refl _ | with_reducible assumption | refine Ext.trans ?_ (by with_reducible assumption) | refine Ext.alloc ?_ _ _ | refine Ext.drew ?_ | refine Ext.drewN ?_ _))) (b5.ext (by (repeat (first | with_reducible exact Ext.refl _ | with_reducible assumption | refine Ext.trans ?_ (by with_reducible assumption) | refine Ext.alloc ?_ _ _ | refine Ext.drew ?_ | refine Ext.drewN ?_ _))))) (hX.fc.memNL.ext (by (repeat (first | with_reducible exact Ext.refl _ | with_reducible assumption | refine Ext.trans ?_ (by with_reducible assumption) | refine Ext.alloc ?_ _ _ | refine Ext.drew ?_ | refine Ext.drewN ?_ _)))) (NV.ext (NV.widen hr0 (Nat.le_trans (Ext.size (by (repeat (first | with_reducible exact Ext.refl _ | with_reducible assumption | refine Ext.trans ?_ (by with_reducible assumption) | refine Ext.alloc ?_ _ _ | refine Ext.drew ?_ | refine Ext.drewN ?_ _)))) g5)) (by (repeat (first | with_reducible exact Ext.refl _ | with_reducible assumption | refine Ext.trans ?_ (by with_reducible assumption) | refine Ext.alloc ?_ _ _ | refine Ext.drew ?_ | refine Ext.drewN ?_ _)))) (NV.ext (NV.widen hr1 (Nat.le_trans (Ext.size (by (repeat (first | with_reducible exact Ext.refl _ | with_reducible assumption | refine Ext.trans ?_ (by with_reducible assumption) | refine Ext.alloc ?_ _ _ | refine Ext.drew ?_ | refine Ext.drewN ?_ _)))) g5)) (by (repeat (first | with_reducible exact Ext.refl _ | with_reducible assumption | refine Ext.trans ?_ (by with_reducible assumption) | refine Ext.alloc ?_ _ _ | refine Ext.drew ?_ | refine Ext.drewN ?_ _)))) hb).mono ?_; rintro e w3 ⟨rv, rfl, hrv, he⟩
  refine hK.out _ _ ?_ (fun hHeld => ?_)
  · first | exact HH.out.trans hmY | exact HH.out.trans he | exact HH.out
  clear hK K HH
  have HH : Hid (Ext W0 _) := hHeld
  clear hHeld
  refine wpAnyH_take (i := 8) rfl (by kernel_rfl) (by kernel_rfl) (by kernel_rfl) (fun _ _ _ h => h) (yields_build (ps := [(0, .agg (av f.self)), (2, rv)]) (by rfl) rfl (b132 hself hrv.one) (by simp [Act.eval])) HH.out ?_
  change wpAnyH _ _ _ _ _ _ _ (Act.put _ (some 148) _) _
  simp only [Act.put, List.setIfInBounds_toArray, List.set_cons_zero, List.set_cons_succ]
  refine wpAnyH_ready (rs := [10]) (by kernel_rfl) (by simp) ?_
  refine AllReadyH.cons rfl (fun K hK => ?_) AllReadyH.nil
  refine step_any rfl (op_storeRow rfl rt132 rfl rfl (lgV_size hself _ _) (lgV_ones hself rfl hrv.one) (b5.ext (by (repeat (first | with_reducible exact Ext.refl _ | with_reducible assumption | refine Ext.trans ?_ (by with_reducible assumption) | refine Ext.alloc ?_ _ _ | refine Ext.drew ?_ | refine Ext.drewN ?_ _)))) (by decide) ?_)
  rintro W6 b6 m6
  refine hK.out _ _ ?_ (fun hHeld => ?_)
  · exact Ext.trans_mod HH.out m6 (fun q hq => by have hq2 : q = B6 := hq; rw [hq2]; exact Nat.le_trans (Ext.size (by (repeat (first | with_reducible exact Ext.refl _ | with_reducible assumption | refine Ext.trans ?_ (by with_reducible assumption) | refine Ext.alloc ?_ _ _ | refine Ext.drew ?_ | refine Ext.drewN ?_ _)))) g5)
  clear hK K HH
  have HH : Hid (Ext W0 _) := hHeld
  clear hHeld
  change wpAnyH _ _ _ _ _ _ _ (Act.put _ none _) _
  simp only [Act.put, List.setIfInBounds_toArray, List.set_cons_zero, List.set_cons_succ]
  refine wpAnyH_done (by kernel_rfl) ?_ _
  exact key B6 W6 rv ⟨HH.out, Nat.le_trans (Ext.size (by (repeat (first | with_reducible exact Ext.refl _ | with_reducible assumption | refine Ext.trans ?_ (by with_reducible assumption) | refine Ext.alloc ?_ _ _ | refine Ext.drew ?_ | refine Ext.drewN ?_ _)))) g5, b6, by first | exact NL.keep (hrv.ext (by (repeat (first | with_reducible exact Ext.refl _ | with_reducible assumption | refine Ext.trans ?_ (by with_reducible assumption) | refine Ext.alloc ?_ _ _ | refine Ext.drew ?_ | refine Ext.drewN ?_ _)))) m6 (fun x hx q => hx (Or.inr q)) | exact NL.keep ((hrv.widen (Nat.le_trans (Ext.size (by (repeat (first | with_reducible exact Ext.refl _ | with_reducible assumption | refine Ext.trans ?_ (by with_reducible assumption) | refine Ext.alloc ?_ _ _ | refine Ext.drew ?_ | refine Ext.drewN ?_ _)))) g5)).ext (by (repeat (first | with_reducible exact Ext.refl _ | with_reducible assumption | refine Ext.trans ?_ (by with_reducible assumption) | refine Ext.alloc ?_ _ _ | refine Ext.drew ?_ | refine Ext.drewN ?_ _)))) m6 (fun x hx q => hx (Or.inr q))⟩
  rintro B6 W6 rv ⟨hE6, g6, b6', hrv⟩
  have hEw : Ext w W6 := hW0.trans hE6
  have gw6 : w.heap.size ≤ B6 := Nat.le_trans hW0.size g6
  have hB0 : Blk W6 B6 22 141 (cf (lgV f.self (.slice none 0 0) rv)) := b6'.same (fun i hi => by
    have := layv_in (cf (lgV 0 (.slice none 0 0) (.slice none 0 0))) 0 (lgV f.self (.slice none 0 0) rv) (j := i) (by rw [lgV_size hself]; exact hi)
    rw [Nat.zero_add] at this
    rw [this])
  have hsz := av_size hself
  have qA : AAt (cf (lgV f.self (.slice none 0 0) rv)) 0 f.self := fun j v hv => by
    have hj := (Array.getElem?_eq_some_iff.1 hv).1
    rw [Nat.zero_add]
    exact cf_get (by rw [Array.getElem?_append_left hj]; exact hv)
  have q20 : cf (lgV f.self (.slice none 0 0) rv) 20 = .slice none 0 0 := by rw [cf_append, if_neg (by omega), hsz]; rfl
  have q21 : cf (lgV f.self (.slice none 0 0) rv) 21 = rv := by rw [cf_append, if_neg (by omega), hsz]; rfl
  generalize cf (lgV f.self (.slice none 0 0) rv) = d6 at *
  have hBw : B6 < W6.heap.size := hB0.lt
  have hbA : bA < w.heap.size := bAA.lt
  have nbB : bA ≠ B6 := by omega
  clear b6' hr0 hr1 hE6 g6 hW0
  have i2k : IntKind.i64.wrap (((2 + k : Nat) : Int) - 2) = (k : Int) := by rw [IntKind.wrap_i64]; omega
  have l1 : (2 : Int) ≤ ((2 + k : Nat) : Int) := by omega
  have l2 : ((2 + k : Nat) : Int) ≤ (capA : Int) := by omega
  have l3 : (2 + k) - 2 = k := by omega
  go_upto_region 27 with (fail)
  try simp only [Act.put]
  go_cut [150, 151, 152] (fun s l i wx => ∃ p cp, s = .slice p k cp ∧ (0 < k → p = some ⟨bA, 2, none⟩) ∧ l = .int .i64 (k : Nat) ∧ i = .int .i64 (0 : Nat) ∧ wx = W6)
  case first =>
    by_cases hc2 : capA = 2
    · subst hc2
      have hk0 : k = 0 := by omega
      subst hk0
      go_wp2
      go_meet
      case rel => exact ⟨_, _, rfl, fun q => absurd q (Nat.lt_irrefl _), rfl, rfl, rfl⟩
    · have hci : ¬ (capA : Int) = 2 := by omega
      go_wp2
      go_meet
      case rel => exact ⟨_, _, rfl, fun _ => rfl, rfl, rfl, rfl⟩
  case rest =>
  obtain ⟨pA, cpA, rfl, hpA, rfl, rfl, rfl⟩ := hcut
  obtain ⟨W7, eW7⟩ : ∃ X, X = wc := ⟨_, rfl⟩
  subst eW7
  go_upto_block 1 with (fail)
  try simp only [Act.put]
  go_cut [] (fun wx => ∃ (bt : Nat) (cB ct : Nat → Value) (tv : Value), Blk wx B6 22 141 cB ∧ AAt cB 0 f.self ∧ cB 20 = tv ∧ cB 21 = rv ∧ Arn wx 33 32 tv k bt ct ∧ (0 < k → W7.heap.size ≤ bt) ∧ (k = 0 → tv = .slice none 0 0) ∧ Hid (∀ j, j < k → ∀ q u, (bw (args.getD (2 + j) 0))[q]? = some u → ct (j * 32 + q) = u) ∧ Mod (· = B6) W7 wx)
  case first =>
    go_upto_region 28 with (fail)
    try simp only [Act.put]
    go_loopw [152] (fun iv wr => ∃ (i bt : Nat) (cB ct : Nat → Value) (tv : Value), iv = .int .i64 (i : Nat) ∧ i ≤ k ∧ Blk wr B6 22 141 cB ∧ AAt cB 0 f.self ∧ cB 20 = tv ∧ cB 21 = rv ∧ Arn wr 33 32 tv i bt ct ∧ (0 < i → W7.heap.size ≤ bt) ∧ (i = 0 → tv = .slice none 0 0) ∧ Hid (∀ j, j < i → ∀ q u, (bw (args.getD (2 + j) 0))[q]? = some u → ct (j * 32 + q) = u) ∧ Mod (· = B6) W7 wr) (fun iv _ => k - (intOf iv).toNat)
    case atStart => exact ⟨0, 0, d6, fun _ => undef, .slice none 0 0, rfl, by omega, hB0, qA, q20, q21, Or.inl ⟨rfl, rfl⟩, fun q => absurd q (Nat.lt_irrefl _), fun _ => rfl, (fun j hj => absurd hj (Nat.not_lt_zero _) : ∀ j, j < 0 → _), Mod.refl _ _⟩
    case round =>
      clear hB0 qA q20 q21
      obtain ⟨i, bt, cB, ct, tv, rfl, hik, hB, qA, q20, q21, hAr2, hbt, hz0, hrows, hm⟩ := hrel
      rcases Nat.lt_or_ge i k with hlt | hge
      · have hii : (i : Int) < k := by omega
        have z2 : IntKind.i64.wrap ((i : Int) + 1) = ((i + 1 : Nat) : Int) := by rw [IntKind.wrap_i64]; omega
        have hp2 := hpA (by omega)
        subst hp2
        have hxl := hP (2 + i)
        have hEr : Ext w wr := Ext.trans_mod hEw hm (fun y hy => by have hy2 : y = B6 := hy; rw [hy2]; exact gw6)
        have hEl := (hAr.out i hlt).ext hEr
        have cel : wr.cell? ⟨bA, 2 + i, none⟩ = some (cA (2 + i)) := (bAA.ext hEr).cell (by omega)
        obtain ⟨x, hx⟩ : ∃ x, Hid (args.getD (2 + i) 0 = x) := ⟨_, rfl⟩
        obtain ⟨ux, hux⟩ : ∃ x, Hid (cA (2 + i) = x) := ⟨_, rfl⟩
        rw [hx.out] at hxl hEl
        rw [hux.out] at hEl cel
        have HWd := fun W' (hW : Ext wr W') => yWord ux x W' (hEl.ext hW) hxl
        have KT : ∀ W', Ext wr W' → W'.cell? ⟨B6, 20, none⟩ = some tv := fun W' hW => by rw [(hB.ext hW).cell (by decide), q20]
        have HAA : ∀ W', Ext wr W' → Arn W' 33 32 tv i bt ct := fun W' hW => by
          rcases hAr2 with q | ⟨cp, q1, q2, q3, q4⟩
          · exact Or.inl q
          · exact Or.inr ⟨cp, q1, q2, q3, q4.ext hW⟩
        have bl1 : Blk wr B6 22 141 cB := hB
        clear hEl hux
        have s7 := hm.size
        go_upto_region 30 with ((with_reducible (refine Veil.out ?_; apply wl_loadC onet96k)); (case hw => rfl); (case hx => first | rfl | (congr 2; done)); (case hc => exact cel))
        refine w_ext ?_
        rintro W0 hW0
        refine wp_region_held_drew (S := fun w' => (0 ≤ (w' : World).heap.size)) (by kernel_rfl) (Nat.zero_le _) (fun hHeld => ?_)
        have HH : Hid ((0 ≤ (_ : World).heap.size)) := hHeld
        clear hHeld
        refine wpAnyH_take (i := 0) (v := ?_) rfl (by kernel_rfl) (by kernel_rfl) (by kernel_rfl) (fun _ _ _ h => h) (Or.inl ⟨by rfl, ?_⟩) HH.out ?_
        rotate_left
        · intro w hSw; go_simp; try with_reducible rfl
        change wpAnyH _ _ _ _ _ _ _ (Act.put _ (some 156) _) _
        simp only [Act.put, List.setIfInBounds_toArray, List.set_cons_zero, List.set_cons_succ]
        refine wpAnyH_take (i := 2) (v := ?_) rfl (by kernel_rfl) (by kernel_rfl) (by kernel_rfl) (fun _ _ _ h => h) (Or.inl ⟨by rfl, ?_⟩) HH.out ?_
        rotate_left
        · intro w hSw; go_simp; try with_reducible rfl
        change wpAnyH _ _ _ _ _ _ _ (Act.put _ (some 158) _) _
        simp only [Act.put, List.setIfInBounds_toArray, List.set_cons_zero, List.set_cons_succ]
        refine wpAnyH_ready (rs := [1, 3]) (by kernel_rfl) (by simp) ?_
        refine (AllReadyH.cons rfl (fun K hK => ?_) (AllReadyH.cons rfl (fun K hK => ?_) AllReadyH.nil))
        refine step_any rfl (op_loadC rfl one29 rfl (KT _ (by (repeat (first | with_reducible exact Ext.refl _ | with_reducible assumption | refine Ext.trans ?_ (by with_reducible assumption) | refine Ext.alloc ?_ _ _ | refine Ext.drew ?_ | refine Ext.drewN ?_ _)))) ?_)
        refine hK.out _ _ HH.out (fun hHeld => ?_)
        clear hK K HH
        have HH : Hid ((0 ≤ (_ : World).heap.size)) := hHeld
        clear hHeld
        change wpAnyH _ _ _ _ _ _ _ (Act.put _ (some 157) _) _
        simp only [Act.put, List.setIfInBounds_toArray, List.set_cons_zero, List.set_cons_succ]
        refine wpAnyH_ready (rs := [3]) (by kernel_rfl) (by simp) ?_
        refine AllReadyH.cons rfl (fun K hK => ?_) AllReadyH.nil
        go_simp
        go_at_call 35; refine (HWd _ (by (repeat (first | with_reducible exact Ext.refl _ | with_reducible assumption | refine Ext.trans ?_ (by with_reducible assumption) | refine Ext.alloc ?_ _ _ | refine Ext.drew ?_ | refine Ext.drewN ?_ _)))).mono ?_; rintro e w8 ⟨rfl, he⟩
        refine hK.out _ _ ?_ (fun hHeld => ?_)
        · exact Nat.zero_le _
        clear hK K HH
        have HH : Hid ((0 ≤ (_ : World).heap.size)) := hHeld
        clear hHeld
        refine wpAnyH_ready (rs := [4]) (by kernel_rfl) (by simp) ?_
        refine AllReadyH.cons rfl (fun K hK => ?_) AllReadyH.nil
        refine step_any rfl (op_build1 33 Hvah.t33 _ 32 rfl under29 info28 zero28 size28 zs28 (by decide) (by decide) (bw x) (bw_size hxl) rfl ?_)
        rintro B9 W9 e9 r9 g9
        refine hK.out _ _ (Nat.zero_le _) (fun hHeld => ?_)
        clear hK K HH
        have HH : Hid ((0 ≤ (_ : World).heap.size)) := hHeld
        clear hHeld
        change wpAnyH _ _ _ _ _ _ _ (Act.put _ (some 160) _) _
        simp only [Act.put, List.setIfInBounds_toArray, List.set_cons_zero, List.set_cons_succ]
        refine wpAnyH_ready (rs := [5]) (by kernel_rfl) (by simp) ?_
        refine AllReadyH.cons rfl (fun K hK => ?_) AllReadyH.nil
        refine step_append1 rfl _ _ 34 rfl 33 Hvah.t33 _ 32 under29 info28 zero28 size28 zs28 bytes28 tv i bt ct (HAA _ (by (repeat (first | with_reducible exact Ext.refl _ | with_reducible assumption | refine Ext.trans ?_ (by with_reducible assumption) | refine Ext.alloc ?_ _ _ | refine Ext.drew ?_ | refine Ext.drewN ?_ _)))) (by omega) ⟨B9, 0, none⟩ 1 (bw x).toList (bw_size hxl) r9 (bw_one x) rfl rfl ?_
        rintro v' W10 b' c' hG
        obtain ⟨capj', rfl⟩ := hG.some
        have hEX9 : Ext wr W9 := by (repeat (first | with_reducible exact Ext.refl _ | with_reducible assumption | refine Ext.trans ?_ (by with_reducible assumption) | refine Ext.alloc ?_ _ _ | refine Ext.drew ?_ | refine Ext.drewN ?_ _))
        have h69 := hB.ext hEX9
        have hBoth : Blk W10 B6 22 141 cB ∧ W7.heap.size ≤ b' ∧ b' ≠ B6 ∧ Mod (· = B6) W7 W10 := by
          rcases hG.how with ⟨q1, ⟨cp, hc⟩, hm9⟩ | ⟨q1, hx⟩
          · rcases Nat.eq_zero_or_pos i with hi0 | hi0
            · subst hi0
              rw [hz0 rfl] at hc; cases hc
            · have g1 := hbt hi0
              have g2 : bt ≠ B6 := by omega
              exact ⟨h69.mod hm9 (fun e => g2 (Eq.symm e)), by rw [q1]; exact g1, by rw [q1]; exact g2, (hm.trans_ext hEX9).trans' hm9 (fun y hy => by have hy2 : y = bt := hy; rw [hy2]; exact Or.inr g1)⟩
          · have g1 : W7.heap.size ≤ W9.heap.size := Nat.le_trans s7 hEX9.size
            exact ⟨h69.ext hx, by rw [q1]; exact g1, by rw [q1]; have := h69.lt; omega, (hm.trans_ext hEX9).trans_ext hx⟩
        obtain ⟨hB10, gb1, gb2, hE10⟩ := hBoth
        refine hK.out _ _ (Nat.zero_le _) (fun hHeld => ?_)
        clear hK K HH
        have HH : Hid ((0 ≤ (_ : World).heap.size)) := hHeld
        clear hHeld
        change wpAnyH _ _ _ _ _ _ _ (Act.put _ (some 161) _) _
        simp only [Act.put, List.setIfInBounds_toArray, List.set_cons_zero, List.set_cons_succ]
        refine wpAnyH_take (i := 6) (v := ?_) rfl (by kernel_rfl) (by kernel_rfl) (by kernel_rfl) (fun _ _ _ h => h) (Or.inl ⟨by rfl, ?_⟩) HH.out ?_
        rotate_left
        · intro w hSw; go_simp; try with_reducible rfl
        change wpAnyH _ _ _ _ _ _ _ (Act.put _ (some 162) _) _
        simp only [Act.put, List.setIfInBounds_toArray, List.set_cons_zero, List.set_cons_succ]
        refine wpAnyH_ready (rs := [7]) (by kernel_rfl) (by simp) ?_
        refine AllReadyH.cons rfl (fun K hK => ?_) AllReadyH.nil
        refine step_any rfl (op_store1 rfl one29 rfl rfl rfl hB10 (by decide) ?_)
        rintro W11 b11 m11
        refine hK.out _ _ (Nat.zero_le _) (fun hHeld => ?_)
        clear hK K HH
        have HH : Hid ((0 ≤ (_ : World).heap.size)) := hHeld
        clear hHeld
        change wpAnyH _ _ _ _ _ _ _ (Act.put _ none _) _
        simp only [Act.put, List.setIfInBounds_toArray, List.set_cons_zero, List.set_cons_succ]
        refine wpAnyH_done (by kernel_rfl) ?_ _
        · go_wp2
          go_roundw
          case rel =>
            have hx2 := hx.out
            have b11' : Blk W11 B6 22 141 (updv cB 20 (.slice (some ⟨b', 0, none⟩) (i + 1) capj')) := b11
            refine ⟨i + 1, b', _, c', _, int_eq (by omega), by omega, b11', qA.upd hself (by omega), updv_same _ _ _, by rw [updv_ne _ _ (by decide)]; exact q21, hG.arn.mod m11 (fun q => gb2 q), fun _ => gb1, fun q => absurd q (Nat.succ_ne_zero _), (fun j hj q u hu => ?_ : ∀ j, j < i + 1 → ∀ q u, (bw (args.getD (2 + j) 0))[q]? = some u → c' (j * 32 + q) = u), hE10.trans m11⟩
            by_cases e : j = i
            · subst e
              rw [hx2] at hu
              exact hG.new q u (by rw [Array.getElem?_toList]; exact hu)
            · have hq := (Array.getElem?_eq_some_iff.1 hu).1
              rw [bw_size (hP _)] at hq
              rw [hG.old _ (by omega)]
              exact hrows.out j (by omega) q u hu
          case measure => simp [intOf]; omega
        go_simp
        go_at_call 35; refine (HWd _ (by (repeat (first | with_reducible exact Ext.refl _ | with_reducible assumption | refine Ext.trans ?_ (by with_reducible assumption) | refine Ext.alloc ?_ _ _ | refine Ext.drew ?_ | refine Ext.drewN ?_ _)))).mono ?_; rintro e w8 ⟨rfl, he⟩
        refine hK.out _ _ ?_ (fun hHeld => ?_)
        · exact Nat.zero_le _
        clear hK K HH
        have HH : Hid ((0 ≤ (_ : World).heap.size)) := hHeld
        clear hHeld
        refine wpAnyH_ready (rs := [1, 4]) (by kernel_rfl) (by simp) ?_
        refine (AllReadyH.cons rfl (fun K hK => ?_) (AllReadyH.cons rfl (fun K hK => ?_) AllReadyH.nil))
        refine step_any rfl (op_loadC rfl one29 rfl (KT _ (by (repeat (first | with_reducible exact Ext.refl _ | with_reducible assumption | refine Ext.trans ?_ (by with_reducible assumption) | refine Ext.alloc ?_ _ _ | refine Ext.drew ?_ | refine Ext.drewN ?_ _)))) ?_)
        refine hK.out _ _ HH.out (fun hHeld => ?_)
        clear hK K HH
        have HH : Hid ((0 ≤ (_ : World).heap.size)) := hHeld
        clear hHeld
        change wpAnyH _ _ _ _ _ _ _ (Act.put _ (some 157) _) _
        simp only [Act.put, List.setIfInBounds_toArray, List.set_cons_zero, List.set_cons_succ]
        refine wpAnyH_ready (rs := [4]) (by kernel_rfl) (by simp) ?_
        refine AllReadyH.cons rfl (fun K hK => ?_) AllReadyH.nil
        refine step_any rfl (op_build1 33 Hvah.t33 _ 32 rfl under29 info28 zero28 size28 zs28 (by decide) (by decide) (bw x) (bw_size hxl) rfl ?_)
        rintro B9 W9 e9 r9 g9
        refine hK.out _ _ (Nat.zero_le _) (fun hHeld => ?_)
        clear hK K HH
        have HH : Hid ((0 ≤ (_ : World).heap.size)) := hHeld
        clear hHeld
        change wpAnyH _ _ _ _ _ _ _ (Act.put _ (some 160) _) _
        simp only [Act.put, List.setIfInBounds_toArray, List.set_cons_zero, List.set_cons_succ]
        refine wpAnyH_ready (rs := [5]) (by kernel_rfl) (by simp) ?_
        refine AllReadyH.cons rfl (fun K hK => ?_) AllReadyH.nil
        refine step_append1 rfl _ _ 34 rfl 33 Hvah.t33 _ 32 under29 info28 zero28 size28 zs28 bytes28 tv i bt ct (HAA _ (by (repeat (first | with_reducible exact Ext.refl _ | with_reducible assumption | refine Ext.trans ?_ (by with_reducible assumption) | refine Ext.alloc ?_ _ _ | refine Ext.drew ?_ | refine Ext.drewN ?_ _)))) (by omega) ⟨B9, 0, none⟩ 1 (bw x).toList (bw_size hxl) r9 (bw_one x) rfl rfl ?_
        rintro v' W10 b' c' hG
        obtain ⟨capj', rfl⟩ := hG.some
        have hEX9 : Ext wr W9 := by (repeat (first | with_reducible exact Ext.refl _ | with_reducible assumption | refine Ext.trans ?_ (by with_reducible assumption) | refine Ext.alloc ?_ _ _ | refine Ext.drew ?_ | refine Ext.drewN ?_ _))
        have h69 := hB.ext hEX9
        have hBoth : Blk W10 B6 22 141 cB ∧ W7.heap.size ≤ b' ∧ b' ≠ B6 ∧ Mod (· = B6) W7 W10 := by
          rcases hG.how with ⟨q1, ⟨cp, hc⟩, hm9⟩ | ⟨q1, hx⟩
          · rcases Nat.eq_zero_or_pos i with hi0 | hi0
            · subst hi0
              rw [hz0 rfl] at hc; cases hc
            · have g1 := hbt hi0
              have g2 : bt ≠ B6 := by omega
              exact ⟨h69.mod hm9 (fun e => g2 (Eq.symm e)), by rw [q1]; exact g1, by rw [q1]; exact g2, (hm.trans_ext hEX9).trans' hm9 (fun y hy => by have hy2 : y = bt := hy; rw [hy2]; exact Or.inr g1)⟩
          · have g1 : W7.heap.size ≤ W9.heap.size := Nat.le_trans s7 hEX9.size
            exact ⟨h69.ext hx, by rw [q1]; exact g1, by rw [q1]; have := h69.lt; omega, (hm.trans_ext hEX9).trans_ext hx⟩
        obtain ⟨hB10, gb1, gb2, hE10⟩ := hBoth
        refine hK.out _ _ (Nat.zero_le _) (fun hHeld => ?_)
        clear hK K HH
        have HH : Hid ((0 ≤ (_ : World).heap.size)) := hHeld
        clear hHeld
        change wpAnyH _ _ _ _ _ _ _ (Act.put _ (some 161) _) _
        simp only [Act.put, List.setIfInBounds_toArray, List.set_cons_zero, List.set_cons_succ]
        refine wpAnyH_take (i := 6) (v := ?_) rfl (by kernel_rfl) (by kernel_rfl) (by kernel_rfl) (fun _ _ _ h => h) (Or.inl ⟨by rfl, ?_⟩) HH.out ?_
        rotate_left
        · intro w hSw; go_simp; try with_reducible rfl
        change wpAnyH _ _ _ _ _ _ _ (Act.put _ (some 162) _) _
        simp only [Act.put, List.setIfInBounds_toArray, List.set_cons_zero, List.set_cons_succ]
        refine wpAnyH_ready (rs := [7]) (by kernel_rfl) (by simp) ?_
        refine AllReadyH.cons rfl (fun K hK => ?_) AllReadyH.nil
        refine step_any rfl (op_store1 rfl one29 rfl rfl rfl hB10 (by decide) ?_)
        rintro W11 b11 m11
        refine hK.out _ _ (Nat.zero_le _) (fun hHeld => ?_)
        clear hK K HH
        have HH : Hid ((0 ≤ (_ : World).heap.size)) := hHeld
        clear hHeld
        change wpAnyH _ _ _ _ _ _ _ (Act.put _ none _) _
        simp only [Act.put, List.setIfInBounds_toArray, List.set_cons_zero, List.set_cons_succ]
        refine wpAnyH_done (by kernel_rfl) ?_ _
        · go_wp2
          go_roundw
          case rel =>
            have hx2 := hx.out
            have b11' : Blk W11 B6 22 141 (updv cB 20 (.slice (some ⟨b', 0, none⟩) (i + 1) capj')) := b11
            refine ⟨i + 1, b', _, c', _, int_eq (by omega), by omega, b11', qA.upd hself (by omega), updv_same _ _ _, by rw [updv_ne _ _ (by decide)]; exact q21, hG.arn.mod m11 (fun q => gb2 q), fun _ => gb1, fun q => absurd q (Nat.succ_ne_zero _), (fun j hj q u hu => ?_ : ∀ j, j < i + 1 → ∀ q u, (bw (args.getD (2 + j) 0))[q]? = some u → c' (j * 32 + q) = u), hE10.trans m11⟩
            by_cases e : j = i
            · subst e
              rw [hx2] at hu
              exact hG.new q u (by rw [Array.getElem?_toList]; exact hu)
            · have hq := (Array.getElem?_eq_some_iff.1 hu).1
              rw [bw_size (hP _)] at hq
              rw [hG.old _ (by omega)]
              exact hrows.out j (by omega) q u hu
          case measure => simp [intOf]; omega
        refine step_any rfl (op_build1 33 Hvah.t33 _ 32 rfl under29 info28 zero28 size28 zs28 (by decide) (by decide) (bw x) (bw_size hxl) rfl ?_)
        rintro B9 W9 e9 r9 g9
        refine hK.out _ _ (Nat.zero_le _) (fun hHeld => ?_)
        clear hK K HH
        have HH : Hid ((0 ≤ (_ : World).heap.size)) := hHeld
        clear hHeld
        change wpAnyH _ _ _ _ _ _ _ (Act.put _ (some 160) _) _
        simp only [Act.put, List.setIfInBounds_toArray, List.set_cons_zero, List.set_cons_succ]
        refine wpAnyH_ready (rs := [1]) (by kernel_rfl) (by simp) ?_
        refine AllReadyH.cons rfl (fun K hK => ?_) AllReadyH.nil
        refine step_any rfl (op_loadC rfl one29 rfl (KT _ (by (repeat (first | with_reducible exact Ext.refl _ | with_reducible assumption | refine Ext.trans ?_ (by with_reducible assumption) | refine Ext.alloc ?_ _ _ | refine Ext.drew ?_ | refine Ext.drewN ?_ _)))) ?_)
        refine hK.out _ _ HH.out (fun hHeld => ?_)
        clear hK K HH
        have HH : Hid ((0 ≤ (_ : World).heap.size)) := hHeld
        clear hHeld
        change wpAnyH _ _ _ _ _ _ _ (Act.put _ (some 157) _) _
        simp only [Act.put, List.setIfInBounds_toArray, List.set_cons_zero, List.set_cons_succ]
        refine wpAnyH_ready (rs := [5]) (by kernel_rfl) (by simp) ?_
        refine AllReadyH.cons rfl (fun K hK => ?_) AllReadyH.nil
        refine step_append1 rfl _ _ 34 rfl 33 Hvah.t33 _ 32 under29 info28 zero28 size28 zs28 bytes28 tv i bt ct (HAA _ (by (repeat (first | with_reducible exact Ext.refl _ | with_reducible assumption | refine Ext.trans ?_ (by with_reducible assumption) | refine Ext.alloc ?_ _ _ | refine Ext.drew ?_ | refine Ext.drewN ?_ _)))) (by omega) ⟨B9, 0, none⟩ 1 (bw x).toList (bw_size hxl) r9 (bw_one x) rfl rfl ?_
        rintro v' W10 b' c' hG
        obtain ⟨capj', rfl⟩ := hG.some
        have hEX9 : Ext wr W9 := by (repeat (first | with_reducible exact Ext.refl _ | with_reducible assumption | refine Ext.trans ?_ (by with_reducible assumption) | refine Ext.alloc ?_ _ _ | refine Ext.drew ?_ | refine Ext.drewN ?_ _))
        have h69 := hB.ext hEX9
        have hBoth : Blk W10 B6 22 141 cB ∧ W7.heap.size ≤ b' ∧ b' ≠ B6 ∧ Mod (· = B6) W7 W10 := by
          rcases hG.how with ⟨q1, ⟨cp, hc⟩, hm9⟩ | ⟨q1, hx⟩
          · rcases Nat.eq_zero_or_pos i with hi0 | hi0
            · subst hi0
              rw [hz0 rfl] at hc; cases hc
            · have g1 := hbt hi0
              have g2 : bt ≠ B6 := by omega
              exact ⟨h69.mod hm9 (fun e => g2 (Eq.symm e)), by rw [q1]; exact g1, by rw [q1]; exact g2, (hm.trans_ext hEX9).trans' hm9 (fun y hy => by have hy2 : y = bt := hy; rw [hy2]; exact Or.inr g1)⟩
          · have g1 : W7.heap.size ≤ W9.heap.size := Nat.le_trans s7 hEX9.size
            exact ⟨h69.ext hx, by rw [q1]; exact g1, by rw [q1]; have := h69.lt; omega, (hm.trans_ext hEX9).trans_ext hx⟩
        obtain ⟨hB10, gb1, gb2, hE10⟩ := hBoth
        refine hK.out _ _ (Nat.zero_le _) (fun hHeld => ?_)
        clear hK K HH
        have HH : Hid ((0 ≤ (_ : World).heap.size)) := hHeld
        clear hHeld
        change wpAnyH _ _ _ _ _ _ _ (Act.put _ (some 161) _) _
        simp only [Act.put, List.setIfInBounds_toArray, List.set_cons_zero, List.set_cons_succ]
        refine wpAnyH_take (i := 6) (v := ?_) rfl (by kernel_rfl) (by kernel_rfl) (by kernel_rfl) (fun _ _ _ h => h) (Or.inl ⟨by rfl, ?_⟩) HH.out ?_
        rotate_left
        · intro w hSw; go_simp; try with_reducible rfl
        change wpAnyH _ _ _ _ _ _ _ (Act.put _ (some 162) _) _
        simp only [Act.put, List.setIfInBounds_toArray, List.set_cons_zero, List.set_cons_succ]
        refine wpAnyH_ready (rs := [7]) (by kernel_rfl) (by simp) ?_
        refine AllReadyH.cons rfl (fun K hK => ?_) AllReadyH.nil
        refine step_any rfl (op_store1 rfl one29 rfl rfl rfl hB10 (by decide) ?_)
        rintro W11 b11 m11
        refine hK.out _ _ (Nat.zero_le _) (fun hHeld => ?_)
        clear hK K HH
        have HH : Hid ((0 ≤ (_ : World).heap.size)) := hHeld
        clear hHeld
        change wpAnyH _ _ _ _ _ _ _ (Act.put _ none _) _
        simp only [Act.put, List.setIfInBounds_toArray, List.set_cons_zero, List.set_cons_succ]
        refine wpAnyH_done (by kernel_rfl) ?_ _
        · go_wp2
          go_roundw
          case rel =>
            have hx2 := hx.out
            have b11' : Blk W11 B6 22 141 (updv cB 20 (.slice (some ⟨b', 0, none⟩) (i + 1) capj')) := b11
            refine ⟨i + 1, b', _, c', _, int_eq (by omega), by omega, b11', qA.upd hself (by omega), updv_same _ _ _, by rw [updv_ne _ _ (by decide)]; exact q21, hG.arn.mod m11 (fun q => gb2 q), fun _ => gb1, fun q => absurd q (Nat.succ_ne_zero _), (fun j hj q u hu => ?_ : ∀ j, j < i + 1 → ∀ q u, (bw (args.getD (2 + j) 0))[q]? = some u → c' (j * 32 + q) = u), hE10.trans m11⟩
            by_cases e : j = i
            · subst e
              rw [hx2] at hu
              exact hG.new q u (by rw [Array.getElem?_toList]; exact hu)
            · have hq := (Array.getElem?_eq_some_iff.1 hu).1
              rw [bw_size (hP _)] at hq
              rw [hG.old _ (by omega)]
              exact hrows.out j (by omega) q u hu
          case measure => simp [intOf]; omega
      · have hii : ¬ (i : Int) < k := by omega
        obtain rfl : k = i := by omega
        go_wp2
        go_meet
        case rel => exact ⟨bt, cB, ct, tv, hB, qA, q20, q21, hAr2, hbt, hz0, hrows, hm⟩
  case rest =>
  obtain ⟨bt, cB, ct, tv, hB, qA', q20', q21', hAr2, hbt, hz0, hrows, hm⟩ := hcut
  obtain ⟨W8, eW8⟩ : ∃ X, X = wc := ⟨_, rfl⟩
  subst eW8
  have hE8 : Ext w W8 := Ext.trans_mod hEw hm (fun y hy => by have hy2 : y = B6 := hy; rw [hy2]; exact gw6)
  have hBL : Blk W8 B6 22 141 (cf (lgV f.self tv rv)) := hB.same (fun j hj => by rw [← rowLg hself qA' q20' q21', cf_rowOf _ _ _ hj, Nat.zero_add])
  have hWL : WL O W8 tv (args.drop 2) := by
    rw [htop.out]
    rcases hAr2 with ⟨q1, q2⟩ | ⟨cp, q1, q2, q3, q4⟩
    · refine Or.inl ⟨by rw [q1]; rfl, q2⟩
    · rcases Nat.eq_zero_or_pos k with hk0 | hk0
      · subst hk0
        exact Or.inl ⟨rfl, hz0 rfl⟩
      · have g1 := hbt hk0
        refine Or.inr ⟨bt, 0, cp, by rw [q1]; simp, by simpa using q2, q3, fun q => (by have := hO bt q; have := hEw.size; omega), q4.lt, fun j hj => ?_⟩
        have hj : j < k := by simpa using hj
        have ej : ((List.range k).map fun j => args.getD (2 + j) 0)[j]'(by simpa using hj) = args.getD (2 + j) 0 := by simp
        rw [ej]
        refine ⟨hP _, fun q u hu => ?_⟩
        have hq := (Array.getElem?_eq_some_iff.1 hu).1
        rw [bw_size (hP _)] at hq
        rw [Nat.zero_add, q4.cell (by omega), hrows.out j hj q u hu]
  have hdL : NL O W8 rv (readA f.mem x0 x1) := (hrv.keep hm (fun b hb q => hb (Or.inr q))).narrow
  have htl : (args.drop 2).length ≤ 4 := by rw [htop.out]; simpa using hk
  obtain ⟨TL9, hTL9⟩ : ∃ x, Hid (args.drop 2 = x) := ⟨_, rfl⟩
  obtain ⟨DL9, hDL9⟩ : ∃ x, Hid (readA f.mem x0 x1 = x) := ⟨_, rfl⟩
  rw [hTL9.out] at hWL htl hl
  rw [hDL9.out] at hdL hl
  have hX8 := hX.ext hE8
  have htv1 : tv.oneCell' = true := by rcases hWL with ⟨_, z⟩ | ⟨_, _, _, z, _⟩ <;> rw [z] <;> rfl
  clear hAr2 hbt hz0 hrows hB qA' q20' q21' hB0 qA q20 q21 hm hrv hAr hP hpA htop bAA
  obtain ⟨bL, cL, hArn, hrowL, hTT⟩ := hX8.lgA
  have hrowH : Hid (∀ (i : Nat) (h : i < W.logs.length), LgC O W8 cL (i * 22) W.logs[i]) := hrowL
  have hTTH : Hid (_ ∨ _) := hTT
  clear hrowL hTT
  have hlog : W.logs.length ≤ 90000 := hX.lim.logs
  have HAA : ∀ W', Ext W8 W' → Arn W' 141 22 (c 4) W.logs.length bL cL := fun W' hW => by
    rcases hArn with q | ⟨cp, q1, q2, q3, q4⟩
    · exact Or.inl q
    · exact Or.inr ⟨cp, q1, q2, q3, q4.ext hW⟩
  have K4 : ∀ W', Ext W8 W' → W'.cell? ⟨Y, 4, none⟩ = some (c 4) := fun W' hW => (hX8.bY.ext hW).cell (by decide)
  have KR : ∀ W', Ext W8 W' → Blk W' B6 22 141 (cf (lgV f.self tv rv)) := fun W' hW => hBL.ext hW
  have hrr : rowOf (cf (lgV f.self tv rv)) 0 22 = lgV f.self tv rv := by
    apply Array.ext_getElem?
    intro i
    rw [rowOf_get]
    by_cases h : i < 22
    · rw [if_pos h, Nat.zero_add, get_cf (by rw [lgV_size hself]; exact h)]
    · rw [if_neg h, Array.getElem?_eq_none (by rw [lgV_size hself]; omega)]
  clear hArn hBL
  go_upto_region 32 with (fail)
  refine w_ext ?_
  rintro W0 hW0
  refine wp_region_held_drew (S := fun w' => (0 ≤ (w' : World).heap.size)) (by kernel_rfl) (Nat.zero_le _) (fun hHeld => ?_)
  have HH : Hid ((0 ≤ (_ : World).heap.size)) := hHeld
  clear hHeld
  refine wpAnyH_take (i := 0) (v := ?_) rfl (by kernel_rfl) (by kernel_rfl) (by kernel_rfl) (fun _ _ _ h => h) (Or.inl ⟨by rfl, ?_⟩) HH.out ?_
  rotate_left
  · intro w hSw; go_simp; try with_reducible rfl
  change wpAnyH _ _ _ _ _ _ _ (Act.put _ (some 164) _) _
  simp only [Act.put, List.setIfInBounds_toArray, List.set_cons_zero, List.set_cons_succ]
  refine wpAnyH_take (i := 1) (v := ?_) rfl (by kernel_rfl) (by kernel_rfl) (by kernel_rfl) (fun _ _ _ h => h) (Or.inl ⟨by rfl, ?_⟩) HH.out ?_
  rotate_left
  · intro w hSw; go_simp; try with_reducible rfl
  change wpAnyH _ _ _ _ _ _ _ (Act.put _ (some 165) _) _
  simp only [Act.put, List.setIfInBounds_toArray, List.set_cons_zero, List.set_cons_succ]
  refine wpAnyH_take (i := 2) (v := ?_) rfl (by kernel_rfl) (by kernel_rfl) (by kernel_rfl) (fun _ _ _ h => h) (Or.inl ⟨by rfl, ?_⟩) HH.out ?_
  rotate_left
  · intro w hSw; go_simp; try with_reducible rfl
  change wpAnyH _ _ _ _ _ _ _ (Act.put _ (some 166) _) _
  simp only [Act.put, List.setIfInBounds_toArray, List.set_cons_zero, List.set_cons_succ]
  refine wpAnyH_take (i := 3) (v := ?_) rfl (by kernel_rfl) (by kernel_rfl) (by kernel_rfl) (fun _ _ _ h => h) (Or.inl ⟨by rfl, ?_⟩) HH.out ?_
  rotate_left
  · intro w hSw; go_simp; try with_reducible rfl
  change wpAnyH _ _ _ _ _ _ _ (Act.put _ (some 167) _) _
  simp only [Act.put, List.setIfInBounds_toArray, List.set_cons_zero, List.set_cons_succ]
  refine wpAnyH_take (i := 4) (v := ?_) rfl (by kernel_rfl) (by kernel_rfl) (by kernel_rfl) (fun _ _ _ h => h) (Or.inl ⟨by rfl, ?_⟩) HH.out ?_
  rotate_left
  · intro w hSw; go_simp; try with_reducible rfl
  change wpAnyH _ _ _ _ _ _ _ (Act.put _ (some 168) _) _
  simp only [Act.put, List.setIfInBounds_toArray, List.set_cons_zero, List.set_cons_succ]
  refine wpAnyH_ready (rs := [5, 6]) (by kernel_rfl) (by simp) ?_
  refine (AllReadyH.cons rfl (fun K hK => ?_) (AllReadyH.cons rfl (fun K hK => ?_) AllReadyH.nil))
  refine step_any rfl (op_loadC rfl one44 rfl (K4 _ (by (repeat (first | with_reducible exact Ext.refl _ | with_reducible assumption | refine Ext.trans ?_ (by with_reducible assumption) | refine Ext.alloc ?_ _ _ | refine Ext.drew ?_ | refine Ext.drewN ?_ _)))) ?_)
  refine hK.out _ _ HH.out (fun hHeld => ?_)
  clear hK K HH
  have HH : Hid ((0 ≤ (_ : World).heap.size)) := hHeld
  clear hHeld
  change wpAnyH _ _ _ _ _ _ _ (Act.put _ (some 169) _) _
  simp only [Act.put, List.setIfInBounds_toArray, List.set_cons_zero, List.set_cons_succ]
  refine wpAnyH_ready (rs := [6]) (by kernel_rfl) (by simp) ?_
  refine AllReadyH.cons rfl (fun K hK => ?_) AllReadyH.nil
  refine step_any rfl (op_loadRow rfl rt132 rfl (KR _ (by (repeat (first | with_reducible exact Ext.refl _ | with_reducible assumption | refine Ext.trans ?_ (by with_reducible assumption) | refine Ext.alloc ?_ _ _ | refine Ext.drew ?_ | refine Ext.drewN ?_ _)))) (by decide) ?_)
  rw [hrr]
  refine hK.out _ _ HH.out (fun hHeld => ?_)
  clear hK K HH
  have HH : Hid ((0 ≤ (_ : World).heap.size)) := hHeld
  clear hHeld
  change wpAnyH _ _ _ _ _ _ _ (Act.put _ (some 170) _) _
  simp only [Act.put, List.setIfInBounds_toArray, List.set_cons_zero, List.set_cons_succ]
  refine wpAnyH_ready (rs := [7]) (by kernel_rfl) (by simp) ?_
  refine AllReadyH.cons rfl (fun K hK => ?_) AllReadyH.nil
  refine step_any rfl (op_build1 141 Hvah.t141 _ 22 rfl under44 info132 zero132 size132 zs132 (by decide) (by decide) (lgV f.self tv rv) (lgV_size hself _ _) rfl ?_)
  rintro B9 W9 e9 r9 g9
  refine hK.out _ _ (Nat.zero_le _) (fun hHeld => ?_)
  clear hK K HH
  have HH : Hid ((0 ≤ (_ : World).heap.size)) := hHeld
  clear hHeld
  change wpAnyH _ _ _ _ _ _ _ (Act.put _ (some 171) _) _
  simp only [Act.put, List.setIfInBounds_toArray, List.set_cons_zero, List.set_cons_succ]
  refine wpAnyH_ready (rs := [8]) (by kernel_rfl) (by simp) ?_
  refine AllReadyH.cons rfl (fun K hK => ?_) AllReadyH.nil
  refine step_append1g rfl _ _ 49 rfl 141 Hvah.t141 _ 22 under44 info132 zero132 size132 zs132 bytes132 (c 4) W.logs.length bL cL (HAA _ (by (repeat (first | with_reducible exact Ext.refl _ | with_reducible assumption | refine Ext.trans ?_ (by with_reducible assumption) | refine Ext.alloc ?_ _ _ | refine Ext.drew ?_ | refine Ext.drewN ?_ _)))) (by omega) ⟨B9, 0, none⟩ 1 (lgV f.self tv rv).toList (lgV_size hself _ _) r9 (fun u hu => lgV_ones hself htv1 hdL.one u hu) rfl rfl ?_
  rintro v' W10 b' c' hG hR
  obtain ⟨capj', rfl⟩ := hG.some
  have hEX9 : Ext W8 W9 := by (repeat (first | with_reducible exact Ext.refl _ | with_reducible assumption | refine Ext.trans ?_ (by with_reducible assumption) | refine Ext.alloc ?_ _ _ | refine Ext.drew ?_ | refine Ext.drewN ?_ _))
  have hY10 : Blk W10 Y 179 118 c := yAppY (hX8.ext hEX9) hTTH.out hR
  refine hK.out _ _ (Nat.zero_le _) (fun hHeld => ?_)
  clear hK K HH
  have HH : Hid ((0 ≤ (_ : World).heap.size)) := hHeld
  clear hHeld
  change wpAnyH _ _ _ _ _ _ _ (Act.put _ (some 172) _) _
  simp only [Act.put, List.setIfInBounds_toArray, List.set_cons_zero, List.set_cons_succ]
  refine wpAnyH_take (i := 9) (v := ?_) rfl (by kernel_rfl) (by kernel_rfl) (by kernel_rfl) (fun _ _ _ h => h) (Or.inl ⟨by rfl, ?_⟩) HH.out ?_
  rotate_left
  · intro w hSw; go_simp; try with_reducible rfl
  change wpAnyH _ _ _ _ _ _ _ (Act.put _ (some 173) _) _
  simp only [Act.put, List.setIfInBounds_toArray, List.set_cons_zero, List.set_cons_succ]
  refine wpAnyH_take (i := 10) (v := ?_) rfl (by kernel_rfl) (by kernel_rfl) (by kernel_rfl) (fun _ _ _ h => h) (Or.inl ⟨by rfl, ?_⟩) HH.out ?_
  rotate_left
  · intro w hSw; go_simp; try with_reducible rfl
  change wpAnyH _ _ _ _ _ _ _ (Act.put _ (some 174) _) _
  simp only [Act.put, List.setIfInBounds_toArray, List.set_cons_zero, List.set_cons_succ]
  refine wpAnyH_take (i := 11) (v := ?_) rfl (by kernel_rfl) (by kernel_rfl) (by kernel_rfl) (fun _ _ _ h => h) (Or.inl ⟨by rfl, ?_⟩) HH.out ?_
  rotate_left
  · intro w hSw; go_simp; try with_reducible rfl
  change wpAnyH _ _ _ _ _ _ _ (Act.put _ (some 175) _) _
  simp only [Act.put, List.setIfInBounds_toArray, List.set_cons_zero, List.set_cons_succ]
  refine wpAnyH_ready (rs := [12]) (by kernel_rfl) (by simp) ?_
  refine AllReadyH.cons rfl (fun K hK => ?_) AllReadyH.nil
  refine step_any rfl (op_store1 rfl one44 rfl rfl rfl hY10 (by decide) ?_)
  rintro W11 b11 m11
  refine hK.out _ _ (Nat.zero_le _) (fun hHeld => ?_)
  clear hK K HH
  have HH : Hid ((0 ≤ (_ : World).heap.size)) := hHeld
  clear hHeld
  change wpAnyH _ _ _ _ _ _ _ (Act.put _ none _) _
  simp only [Act.put, List.setIfInBounds_toArray, List.set_cons_zero, List.set_cons_succ]
  refine wpAnyH_done (by kernel_rfl) ?_ _
  · go_wp2
    go_ret
    obtain ⟨hXn, mn, hw9⟩ := (hX8.ext hEX9).putLog (l := ⟨f.self, TL9, DL9⟩) hself (hWL.ext hEX9) htl (hdL.ext hEX9) (fun i h => (hrowH.out i h).ext hEX9) hTTH.out hG hR m11 b11 hl
    rw [← hTL9.out, ← hDL9.out] at hXn
    have s9 := (hE8.trans hEX9).size
    refine ⟨_, _, _, rfl, hXn, fun b => Or.inl, fun b hb q => q.elim id (fun e => ?_), fun b hb => ?_, ((hE8.trans hEX9).mod _).trans mn⟩
    · rcases hw9 with t | t
      · rw [e]; exact (hX.tl _ t).1
      · rw [e, t] at hb; omega
    · have hb2 : b = b' := hb
      rw [hb2]
      rcases hw9 with t | t
      · exact Or.inl t
      · exact Or.inr (by rw [t]; exact s9)
  refine step_any rfl (op_loadRow rfl rt132 rfl (KR _ (by (repeat (first | with_reducible exact Ext.refl _ | with_reducible assumption | refine Ext.trans ?_ (by with_reducible assumption) | refine Ext.alloc ?_ _ _ | refine Ext.drew ?_ | refine Ext.drewN ?_ _)))) (by decide) ?_)
  rw [hrr]
  refine hK.out _ _ HH.out (fun hHeld => ?_)
  clear hK K HH
  have HH : Hid ((0 ≤ (_ : World).heap.size)) := hHeld
  clear hHeld
  change wpAnyH _ _ _ _ _ _ _ (Act.put _ (some 170) _) _
  simp only [Act.put, List.setIfInBounds_toArray, List.set_cons_zero, List.set_cons_succ]
  refine wpAnyH_ready (rs := [5, 7]) (by kernel_rfl) (by simp) ?_
  refine (AllReadyH.cons rfl (fun K hK => ?_) (AllReadyH.cons rfl (fun K hK => ?_) AllReadyH.nil))
  refine step_any rfl (op_loadC rfl one44 rfl (K4 _ (by (repeat (first | with_reducible exact Ext.refl _ | with_reducible assumption | refine Ext.trans ?_ (by with_reducible assumption) | refine Ext.alloc ?_ _ _ | refine Ext.drew ?_ | refine Ext.drewN ?_ _)))) ?_)
  refine hK.out _ _ HH.out (fun hHeld => ?_)
  clear hK K HH
  have HH : Hid ((0 ≤ (_ : World).heap.size)) := hHeld
  clear hHeld
  change wpAnyH _ _ _ _ _ _ _ (Act.put _ (some 169) _) _
  simp only [Act.put, List.setIfInBounds_toArray, List.set_cons_zero, List.set_cons_succ]
  refine wpAnyH_ready (rs := [7]) (by kernel_rfl) (by simp) ?_
  refine AllReadyH.cons rfl (fun K hK => ?_) AllReadyH.nil
  refine step_any rfl (op_build1 141 Hvah.t141 _ 22 rfl under44 info132 zero132 size132 zs132 (by decide) (by decide) (lgV f.self tv rv) (lgV_size hself _ _) rfl ?_)
  rintro B9 W9 e9 r9 g9
  refine hK.out _ _ (Nat.zero_le _) (fun hHeld => ?_)
  clear hK K HH
  have HH : Hid ((0 ≤ (_ : World).heap.size)) := hHeld
  clear hHeld
  change wpAnyH _ _ _ _ _ _ _ (Act.put _ (some 171) _) _
  simp only [Act.put, List.setIfInBounds_toArray, List.set_cons_zero, List.set_cons_succ]
  refine wpAnyH_ready (rs := [8]) (by kernel_rfl) (by simp) ?_
  refine AllReadyH.cons rfl (fun K hK => ?_) AllReadyH.nil
  refine step_append1g rfl _ _ 49 rfl 141 Hvah.t141 _ 22 under44 info132 zero132 size132 zs132 bytes132 (c 4) W.logs.length bL cL (HAA _ (by (repeat (first | with_reducible exact Ext.refl _ | with_reducible assumption | refine Ext.trans ?_ (by with_reducible assumption) | refine Ext.alloc ?_ _ _ | refine Ext.drew ?_ | refine Ext.drewN ?_ _)))) (by omega) ⟨B9, 0, none⟩ 1 (lgV f.self tv rv).toList (lgV_size hself _ _) r9 (fun u hu => lgV_ones hself htv1 hdL.one u hu) rfl rfl ?_
  rintro v' W10 b' c' hG hR
  obtain ⟨capj', rfl⟩ := hG.some
  have hEX9 : Ext W8 W9 := by (repeat (first | with_reducible exact Ext.refl _ | with_reducible assumption | refine Ext.trans ?_ (by with_reducible assumption) | refine Ext.alloc ?_ _ _ | refine Ext.drew ?_ | refine Ext.drewN ?_ _))
  have hY10 : Blk W10 Y 179 118 c := yAppY (hX8.ext hEX9) hTTH.out hR
  refine hK.out _ _ (Nat.zero_le _) (fun hHeld => ?_)
  clear hK K HH
  have HH : Hid ((0 ≤ (_ : World).heap.size)) := hHeld
  clear hHeld
  change wpAnyH _ _ _ _ _ _ _ (Act.put _ (some 172) _) _
  simp only [Act.put, List.setIfInBounds_toArray, List.set_cons_zero, List.set_cons_succ]
  refine wpAnyH_take (i := 9) (v := ?_) rfl (by kernel_rfl) (by kernel_rfl) (by kernel_rfl) (fun _ _ _ h => h) (Or.inl ⟨by rfl, ?_⟩) HH.out ?_
  rotate_left
  · intro w hSw; go_simp; try with_reducible rfl
  change wpAnyH _ _ _ _ _ _ _ (Act.put _ (some 173) _) _
  simp only [Act.put, List.setIfInBounds_toArray, List.set_cons_zero, List.set_cons_succ]
  refine wpAnyH_take (i := 10) (v := ?_) rfl (by kernel_rfl) (by kernel_rfl) (by kernel_rfl) (fun _ _ _ h => h) (Or.inl ⟨by rfl, ?_⟩) HH.out ?_
  rotate_left
  · intro w hSw; go_simp; try with_reducible rfl
  change wpAnyH _ _ _ _ _ _ _ (Act.put _ (some 174) _) _
  simp only [Act.put, List.setIfInBounds_toArray, List.set_cons_zero, List.set_cons_succ]
  refine wpAnyH_take (i := 11) (v := ?_) rfl (by kernel_rfl) (by kernel_rfl) (by kernel_rfl) (fun _ _ _ h => h) (Or.inl ⟨by rfl, ?_⟩) HH.out ?_
  rotate_left
  · intro w hSw; go_simp; try with_reducible rfl
  change wpAnyH _ _ _ _ _ _ _ (Act.put _ (some 175) _) _
  simp only [Act.put, List.setIfInBounds_toArray, List.set_cons_zero, List.set_cons_succ]
  refine wpAnyH_ready (rs := [12]) (by kernel_rfl) (by simp) ?_
  refine AllReadyH.cons rfl (fun K hK => ?_) AllReadyH.nil
  refine step_any rfl (op_store1 rfl one44 rfl rfl rfl hY10 (by decide) ?_)
  rintro W11 b11 m11
  refine hK.out _ _ (Nat.zero_le _) (fun hHeld => ?_)
  clear hK K HH
  have HH : Hid ((0 ≤ (_ : World).heap.size)) := hHeld
  clear hHeld
  change wpAnyH _ _ _ _ _ _ _ (Act.put _ none _) _
  simp only [Act.put, List.setIfInBounds_toArray, List.set_cons_zero, List.set_cons_succ]
  refine wpAnyH_done (by kernel_rfl) ?_ _
  · go_wp2
    go_ret
    obtain ⟨hXn, mn, hw9⟩ := (hX8.ext hEX9).putLog (l := ⟨f.self, TL9, DL9⟩) hself (hWL.ext hEX9) htl (hdL.ext hEX9) (fun i h => (hrowH.out i h).ext hEX9) hTTH.out hG hR m11 b11 hl
    rw [← hTL9.out, ← hDL9.out] at hXn
    have s9 := (hE8.trans hEX9).size
    refine ⟨_, _, _, rfl, hXn, fun b => Or.inl, fun b hb q => q.elim id (fun e => ?_), fun b hb => ?_, ((hE8.trans hEX9).mod _).trans mn⟩
    · rcases hw9 with t | t
      · rw [e]; exact (hX.tl _ t).1
      · rw [e, t] at hb; omega
    · have hb2 : b = b' := hb
      rw [hb2]
      rcases hw9 with t | t
      · exact Or.inl t
      · exact Or.inr (by rw [t]; exact s9)
  refine step_any rfl (op_build1 141 Hvah.t141 _ 22 rfl under44 info132 zero132 size132 zs132 (by decide) (by decide) (lgV f.self tv rv) (lgV_size hself _ _) rfl ?_)
  rintro B9 W9 e9 r9 g9
  refine hK.out _ _ (Nat.zero_le _) (fun hHeld => ?_)
  clear hK K HH
  have HH : Hid ((0 ≤ (_ : World).heap.size)) := hHeld
  clear hHeld
  change wpAnyH _ _ _ _ _ _ _ (Act.put _ (some 171) _) _
  simp only [Act.put, List.setIfInBounds_toArray, List.set_cons_zero, List.set_cons_succ]
  refine wpAnyH_ready (rs := [5]) (by kernel_rfl) (by simp) ?_
  refine AllReadyH.cons rfl (fun K hK => ?_) AllReadyH.nil
  refine step_any rfl (op_loadC rfl one44 rfl (K4 _ (by (repeat (first | with_reducible exact Ext.refl _ | with_reducible assumption | refine Ext.trans ?_ (by with_reducible assumption) | refine Ext.alloc ?_ _ _ | refine Ext.drew ?_ | refine Ext.drewN ?_ _)))) ?_)
  refine hK.out _ _ HH.out (fun hHeld => ?_)
  clear hK K HH
  have HH : Hid ((0 ≤ (_ : World).heap.size)) := hHeld
  clear hHeld
  change wpAnyH _ _ _ _ _ _ _ (Act.put _ (some 169) _) _
  simp only [Act.put, List.setIfInBounds_toArray, List.set_cons_zero, List.set_cons_succ]
  refine wpAnyH_ready (rs := [8]) (by kernel_rfl) (by simp) ?_
  refine AllReadyH.cons rfl (fun K hK => ?_) AllReadyH.nil
  refine step_append1g rfl _ _ 49 rfl 141 Hvah.t141 _ 22 under44 info132 zero132 size132 zs132 bytes132 (c 4) W.logs.length bL cL (HAA _ (by (repeat (first | with_reducible exact Ext.refl _ | with_reducible assumption | refine Ext.trans ?_ (by with_reducible assumption) | refine Ext.alloc ?_ _ _ | refine Ext.drew ?_ | refine Ext.drewN ?_ _)))) (by omega) ⟨B9, 0, none⟩ 1 (lgV f.self tv rv).toList (lgV_size hself _ _) r9 (fun u hu => lgV_ones hself htv1 hdL.one u hu) rfl rfl ?_
  rintro v' W10 b' c' hG hR
  obtain ⟨capj', rfl⟩ := hG.some
  have hEX9 : Ext W8 W9 := by (repeat (first | with_reducible exact Ext.refl _ | with_reducible assumption | refine Ext.trans ?_ (by with_reducible assumption) | refine Ext.alloc ?_ _ _ | refine Ext.drew ?_ | refine Ext.drewN ?_ _))
  have hY10 : Blk W10 Y 179 118 c := yAppY (hX8.ext hEX9) hTTH.out hR
  refine hK.out _ _ (Nat.zero_le _) (fun hHeld => ?_)
  clear hK K HH
  have HH : Hid ((0 ≤ (_ : World).heap.size)) := hHeld
  clear hHeld
  change wpAnyH _ _ _ _ _ _ _ (Act.put _ (some 172) _) _
  simp only [Act.put, List.setIfInBounds_toArray, List.set_cons_zero, List.set_cons_succ]
  refine wpAnyH_take (i := 9) (v := ?_) rfl (by kernel_rfl) (by kernel_rfl) (by kernel_rfl) (fun _ _ _ h => h) (Or.inl ⟨by rfl, ?_⟩) HH.out ?_
  rotate_left
  · intro w hSw; go_simp; try with_reducible rfl
  change wpAnyH _ _ _ _ _ _ _ (Act.put _ (some 173) _) _
  simp only [Act.put, List.setIfInBounds_toArray, List.set_cons_zero, List.set_cons_succ]
  refine wpAnyH_take (i := 10) (v := ?_) rfl (by kernel_rfl) (by kernel_rfl) (by kernel_rfl) (fun _ _ _ h => h) (Or.inl ⟨by rfl, ?_⟩) HH.out ?_
  rotate_left
  · intro w hSw; go_simp; try with_reducible rfl
  change wpAnyH _ _ _ _ _ _ _ (Act.put _ (some 174) _) _
  simp only [Act.put, List.setIfInBounds_toArray, List.set_cons_zero, List.set_cons_succ]
  refine wpAnyH_take (i := 11) (v := ?_) rfl (by kernel_rfl) (by kernel_rfl) (by kernel_rfl) (fun _ _ _ h => h) (Or.inl ⟨by rfl, ?_⟩) HH.out ?_
  rotate_left
  · intro w hSw; go_simp; try with_reducible rfl
  change wpAnyH _ _ _ _ _ _ _ (Act.put _ (some 175) _) _
  simp only [Act.put, List.setIfInBounds_toArray, List.set_cons_zero, List.set_cons_succ]
  refine wpAnyH_ready (rs := [12]) (by kernel_rfl) (by simp) ?_
  refine AllReadyH.cons rfl (fun K hK => ?_) AllReadyH.nil
  refine step_any rfl (op_store1 rfl one44 rfl rfl rfl hY10 (by decide) ?_)
  rintro W11 b11 m11
  refine hK.out _ _ (Nat.zero_le _) (fun hHeld => ?_)
  clear hK K HH
  have HH : Hid ((0 ≤ (_ : World).heap.size)) := hHeld
  clear hHeld
  change wpAnyH _ _ _ _ _ _ _ (Act.put _ none _) _
  simp only [Act.put, List.setIfInBounds_toArray, List.set_cons_zero, List.set_cons_succ]
  refine wpAnyH_done (by kernel_rfl) ?_ _
  · go_wp2
    go_ret
    obtain ⟨hXn, mn, hw9⟩ := (hX8.ext hEX9).putLog (l := ⟨f.self, TL9, DL9⟩) hself (hWL.ext hEX9) htl (hdL.ext hEX9) (fun i h => (hrowH.out i h).ext hEX9) hTTH.out hG hR m11 b11 hl
    rw [← hTL9.out, ← hDL9.out] at hXn
    have s9 := (hE8.trans hEX9).size
    refine ⟨_, _, _, rfl, hXn, fun b => Or.inl, fun b hb q => q.elim id (fun e => ?_), fun b hb => ?_, ((hE8.trans hEX9).mod _).trans mn⟩
    · rcases hw9 with t | t
      · rw [e]; exact (hX.tl _ t).1
      · rw [e, t] at hb; omega
    · have hb2 : b = b' := hb
      rw [hb2]
      rcases hw9 with t | t
      · exact Or.inl t
      · exact Or.inr (by rw [t]; exact s9)
end
end Go.Proofs.YgvahwGreat
