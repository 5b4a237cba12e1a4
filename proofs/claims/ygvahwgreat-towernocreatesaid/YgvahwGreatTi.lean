import Derived.Test.YgvahwGreatTd
namespace Go.Proofs.YgvahwGreat
open Go.RowKit
set_option linter.unusedSimpArgs false
section
variable {kk : Nat → Value} {O TM TL : Nat → Prop} {w : World} {Y F q n : Nat} {tF : TypeId} {c d : Nat → Value} {W : YW} {start : List (Nat × Nat × Nat)} {st : ASt} {f : AFrame}
set_option maxRecDepth 100000 in
set_option maxHeartbeats 6400000 in
theorem yDeposit {B : Nat} {t : TypeId} (hO : Small O w) (hB : Blk w B n t d) (hq : q + 60 ≤ n) (gas : Nat) (hg : NV O w (d (q + 4)) gas) {O' : Nat → Prop} {vo : Value} (l : List Nat) (ho : NL O' w vo l) (hl : l.length ≤ 717280) :
    Calls Hvah.prog 150 #[.pointer (some ⟨B, q, none⟩), vo] w fun e w' => ∃ r, e = .returned (.tuple #[r, .int .u8 ((depositA gas l).2 : Nat)]) ∧ NV O w' r (depositA gas l).1 ∧ Ext w w' := by
  obtain ⟨oo, co, rfl, h1, h2, h3⟩ := ho
  have hli : (l.length : Int) ≤ 717280 := by omega
  have hlw : IntKind.u64.wrap (l.length : Int) = l.length := by rw [IntKind.wrap_u64]; omega
  have hd2 : dl l.length ≤ 400 := Nat.le_trans (dl_u64 _ (by omega)) (by decide)
  have hd3 : dl 200 ≤ 400 := by decide
  have HD : Hid (depositA gas l = if 256 < l.length then (0, 10) else if l.getD 0 0 = 239 then (0, 11) else if gas < 200 * l.length then (0, 2) else (gas - 200 * l.length, 0)) := rfl
  have h0 : l ≠ [] → ∃ b off, oo = some ⟨b, off, none⟩ ∧ l.getD 0 0 < 256 ∧ ∀ W, Ext w W → W.cell? ⟨b, off, none⟩ = some (.int .u8 ((l.getD 0 0 : Nat) : Int)) := fun hne => by
    obtain ⟨b, off, e, _, hb, hc⟩ := h3.spot hne
    have hlp : 0 < l.length := List.length_pos_iff.2 hne
    have hg0 : l.getD 0 0 = l[0] := by simp [List.getD, hlp]
    refine ⟨b, off, e, by rw [hg0]; exact h3.lt _ (List.getElem_mem hlp), fun W hW => ?_⟩
    rw [hW.rc _ _ hb]
    have := hc 0 hlp
    rw [Nat.add_zero] at this
    rw [this, hg0]
  have LDX : ∀ W, Ext w W → Blk W B n t d := fun W hW => hB.ext hW
  by_cases hne : l = []
  · subst hne
    go_enter Hvah.func150, Hvah.ntmps150
    go_wp2_with (first
      | (go_at_call 42; refine (nNum O _ _ (hO.ext (by (repeat (first | with_reducible exact Ext.refl _ | with_reducible assumption | refine Ext.trans ?_ (by with_reducible assumption) | refine Ext.alloc ?_ _ _ | refine Ext.drew ?_ | refine Ext.drewN ?_ _)))) (by first | decide | omega)).mono ?_; rintro e w1 ⟨r, rfl, hr, he⟩)
      | (go_at_call 60; refine (nMul O _ _ _ _ _ (hO.ext (by (repeat (first | with_reducible exact Ext.refl _ | with_reducible assumption | refine Ext.trans ?_ (by with_reducible assumption) | refine Ext.alloc ?_ _ _ | refine Ext.drew ?_ | refine Ext.drewN ?_ _)))) (by first | exact (NV.ext (by with_reducible assumption) (by (repeat (first | with_reducible exact Ext.refl _ | with_reducible assumption | refine Ext.trans ?_ (by with_reducible assumption) | refine Ext.alloc ?_ _ _ | refine Ext.drew ?_ | refine Ext.drewN ?_ _)))) | exact NV.nil) (by first | exact (NV.ext (by with_reducible assumption) (by (repeat (first | with_reducible exact Ext.refl _ | with_reducible assumption | refine Ext.trans ?_ (by with_reducible assumption) | refine Ext.alloc ?_ _ _ | refine Ext.drew ?_ | refine Ext.drewN ?_ _)))) | exact NV.nil) (by repeat (first | with_reducible assumption | exact Nat.le_trans (by with_reducible assumption) (by decide) | exact Nat.le_trans (hok.adl _) (by decide) | exact Nat.le_trans (dl_u64 _ (by first | decide | omega)) (by decide) | refine dl_end' ?_ ?_ | refine dl_max' ?_ ?_ | refine dl_add' ?_ ?_ | refine dl_words' ?_ | refine dl_mul' ?_ ?_ | decide)) (by repeat (first | with_reducible assumption | exact Nat.le_trans (by with_reducible assumption) (by decide) | exact Nat.le_trans (hok.adl _) (by decide) | exact Nat.le_trans (dl_u64 _ (by first | decide | omega)) (by decide) | refine dl_end' ?_ ?_ | refine dl_max' ?_ ?_ | refine dl_add' ?_ ?_ | refine dl_words' ?_ | refine dl_mul' ?_ ?_ | decide))).mono ?_; rintro e w1 ⟨r, rfl, hr, he⟩)
      | ((with_reducible (refine Veil.out ?_; apply wl_load1 one96)); (case hx => rfl); (case hB => exact LDX _ (by (repeat (first | with_reducible exact Ext.refl _ | with_reducible assumption | refine Ext.trans ?_ (by with_reducible assumption) | refine Ext.alloc ?_ _ _ | refine Ext.drew ?_ | refine Ext.drewN ?_ _)))); (case ho => omega))
      | (go_at_call 130; refine (nCmp O _ _ _ _ _ (by first | exact (NV.ext (by with_reducible assumption) (by (repeat (first | with_reducible exact Ext.refl _ | with_reducible assumption | refine Ext.trans ?_ (by with_reducible assumption) | refine Ext.alloc ?_ _ _ | refine Ext.drew ?_ | refine Ext.drewN ?_ _)))) | exact NV.nil) (by first | exact (NV.ext (by with_reducible assumption) (by (repeat (first | with_reducible exact Ext.refl _ | with_reducible assumption | refine Ext.trans ?_ (by with_reducible assumption) | refine Ext.alloc ?_ _ _ | refine Ext.drew ?_ | refine Ext.drewN ?_ _)))) | exact NV.nil)).mono ?_; rintro e w1 ⟨rfl, hdr⟩; have he := drew_ext hdr; clear hdr)
      | (go_at_call 55; refine (nLess O _ _ _ _ _ (hO.ext (by (repeat (first | with_reducible exact Ext.refl _ | with_reducible assumption | refine Ext.trans ?_ (by with_reducible assumption) | refine Ext.alloc ?_ _ _ | refine Ext.drew ?_ | refine Ext.drewN ?_ _)))) (NV.ext (by with_reducible assumption) (by (repeat (first | with_reducible exact Ext.refl _ | with_reducible assumption | refine Ext.trans ?_ (by with_reducible assumption) | refine Ext.alloc ?_ _ _ | refine Ext.drew ?_ | refine Ext.drewN ?_ _)))) (NV.ext (by with_reducible assumption) (by (repeat (first | with_reducible exact Ext.refl _ | with_reducible assumption | refine Ext.trans ?_ (by with_reducible assumption) | refine Ext.alloc ?_ _ _ | refine Ext.drew ?_ | refine Ext.drewN ?_ _))))).mono ?_; rintro e w1 ⟨r, rfl, hr, he⟩))
    all_goals go_ret2
    all_goals rw [HD.out]
    all_goals simp only [List.length_nil, List.getD_nil, Nat.mul_zero, Nat.not_lt_zero, if_false, Nat.sub_zero] at *
    all_goals (try simp only [cmpI_z, cmpI_n, cmpI_p, cmpI_nn, cmpI_pp, beq_iff_eq, beq_eq_false_iff_ne, ne_eq, decide_eq_true_eq, decide_eq_false_iff_not, Bool.not_eq_true', Bool.not_eq_false', Bool.not_eq_eq_eq_not, Bool.not_true, Bool.not_false, bne_iff_ne] at *)
    all_goals first
      | (exfalso; omega)
      | exact ⟨_, rfl, NV.nil, by (repeat (first | with_reducible exact Ext.refl _ | with_reducible assumption | refine Ext.trans ?_ (by with_reducible assumption) | refine Ext.alloc ?_ _ _ | refine Ext.drew ?_ | refine Ext.drewN ?_ _))⟩
      | exact ⟨_, rfl, NV.ext (by assumption) (by (repeat (first | with_reducible exact Ext.refl _ | with_reducible assumption | refine Ext.trans ?_ (by with_reducible assumption) | refine Ext.alloc ?_ _ _ | refine Ext.drew ?_ | refine Ext.drewN ?_ _))), by (repeat (first | with_reducible exact Ext.refl _ | with_reducible assumption | refine Ext.trans ?_ (by with_reducible assumption) | refine Ext.alloc ?_ _ _ | refine Ext.drew ?_ | refine Ext.drewN ?_ _))⟩
      | (rw [if_pos (by omega)]; exact ⟨_, rfl, NV.nil, by (repeat (first | with_reducible exact Ext.refl _ | with_reducible assumption | refine Ext.trans ?_ (by with_reducible assumption) | refine Ext.alloc ?_ _ _ | refine Ext.drew ?_ | refine Ext.drewN ?_ _))⟩)
      | (rw [if_neg (by omega), if_pos (by omega)]; exact ⟨_, rfl, NV.nil, by (repeat (first | with_reducible exact Ext.refl _ | with_reducible assumption | refine Ext.trans ?_ (by with_reducible assumption) | refine Ext.alloc ?_ _ _ | refine Ext.drew ?_ | refine Ext.drewN ?_ _))⟩)
      | (rw [if_neg (by omega), if_neg (by omega), if_pos (by omega)]; exact ⟨_, rfl, NV.nil, by (repeat (first | with_reducible exact Ext.refl _ | with_reducible assumption | refine Ext.trans ?_ (by with_reducible assumption) | refine Ext.alloc ?_ _ _ | refine Ext.drew ?_ | refine Ext.drewN ?_ _))⟩)
      | (rw [if_neg (by omega), if_neg (by omega), if_neg (by omega)]; exact ⟨_, rfl, NV.ext (by assumption) (by (repeat (first | with_reducible exact Ext.refl _ | with_reducible assumption | refine Ext.trans ?_ (by with_reducible assumption) | refine Ext.alloc ?_ _ _ | refine Ext.drew ?_ | refine Ext.drewN ?_ _))), by (repeat (first | with_reducible exact Ext.refl _ | with_reducible assumption | refine Ext.trans ?_ (by with_reducible assumption) | refine Ext.alloc ?_ _ _ | refine Ext.drew ?_ | refine Ext.drewN ?_ _))⟩)
  · obtain ⟨b, off, rfl, h256, k0⟩ := h0 hne
    have hlp : 0 < l.length := List.length_pos_iff.2 hne
    have hlpi : (0 : Int) < l.length := by omega
    clear h0
    generalize l.getD 0 0 = z at *
    go_enter Hvah.func150, Hvah.ntmps150
    go_wp2_with (first
      | (go_at_call_of 42 (Value.int IntKind.u64 200); refine (nNum O 200 _ (hO.ext (by (repeat (first | with_reducible exact Ext.refl _ | with_reducible assumption | refine Ext.trans ?_ (by with_reducible assumption) | refine Ext.alloc ?_ _ _ | refine Ext.drew ?_ | refine Ext.drewN ?_ _)))) (by decide)).mono ?_; rintro e w1 ⟨r, rfl, hr, he⟩)
      | (go_at_call 42; refine (nNum O l.length _ (hO.ext (by (repeat (first | with_reducible exact Ext.refl _ | with_reducible assumption | refine Ext.trans ?_ (by with_reducible assumption) | refine Ext.alloc ?_ _ _ | refine Ext.drew ?_ | refine Ext.drewN ?_ _)))) (by omega)).mono ?_; rintro e w1 ⟨r, rfl, hr, he⟩; try (have kk := k0 _ (show Ext w w1 by (repeat (first | with_reducible exact Ext.refl _ | with_reducible assumption | refine Ext.trans ?_ (by with_reducible assumption) | refine Ext.alloc ?_ _ _ | refine Ext.drew ?_ | refine Ext.drewN ?_ _)))))
      | (go_at_call 60; refine (nMul O _ _ _ _ _ (hO.ext (by (repeat (first | with_reducible exact Ext.refl _ | with_reducible assumption | refine Ext.trans ?_ (by with_reducible assumption) | refine Ext.alloc ?_ _ _ | refine Ext.drew ?_ | refine Ext.drewN ?_ _)))) (NV.ext (by with_reducible assumption) (by (repeat (first | with_reducible exact Ext.refl _ | with_reducible assumption | refine Ext.trans ?_ (by with_reducible assumption) | refine Ext.alloc ?_ _ _ | refine Ext.drew ?_ | refine Ext.drewN ?_ _)))) (NV.ext (by with_reducible assumption) (by (repeat (first | with_reducible exact Ext.refl _ | with_reducible assumption | refine Ext.trans ?_ (by with_reducible assumption) | refine Ext.alloc ?_ _ _ | refine Ext.drew ?_ | refine Ext.drewN ?_ _)))) (by first | (with_reducible assumption) | exact Nat.le_trans (by with_reducible assumption) (by decide)) (by exact Nat.le_trans (by with_reducible assumption) (by decide))).mono ?_; rintro e w1 ⟨r, rfl, hr, he⟩; try (have kk := k0 _ (show Ext w w1 by (repeat (first | with_reducible exact Ext.refl _ | with_reducible assumption | refine Ext.trans ?_ (by with_reducible assumption) | refine Ext.alloc ?_ _ _ | refine Ext.drew ?_ | refine Ext.drewN ?_ _)))))
      | ((with_reducible (refine Veil.out ?_; apply wl_load1 one96)); (case hx => rfl); (case hB => exact LDX _ (by (repeat (first | with_reducible exact Ext.refl _ | with_reducible assumption | refine Ext.trans ?_ (by with_reducible assumption) | refine Ext.alloc ?_ _ _ | refine Ext.drew ?_ | refine Ext.drewN ?_ _)))); (case ho => omega))
      | (go_at_call 130; refine (nCmp O _ _ _ _ _ (by first | exact (NV.ext (by with_reducible assumption) (by (repeat (first | with_reducible exact Ext.refl _ | with_reducible assumption | refine Ext.trans ?_ (by with_reducible assumption) | refine Ext.alloc ?_ _ _ | refine Ext.drew ?_ | refine Ext.drewN ?_ _)))) | exact NV.nil) (by first | exact (NV.ext (by with_reducible assumption) (by (repeat (first | with_reducible exact Ext.refl _ | with_reducible assumption | refine Ext.trans ?_ (by with_reducible assumption) | refine Ext.alloc ?_ _ _ | refine Ext.drew ?_ | refine Ext.drewN ?_ _)))) | exact NV.nil)).mono ?_; rintro e w1 ⟨rfl, hdr⟩; have he := drew_ext hdr; clear hdr)
      | (go_at_call 55; refine (nLess O _ _ _ _ _ (hO.ext (by (repeat (first | with_reducible exact Ext.refl _ | with_reducible assumption | refine Ext.trans ?_ (by with_reducible assumption) | refine Ext.alloc ?_ _ _ | refine Ext.drew ?_ | refine Ext.drewN ?_ _)))) (NV.ext (by with_reducible assumption) (by (repeat (first | with_reducible exact Ext.refl _ | with_reducible assumption | refine Ext.trans ?_ (by with_reducible assumption) | refine Ext.alloc ?_ _ _ | refine Ext.drew ?_ | refine Ext.drewN ?_ _)))) (NV.ext (by with_reducible assumption) (by (repeat (first | with_reducible exact Ext.refl _ | with_reducible assumption | refine Ext.trans ?_ (by with_reducible assumption) | refine Ext.alloc ?_ _ _ | refine Ext.drew ?_ | refine Ext.drewN ?_ _))))).mono ?_; rintro e w1 ⟨r, rfl, hr, he⟩))
    all_goals go_ret2
    all_goals rw [HD.out]
    all_goals (try simp only [cmpI_z, cmpI_n, cmpI_p, cmpI_nn, cmpI_pp, beq_iff_eq, beq_eq_false_iff_ne, ne_eq, decide_eq_true_eq, decide_eq_false_iff_not, Bool.not_eq_true', Bool.not_eq_false', Bool.not_eq_eq_eq_not, Bool.not_true, Bool.not_false, bne_iff_ne] at *)
    all_goals first
      | (exfalso; omega)
      | exact ⟨_, rfl, NV.nil, by (repeat (first | with_reducible exact Ext.refl _ | with_reducible assumption | refine Ext.trans ?_ (by with_reducible assumption) | refine Ext.alloc ?_ _ _ | refine Ext.drew ?_ | refine Ext.drewN ?_ _))⟩
      | exact ⟨_, rfl, NV.ext (by assumption) (by (repeat (first | with_reducible exact Ext.refl _ | with_reducible assumption | refine Ext.trans ?_ (by with_reducible assumption) | refine Ext.alloc ?_ _ _ | refine Ext.drew ?_ | refine Ext.drewN ?_ _))), by (repeat (first | with_reducible exact Ext.refl _ | with_reducible assumption | refine Ext.trans ?_ (by with_reducible assumption) | refine Ext.alloc ?_ _ _ | refine Ext.drew ?_ | refine Ext.drewN ?_ _))⟩
      | (rw [if_pos (by omega)]; exact ⟨_, rfl, NV.nil, by (repeat (first | with_reducible exact Ext.refl _ | with_reducible assumption | refine Ext.trans ?_ (by with_reducible assumption) | refine Ext.alloc ?_ _ _ | refine Ext.drew ?_ | refine Ext.drewN ?_ _))⟩)
      | (rw [if_neg (by omega), if_pos (by omega)]; exact ⟨_, rfl, NV.nil, by (repeat (first | with_reducible exact Ext.refl _ | with_reducible assumption | refine Ext.trans ?_ (by with_reducible assumption) | refine Ext.alloc ?_ _ _ | refine Ext.drew ?_ | refine Ext.drewN ?_ _))⟩)
      | (rw [if_neg (by omega), if_neg (by omega), if_pos (by omega)]; exact ⟨_, rfl, NV.nil, by (repeat (first | with_reducible exact Ext.refl _ | with_reducible assumption | refine Ext.trans ?_ (by with_reducible assumption) | refine Ext.alloc ?_ _ _ | refine Ext.drew ?_ | refine Ext.drewN ?_ _))⟩)
      | (rw [if_neg (by omega), if_neg (by omega), if_neg (by omega)]; exact ⟨_, rfl, NV.ext (by assumption) (by (repeat (first | with_reducible exact Ext.refl _ | with_reducible assumption | refine Ext.trans ?_ (by with_reducible assumption) | refine Ext.alloc ?_ _ _ | refine Ext.drew ?_ | refine Ext.drewN ?_ _))), by (repeat (first | with_reducible exact Ext.refl _ | with_reducible assumption | refine Ext.trans ?_ (by with_reducible assumption) | refine Ext.alloc ?_ _ _ | refine Ext.drew ?_ | refine Ext.drewN ?_ _))⟩)
set_option maxRecDepth 100000 in
set_option maxHeartbeats 6400000 in
theorem yTaken (hX : YX kk O TM TL w Y F q n tF c d W start st f) (a : Nat) (hal : a < 2 ^ 160) : Calls Hvah.prog 64 #[.pointer (some ⟨Y, 0, none⟩), .agg (av a)] w fun e w' => e = .returned (.bool (!decide (st.now.nonce a = 0 ∧ st.now.code a = []))) ∧ Ext w w' := by
  have hO := hX.small
  have hE0 : Ext w (w.alloc (.cells (av a) 31)) := (Ext.refl w).alloc _ _
  have hR := row_new w (av a) 31
  have hBl : w.heap.size < (w.alloc (.cells (av a) 31)).heap.size := by simp
  have hv : Hid (st.now = W.abs) := hX.now
  go_enter Hvah.func64, Hvah.ntmps64
  go_wp2_with ((with_reducible (refine Veil.out ?_; apply wl_box)); (case hx => rfl))
  refine w_ext ?_
  rintro W0 hW0
  have hX0 := hX.ext (show Ext w W0 by (repeat (first | with_reducible exact Ext.refl _ | with_reducible assumption | refine Ext.trans ?_ (by with_reducible assumption) | refine Ext.alloc ?_ _ _ | refine Ext.drew ?_ | refine Ext.drewN ?_ _ | refine Ext.trans_mod ?_ (by with_reducible assumption) (fun i hi => by have hi2 : i = _ := hi; rw [hi2]; refine Nat.le_trans ?_ (by with_reducible assumption); refine Ext.size ?_; (repeat (first | with_reducible exact Ext.refl _ | with_reducible assumption | refine Ext.trans ?_ (by with_reducible assumption) | refine Ext.alloc ?_ _ _ | refine Ext.drew ?_ | refine Ext.drewN ?_ _ | refine Ext.trans_mod ?_ (by with_reducible assumption) (fun i hi => by have hi2 : i = _ := hi; rw [hi2]; refine Nat.le_trans ?_ (by with_reducible assumption); refine Ext.size ?_; (repeat (first | with_reducible exact Ext.refl _ | with_reducible assumption | refine Ext.trans ?_ (by with_reducible assumption) | refine Ext.alloc ?_ _ _ | refine Ext.drew ?_ | refine Ext.drewN ?_ _)))))))))
  refine' join6 (P := _) (Fc := fun B W1 u1 u2 u3 u4 => Ext W0 W1 ∧ RowIn W1 B 0 (acR a u1 u2 u3 u4) ∧ B < W1.heap.size ∧ AcP O W1 (W.acct a) u1 u2 u3 u4) (fun key => _) _
  rotate_left
  refine wp_region_held_drew (S := fun w' => Ext W0 w') (by kernel_rfl) (Ext.refl _).drew (fun hHeld => ?_)
  have HH : Hid (Ext W0 _) := hHeld
  clear hHeld
  refine wpAnyH_take (i := 0) (v := ?_) rfl (by kernel_rfl) (by kernel_rfl) (by kernel_rfl) (fun _ _ _ h => h) (Or.inl ⟨by rfl, ?_⟩) HH.out ?_
  rotate_left
  · intro w hSw; go_simp; try with_reducible rfl
  change wpAnyH _ _ _ _ _ _ _ (Act.put _ (some 6) _) _
  simp only [Act.put, List.setIfInBounds_toArray, List.set_cons_zero, List.set_cons_succ]
  refine wpAnyH_take (i := 1) (v := ?_) rfl (by kernel_rfl) (by kernel_rfl) (by kernel_rfl) (fun _ _ _ h => h) (Or.inl ⟨by rfl, ?_⟩) HH.out ?_
  rotate_left
  · intro w hSw; go_simp; try with_reducible rfl
  change wpAnyH _ _ _ _ _ _ _ (Act.put _ (some 7) _) _
  simp only [Act.put, List.setIfInBounds_toArray, List.set_cons_zero, List.set_cons_succ]
  refine wpAnyH_take (i := 2) (v := ?_) rfl (by kernel_rfl) (by kernel_rfl) (by kernel_rfl) (fun _ _ _ h => h) (Or.inl ⟨by rfl, ?_⟩) HH.out ?_
  rotate_left
  · intro w hSw; go_simp; try with_reducible rfl
  change wpAnyH _ _ _ _ _ _ _ (Act.put _ (some 8) _) _
  simp only [Act.put, List.setIfInBounds_toArray, List.set_cons_zero, List.set_cons_succ]
  refine wpAnyH_take (i := 3) rfl (by kernel_rfl) (by kernel_rfl) (by kernel_rfl) (fun _ _ _ h => h) (yieldsIf_load_mid (by rfl) _ _ rfl _ _ rfl _ _ (fun w hSw => (fun j u hu => RowIn.ext (b := _) (by with_reducible assumption) (by with_reducible assumption) (Ext.trans (by (repeat (first | with_reducible exact Ext.refl _ | with_reducible assumption | refine Ext.trans ?_ (by with_reducible assumption) | refine Ext.alloc ?_ _ _ | refine Ext.drew ?_ | refine Ext.drewN ?_ _ | refine Ext.trans_mod ?_ (by with_reducible assumption) (fun i hi => by have hi2 : i = _ := hi; rw [hi2]; refine Nat.le_trans ?_ (by with_reducible assumption); refine Ext.size ?_; (repeat (first | with_reducible exact Ext.refl _ | with_reducible assumption | refine Ext.trans ?_ (by with_reducible assumption) | refine Ext.alloc ?_ _ _ | refine Ext.drew ?_ | refine Ext.drewN ?_ _ | refine Ext.trans_mod ?_ (by with_reducible assumption) (fun i hi => by have hi2 : i = _ := hi; rw [hi2]; refine Nat.le_trans ?_ (by with_reducible assumption); refine Ext.size ?_; (repeat (first | with_reducible exact Ext.refl _ | with_reducible assumption | refine Ext.trans ?_ (by with_reducible assumption) | refine Ext.alloc ?_ _ _ | refine Ext.drew ?_ | refine Ext.drewN ?_ _))))))))) hSw) j u (by simpa [av] using hu))) under25 rfl (sz_av (by first | exact hX.ok.self | exact hX.ok.caller | exact Nat.mod_lt _ (by decide) | assumption))) HH.out ?_
  change wpAnyH _ _ _ _ _ _ _ (Act.put _ (some 9) _) _
  simp only [Act.put, List.setIfInBounds_toArray, List.set_cons_zero, List.set_cons_succ]
  refine wpAnyH_ready (rs := [4, 5]) (by kernel_rfl) (by simp) ?_
  refine (AllReadyH.cons rfl (fun K hK => ?_) (AllReadyH.cons rfl (fun K hK => ?_) AllReadyH.nil))
  go_simp
  (go_at_call 53; refine (xAccountG (hX.ext (by (repeat (first | with_reducible exact Ext.refl _ | with_reducible assumption | refine Ext.trans ?_ (by with_reducible assumption) | refine Ext.alloc ?_ _ _ | refine Ext.drew ?_ | refine Ext.drewN ?_ _ | refine Ext.trans_mod ?_ (by with_reducible assumption) (fun i hi => by have hi2 : i = _ := hi; rw [hi2]; refine Nat.le_trans ?_ (by with_reducible assumption); refine Ext.size ?_; (repeat (first | with_reducible exact Ext.refl _ | with_reducible assumption | refine Ext.trans ?_ (by with_reducible assumption) | refine Ext.alloc ?_ _ _ | refine Ext.drew ?_ | refine Ext.drewN ?_ _ | refine Ext.trans_mod ?_ (by with_reducible assumption) (fun i hi => by have hi2 : i = _ := hi; rw [hi2]; refine Nat.le_trans ?_ (by with_reducible assumption); refine Ext.size ?_; (repeat (first | with_reducible exact Ext.refl _ | with_reducible assumption | refine Ext.trans ?_ (by with_reducible assumption) | refine Ext.alloc ?_ _ _ | refine Ext.drew ?_ | refine Ext.drewN ?_ _)))))))))) _ (by first | exact hX.ok.self | exact hX.ok.caller | exact Nat.mod_lt _ (by decide) | assumption)).mono ?_; rintro e w1 ⟨u1, u2, u3, u4, rfl, hp, hg, he⟩; obtain ⟨f1, f2, f3, f4, gs, go⟩ := hg)
  refine hK.out _ _ ?_ (fun hHeld => ?_)
  · first | exact HH.out.trans he | exact HH.out
  clear hK K HH
  have HH : Hid (Ext W0 _) := hHeld
  clear hHeld
  refine wpAnyH_ready (rs := [5]) (by kernel_rfl) (by simp) ?_
  refine AllReadyH.cons rfl (fun K hK => ?_) AllReadyH.nil
  refine step_alloc alT108 rfl rfl ?_
  rintro B W1 he hth hBl hBg
  refine hK.out _ _ ?_ (fun hHeld => ?_)
  · exact HH.out.trans he
  clear hK K HH
  have HH : Hid (Ext W0 _) := hHeld
  clear hHeld
  change wpAnyH _ _ _ _ _ _ _ (Act.put _ (some 5) _) _
  simp only [Act.put, List.setIfInBounds_toArray, List.set_cons_zero, List.set_cons_succ]
  refine wpAnyH_ready (rs := [6]) (by kernel_rfl) (by simp) ?_
  refine AllReadyH.cons rfl (fun K hK => ?_) AllReadyH.nil
  refine step_storeB rt108 rfl rfl gs rfl rfl (there_ext hth hBl (by (repeat (first | with_reducible exact Ext.refl _ | with_reducible assumption | refine Ext.trans ?_ (by with_reducible assumption) | refine Ext.alloc ?_ _ _ | refine Ext.drew ?_ | refine Ext.drewN ?_ _ | refine Ext.trans_mod ?_ (by with_reducible assumption) (fun i hi => by have hi2 : i = _ := hi; rw [hi2]; refine Nat.le_trans ?_ (by with_reducible assumption); refine Ext.size ?_; (repeat (first | with_reducible exact Ext.refl _ | with_reducible assumption | refine Ext.trans ?_ (by with_reducible assumption) | refine Ext.alloc ?_ _ _ | refine Ext.drew ?_ | refine Ext.drewN ?_ _ | refine Ext.trans_mod ?_ (by with_reducible assumption) (fun i hi => by have hi2 : i = _ := hi; rw [hi2]; refine Nat.le_trans ?_ (by with_reducible assumption); refine Ext.size ?_; (repeat (first | with_reducible exact Ext.refl _ | with_reducible assumption | refine Ext.trans ?_ (by with_reducible assumption) | refine Ext.alloc ?_ _ _ | refine Ext.drew ?_ | refine Ext.drewN ?_ _)))))))))) (Nat.lt_of_lt_of_le hBl (Ext.size (by (repeat (first | with_reducible exact Ext.refl _ | with_reducible assumption | refine Ext.trans ?_ (by with_reducible assumption) | refine Ext.alloc ?_ _ _ | refine Ext.drew ?_ | refine Ext.drewN ?_ _ | refine Ext.trans_mod ?_ (by with_reducible assumption) (fun i hi => by have hi2 : i = _ := hi; rw [hi2]; refine Nat.le_trans ?_ (by with_reducible assumption); refine Ext.size ?_; (repeat (first | with_reducible exact Ext.refl _ | with_reducible assumption | refine Ext.trans ?_ (by with_reducible assumption) | refine Ext.alloc ?_ _ _ | refine Ext.drew ?_ | refine Ext.drewN ?_ _ | refine Ext.trans_mod ?_ (by with_reducible assumption) (fun i hi => by have hi2 : i = _ := hi; rw [hi2]; refine Nat.le_trans ?_ (by with_reducible assumption); refine Ext.size ?_; (repeat (first | with_reducible exact Ext.refl _ | with_reducible assumption | refine Ext.trans ?_ (by with_reducible assumption) | refine Ext.alloc ?_ _ _ | refine Ext.drew ?_ | refine Ext.drewN ?_ _))))))))))) go ?_
  rintro W2 hm hR hBl
  refine hK.out _ _ ?_ (fun hHeld => ?_)
  · exact Ext.trans_mod HH.out hm (fun i hi => by have hi2 : i = _ := hi; rw [hi2]; refine Nat.le_trans (Ext.size ?_) hBg; (repeat (first | with_reducible exact Ext.refl _ | with_reducible assumption | refine Ext.trans ?_ (by with_reducible assumption) | refine Ext.alloc ?_ _ _ | refine Ext.drew ?_ | refine Ext.drewN ?_ _ | refine Ext.trans_mod ?_ (by with_reducible assumption) (fun i hi => by have hi2 : i = _ := hi; rw [hi2]; refine Nat.le_trans ?_ (by with_reducible assumption); refine Ext.size ?_; (repeat (first | with_reducible exact Ext.refl _ | with_reducible assumption | refine Ext.trans ?_ (by with_reducible assumption) | refine Ext.alloc ?_ _ _ | refine Ext.drew ?_ | refine Ext.drewN ?_ _ | refine Ext.trans_mod ?_ (by with_reducible assumption) (fun i hi => by have hi2 : i = _ := hi; rw [hi2]; refine Nat.le_trans ?_ (by with_reducible assumption); refine Ext.size ?_; (repeat (first | with_reducible exact Ext.refl _ | with_reducible assumption | refine Ext.trans ?_ (by with_reducible assumption) | refine Ext.alloc ?_ _ _ | refine Ext.drew ?_ | refine Ext.drewN ?_ _)))))))))
  clear hK K HH
  have HH : Hid (Ext W0 _) := hHeld
  clear hHeld
  first | replace hp := hp.box hm | replace hp := hp.box2 hBg (by (repeat (first | with_reducible exact Ext.refl _ | with_reducible assumption | refine Ext.trans ?_ (by with_reducible assumption) | refine Ext.alloc ?_ _ _ | refine Ext.drew ?_ | refine Ext.drewN ?_ _ | refine Ext.trans_mod ?_ (by with_reducible assumption) (fun i hi => by have hi2 : i = _ := hi; rw [hi2]; refine Nat.le_trans ?_ (by with_reducible assumption); refine Ext.size ?_; (repeat (first | with_reducible exact Ext.refl _ | with_reducible assumption | refine Ext.trans ?_ (by with_reducible assumption) | refine Ext.alloc ?_ _ _ | refine Ext.drew ?_ | refine Ext.drewN ?_ _ | refine Ext.trans_mod ?_ (by with_reducible assumption) (fun i hi => by have hi2 : i = _ := hi; rw [hi2]; refine Nat.le_trans ?_ (by with_reducible assumption); refine Ext.size ?_; (repeat (first | with_reducible exact Ext.refl _ | with_reducible assumption | refine Ext.trans ?_ (by with_reducible assumption) | refine Ext.alloc ?_ _ _ | refine Ext.drew ?_ | refine Ext.drewN ?_ _))))))))) hm
  change wpAnyH _ _ _ _ _ _ _ (Act.put _ none _) _
  simp only [Act.put, List.setIfInBounds_toArray, List.set_cons_zero, List.set_cons_succ]
  refine wpAnyH_done (by kernel_rfl) ?_ _
  exact key B W2 u1 u2 u3 u4 ⟨HH.out, hR, hBl, hp⟩
  refine step_alloc alT108 rfl rfl ?_
  rintro B W1 he hth hBl hBg
  refine hK.out _ _ ?_ (fun hHeld => ?_)
  · exact HH.out.trans he
  clear hK K HH
  have HH : Hid (Ext W0 _) := hHeld
  clear hHeld
  change wpAnyH _ _ _ _ _ _ _ (Act.put _ (some 5) _) _
  simp only [Act.put, List.setIfInBounds_toArray, List.set_cons_zero, List.set_cons_succ]
  refine wpAnyH_ready (rs := [4]) (by kernel_rfl) (by simp) ?_
  refine AllReadyH.cons rfl (fun K hK => ?_) AllReadyH.nil
  go_simp
  (go_at_call 53; refine (xAccountG (YX.widen0 (hX.ext (by (repeat (first | with_reducible exact Ext.refl _ | with_reducible assumption | refine Ext.trans ?_ (by with_reducible assumption) | refine Ext.alloc ?_ _ _ | refine Ext.drew ?_ | refine Ext.drewN ?_ _ | refine Ext.trans_mod ?_ (by with_reducible assumption) (fun i hi => by have hi2 : i = _ := hi; rw [hi2]; refine Nat.le_trans ?_ (by with_reducible assumption); refine Ext.size ?_; (repeat (first | with_reducible exact Ext.refl _ | with_reducible assumption | refine Ext.trans ?_ (by with_reducible assumption) | refine Ext.alloc ?_ _ _ | refine Ext.drew ?_ | refine Ext.drewN ?_ _ | refine Ext.trans_mod ?_ (by with_reducible assumption) (fun i hi => by have hi2 : i = _ := hi; rw [hi2]; refine Nat.le_trans ?_ (by with_reducible assumption); refine Ext.size ?_; (repeat (first | with_reducible exact Ext.refl _ | with_reducible assumption | refine Ext.trans ?_ (by with_reducible assumption) | refine Ext.alloc ?_ _ _ | refine Ext.drew ?_ | refine Ext.drewN ?_ _)))))))))) hBg (by (repeat (first | with_reducible exact Ext.refl _ | with_reducible assumption | refine Ext.trans ?_ (by with_reducible assumption) | refine Ext.alloc ?_ _ _ | refine Ext.drew ?_ | refine Ext.drewN ?_ _ | refine Ext.trans_mod ?_ (by with_reducible assumption) (fun i hi => by have hi2 : i = _ := hi; rw [hi2]; refine Nat.le_trans ?_ (by with_reducible assumption); refine Ext.size ?_; (repeat (first | with_reducible exact Ext.refl _ | with_reducible assumption | refine Ext.trans ?_ (by with_reducible assumption) | refine Ext.alloc ?_ _ _ | refine Ext.drew ?_ | refine Ext.drewN ?_ _ | refine Ext.trans_mod ?_ (by with_reducible assumption) (fun i hi => by have hi2 : i = _ := hi; rw [hi2]; refine Nat.le_trans ?_ (by with_reducible assumption); refine Ext.size ?_; (repeat (first | with_reducible exact Ext.refl _ | with_reducible assumption | refine Ext.trans ?_ (by with_reducible assumption) | refine Ext.alloc ?_ _ _ | refine Ext.drew ?_ | refine Ext.drewN ?_ _))))))))) (Nat.lt_of_lt_of_le hBl (Ext.size (by (repeat (first | with_reducible exact Ext.refl _ | with_reducible assumption | refine Ext.trans ?_ (by with_reducible assumption) | refine Ext.alloc ?_ _ _ | refine Ext.drew ?_ | refine Ext.drewN ?_ _ | refine Ext.trans_mod ?_ (by with_reducible assumption) (fun i hi => by have hi2 : i = _ := hi; rw [hi2]; refine Nat.le_trans ?_ (by with_reducible assumption); refine Ext.size ?_; (repeat (first | with_reducible exact Ext.refl _ | with_reducible assumption | refine Ext.trans ?_ (by with_reducible assumption) | refine Ext.alloc ?_ _ _ | refine Ext.drew ?_ | refine Ext.drewN ?_ _ | refine Ext.trans_mod ?_ (by with_reducible assumption) (fun i hi => by have hi2 : i = _ := hi; rw [hi2]; refine Nat.le_trans ?_ (by with_reducible assumption); refine Ext.size ?_; (repeat (first | with_reducible exact Ext.refl _ | with_reducible assumption | refine Ext.trans ?_ (by with_reducible assumption) | refine Ext.alloc ?_ _ _ | refine Ext.drew ?_ | refine Ext.drewN ?_ _)))))))))))) _ (by first | exact hX.ok.self | exact hX.ok.caller | exact Nat.mod_lt _ (by decide) | assumption)).mono ?_; rintro e w1 ⟨u1, u2, u3, u4, rfl, hp, hg, he⟩; obtain ⟨f1, f2, f3, f4, gs, go⟩ := hg)
  refine hK.out _ _ ?_ (fun hHeld => ?_)
  · first | exact HH.out.trans he | exact HH.out
  clear hK K HH
  have HH : Hid (Ext W0 _) := hHeld
  clear hHeld
  refine wpAnyH_ready (rs := [6]) (by kernel_rfl) (by simp) ?_
  refine AllReadyH.cons rfl (fun K hK => ?_) AllReadyH.nil
  refine step_storeB rt108 rfl rfl gs rfl rfl (there_ext hth hBl (by (repeat (first | with_reducible exact Ext.refl _ | with_reducible assumption | refine Ext.trans ?_ (by with_reducible assumption) | refine Ext.alloc ?_ _ _ | refine Ext.drew ?_ | refine Ext.drewN ?_ _ | refine Ext.trans_mod ?_ (by with_reducible assumption) (fun i hi => by have hi2 : i = _ := hi; rw [hi2]; refine Nat.le_trans ?_ (by with_reducible assumption); refine Ext.size ?_; (repeat (first | with_reducible exact Ext.refl _ | with_reducible assumption | refine Ext.trans ?_ (by with_reducible assumption) | refine Ext.alloc ?_ _ _ | refine Ext.drew ?_ | refine Ext.drewN ?_ _ | refine Ext.trans_mod ?_ (by with_reducible assumption) (fun i hi => by have hi2 : i = _ := hi; rw [hi2]; refine Nat.le_trans ?_ (by with_reducible assumption); refine Ext.size ?_; (repeat (first | with_reducible exact Ext.refl _ | with_reducible assumption | refine Ext.trans ?_ (by with_reducible assumption) | refine Ext.alloc ?_ _ _ | refine Ext.drew ?_ | refine Ext.drewN ?_ _)))))))))) (Nat.lt_of_lt_of_le hBl (Ext.size (by (repeat (first | with_reducible exact Ext.refl _ | with_reducible assumption | refine Ext.trans ?_ (by with_reducible assumption) | refine Ext.alloc ?_ _ _ | refine Ext.drew ?_ | refine Ext.drewN ?_ _ | refine Ext.trans_mod ?_ (by with_reducible assumption) (fun i hi => by have hi2 : i = _ := hi; rw [hi2]; refine Nat.le_trans ?_ (by with_reducible assumption); refine Ext.size ?_; (repeat (first | with_reducible exact Ext.refl _ | with_reducible assumption | refine Ext.trans ?_ (by with_reducible assumption) | refine Ext.alloc ?_ _ _ | refine Ext.drew ?_ | refine Ext.drewN ?_ _ | refine Ext.trans_mod ?_ (by with_reducible assumption) (fun i hi => by have hi2 : i = _ := hi; rw [hi2]; refine Nat.le_trans ?_ (by with_reducible assumption); refine Ext.size ?_; (repeat (first | with_reducible exact Ext.refl _ | with_reducible assumption | refine Ext.trans ?_ (by with_reducible assumption) | refine Ext.alloc ?_ _ _ | refine Ext.drew ?_ | refine Ext.drewN ?_ _))))))))))) go ?_
  rintro W2 hm hR hBl
  refine hK.out _ _ ?_ (fun hHeld => ?_)
  · exact Ext.trans_mod HH.out hm (fun i hi => by have hi2 : i = _ := hi; rw [hi2]; refine Nat.le_trans (Ext.size ?_) hBg; (repeat (first | with_reducible exact Ext.refl _ | with_reducible assumption | refine Ext.trans ?_ (by with_reducible assumption) | refine Ext.alloc ?_ _ _ | refine Ext.drew ?_ | refine Ext.drewN ?_ _ | refine Ext.trans_mod ?_ (by with_reducible assumption) (fun i hi => by have hi2 : i = _ := hi; rw [hi2]; refine Nat.le_trans ?_ (by with_reducible assumption); refine Ext.size ?_; (repeat (first | with_reducible exact Ext.refl _ | with_reducible assumption | refine Ext.trans ?_ (by with_reducible assumption) | refine Ext.alloc ?_ _ _ | refine Ext.drew ?_ | refine Ext.drewN ?_ _ | refine Ext.trans_mod ?_ (by with_reducible assumption) (fun i hi => by have hi2 : i = _ := hi; rw [hi2]; refine Nat.le_trans ?_ (by with_reducible assumption); refine Ext.size ?_; (repeat (first | with_reducible exact Ext.refl _ | with_reducible assumption | refine Ext.trans ?_ (by with_reducible assumption) | refine Ext.alloc ?_ _ _ | refine Ext.drew ?_ | refine Ext.drewN ?_ _)))))))))
  clear hK K HH
  have HH : Hid (Ext W0 _) := hHeld
  clear hHeld
  first | replace hp := hp.box hm | replace hp := hp.box2 hBg (by (repeat (first | with_reducible exact Ext.refl _ | with_reducible assumption | refine Ext.trans ?_ (by with_reducible assumption) | refine Ext.alloc ?_ _ _ | refine Ext.drew ?_ | refine Ext.drewN ?_ _ | refine Ext.trans_mod ?_ (by with_reducible assumption) (fun i hi => by have hi2 : i = _ := hi; rw [hi2]; refine Nat.le_trans ?_ (by with_reducible assumption); refine Ext.size ?_; (repeat (first | with_reducible exact Ext.refl _ | with_reducible assumption | refine Ext.trans ?_ (by with_reducible assumption) | refine Ext.alloc ?_ _ _ | refine Ext.drew ?_ | refine Ext.drewN ?_ _ | refine Ext.trans_mod ?_ (by with_reducible assumption) (fun i hi => by have hi2 : i = _ := hi; rw [hi2]; refine Nat.le_trans ?_ (by with_reducible assumption); refine Ext.size ?_; (repeat (first | with_reducible exact Ext.refl _ | with_reducible assumption | refine Ext.trans ?_ (by with_reducible assumption) | refine Ext.alloc ?_ _ _ | refine Ext.drew ?_ | refine Ext.drewN ?_ _))))))))) hm
  change wpAnyH _ _ _ _ _ _ _ (Act.put _ none _) _
  simp only [Act.put, List.setIfInBounds_toArray, List.set_cons_zero, List.set_cons_succ]
  refine wpAnyH_done (by kernel_rfl) ?_ _
  exact key B W2 u1 u2 u3 u4 ⟨HH.out, hR, hBl, hp⟩
  rintro B W2 u1 u2 u3 u4 ⟨he, hR, hBl, hp⟩
  obtain ⟨c20, c21, c22, c23⟩ := ac_cells (q := 0) hal hR
  simp only [Nat.zero_add] at c20 c21 c22 c23
  obtain ⟨oc, cc, hu3, h1, h2, h3⟩ := hp.code
  have hpn := hp.nonce
  subst hu3
  have hcl : ((W.acct a).code.length : Int) ≤ 140737488355328 := by omega
  have hz1 : st.now.nonce a = (W.acct a).nonce := by rw [hv.out]; rfl
  have hz2 : st.now.code a = (W.acct a).code := by rw [hv.out]; rfl
  have HG : Hid (decide (st.now.nonce a = 0 ∧ st.now.code a = []) = decide ((W.acct a).nonce = 0 ∧ (W.acct a).code = [])) := by unfold Hid; rw [hz1, hz2]
  clear hz1 hz2 c21 c23 hp
  generalize (W.acct a).code = L at *
  generalize (W.acct a).nonce = N at *
  go_wp2_with (first | (go_at_call 88; refine (nIsZero O _ _ _ hpn).mono ?_; rintro e w1 ⟨rfl, hdr⟩; have hee := drew_ext hdr; clear hdr; have k22 := (hee.cell (p := ⟨B, 22, none⟩) hBl).trans c22))
  all_goals go_ret
  all_goals rw [HG.out]
  all_goals refine ⟨ret_b ?_, by (repeat (first | with_reducible exact Ext.refl _ | with_reducible assumption | refine Ext.trans ?_ (by with_reducible assumption) | refine Ext.alloc ?_ _ _ | refine Ext.drew ?_ | refine Ext.drewN ?_ _))⟩
  all_goals (try simp only [cmpI_z, cmpI_n, cmpI_p, cmpI_nn, cmpI_pp, beq_iff_eq, beq_eq_false_iff_ne, ne_eq, decide_eq_true_eq, decide_eq_false_iff_not, Bool.not_eq_true', Bool.not_eq_false', Bool.not_eq_eq_eq_not, Bool.not_true, Bool.not_false, bne_iff_ne] at *)
  all_goals (rw [Bool.eq_iff_iff]; simp only [Bool.not_eq_true', decide_eq_false_iff_not, decide_eq_true_eq, true_iff, false_iff, Bool.false_eq_true, ← List.length_eq_zero_iff])
  all_goals omega
end
end Go.Proofs.YgvahwGreat
