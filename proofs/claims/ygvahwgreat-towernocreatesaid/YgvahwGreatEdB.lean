import Derived.Test.YgvahwGreatEd
namespace Go.Proofs.YgvahwGreat
open Go.RowKit
set_option linter.unusedSimpArgs false
section
variable {own : Nat → Nat} {w : World} {g : Nat} {c : Nat → Value} {r : Array Value} {a tn gas dl intr gl most tip base val bal nn cl : Nat} {cr lk : Bool}
set_option maxRecDepth 100000 in
set_option maxHeartbeats 6400000 in
theorem eVer4 (h : VIn own w g c r a tn gas dl intr gl most tip base val bal nn cl cr lk) (h1 : ¬ 1048576 < gas) (h2 : ¬ 1024 < dl) (h3 : lk = true) (h4 : ¬ tn = nn) : Calls Hvah.prog 99 #[.pointer (some ⟨g, 0, none⟩), .agg r] w fun e w' => ∃ p, e = .returned (.tuple #[.int .u8 4, wv p]) ∧ Ext w w' := by
  have z1 : ¬ (1048576 : Int) < gas := by omega
  have z2 : ¬ (1024 : Int) < dl := by omega
  subst h3
  have z4 : ¬ (tn : Int) = (nn : Int) := by omega
  have bg := h.blk
  obtain ⟨ka, hka, hap⟩ := h.applied
  have hkai : (ka : Int) < 4 := by omega
  obtain ⟨dp, dc, hdv, hd1, hd2⟩ := h.data
  go_enter Hvah.func99, Hvah.ntmps99
  go_upto_region 5 with (first
    | ((with_reducible (refine Veil.out ?_; apply wl_boxB)); (case hx => rfl); (case hn => exact h.sz); rintro B1 W1 e1 b1 g1) | ((with_reducible (refine Veil.out ?_; apply wl_allocW)); rintro B5 W5 cR5 e5 b5 a5 g5)
    | ((with_reducible (refine Veil.out ?_; apply wl_loadB one5i (i := 2404))); (case hx => rfl); (case hB => exact bg.ext (e1.trans e5)); (case hi => decide); rw [h.phase])
    | ((with_reducible (refine Veil.out ?_; apply wl_loadB one5i (i := 2406))); (case hx => rfl); (case hB => exact bg.ext (e1.trans e5)); (case hi => decide); rw [hap])
    | ((with_reducible (refine Veil.out ?_; apply wlG_loadB onet60v)); (case hw => go_simp); (case hx => rfl); (case hB => exact bg.ext (e1.trans e5)); (case hi => decide); rw [h.ptr]))
  have eNow : Ext w W5 := e1.trans e5
  replace bg := bg.ext eNow
  replace b1 := b1.ext e5
  have g5w : w.heap.size ≤ B5 := Nat.le_trans e1.size g5
  have bR5 := b5
  have aR5 := a5
  clear e1 e5 b5 a5 g1 g5
  go_upto_region 7 with (first | ((with_reducible (refine Veil.out ?_; apply wl_loadB one26i)); (case hx => rfl); (case hB => exact b1); (case hi => decide); rw [h.hgas]) | ((with_reducible (refine Veil.out ?_; apply wlG_loadB one32i)); (case hw => go_simp); (case hx => rfl); (case hB => exact b1); (case hi => decide); rw [hdv]) | (go_at_call 131; refine (h.HL _ eNow B1 b1).mono ?_; rintro e w6 ⟨rfl, e6⟩))
  replace bg := bg.ext e6
  replace b1 := b1.ext e6
  replace bR5 := bR5.ext e6
  replace eNow := eNow.trans e6
  go_upto_region 7 with (fail)
  refine w_ext ?_
  rintro W0 hW0
  refine wp_region_held_drew (S := fun w' => Ext W0 w') (by kernel_rfl) (Ext.refl _).drew (fun hHeld => ?_)
  have HH : Hid (Ext W0 _) := hHeld
  clear hHeld
  refine wpAnyH_take (i := 0) (v := ?_) rfl (by kernel_rfl) (by kernel_rfl) (by kernel_rfl) (fun _ _ _ h => h) (Or.inl ⟨by rfl, ?_⟩) HH.out ?_
  rotate_left
  · intro w hSw; go_simp; try with_reducible rfl
  change wpAnyH _ _ _ _ _ _ _ (Act.put _ (some 50) _) _
  simp only [Act.put, List.setIfInBounds_toArray, List.set_cons_zero, List.set_cons_succ]
  refine wpAnyH_take (i := 1) (v := ?_) rfl (by kernel_rfl) (by kernel_rfl) (by kernel_rfl) (fun _ _ _ h => h) (Or.inl ⟨by rfl, ?_⟩) HH.out ?_
  rotate_left
  · intro w hSw; go_simp; try with_reducible rfl
  change wpAnyH _ _ _ _ _ _ _ (Act.put _ (some 51) _) _
  simp only [Act.put, List.setIfInBounds_toArray, List.set_cons_zero, List.set_cons_succ]
  refine wpAnyH_take (i := 2) (v := ?_) rfl (by kernel_rfl) (by kernel_rfl) (by kernel_rfl) (fun _ _ _ h => h) (Or.inl ⟨by rfl, ?_⟩) HH.out ?_
  rotate_left
  · intro w hSw; go_simp; try with_reducible rfl
  change wpAnyH _ _ _ _ _ _ _ (Act.put _ (some 52) _) _
  simp only [Act.put, List.setIfInBounds_toArray, List.set_cons_zero, List.set_cons_succ]
  refine wpAnyH_take (i := 3) rfl (by kernel_rfl) (by kernel_rfl) (by kernel_rfl) (fun _ _ _ h => h) (yieldsIf_load1 (by rfl) _ _ rfl _ _ rfl onet60v _ (fun w hSw => by rw [(bg.ext (hW0.trans hSw)).cell (by decide), h.ptr])) HH.out ?_
  change wpAnyH _ _ _ _ _ _ _ (Act.put _ (some 53) _) _
  simp only [Act.put, List.setIfInBounds_toArray, List.set_cons_zero, List.set_cons_succ]
  refine wpAnyH_take (i := 4) (v := ?_) rfl (by kernel_rfl) (by kernel_rfl) (by kernel_rfl) (fun _ _ _ h => h) (Or.inl ⟨by rfl, ?_⟩) HH.out ?_
  rotate_left
  · intro w hSw; go_simp; try with_reducible rfl
  change wpAnyH _ _ _ _ _ _ _ (Act.put _ (some 54) _) _
  simp only [Act.put, List.setIfInBounds_toArray, List.set_cons_zero, List.set_cons_succ]
  refine wpAnyH_take (i := 5) rfl (by kernel_rfl) (by kernel_rfl) (by kernel_rfl) (fun _ _ _ h => h) (yields_A (by rfl) rfl rfl (fun w hSw => b1.ext (hW0.trans hSw)) h.from_ h.aLt (by decide)) HH.out ?_
  change wpAnyH _ _ _ _ _ _ _ (Act.put _ (some 55) _) _
  simp only [Act.put, List.setIfInBounds_toArray, List.set_cons_zero, List.set_cons_succ]
  refine wpAnyH_ready (rs := [6]) (by kernel_rfl) (by simp) ?_
  refine AllReadyH.cons rfl (fun K hK => ?_) AllReadyH.nil
  go_simp
  go_at_call 170; refine (h.HN _ (eNow.trans (hW0.trans HH.out))).mono ?_; rintro e w7 ⟨rfl, he⟩
  refine hK.out _ _ ?_ (fun hHeld => ?_)
  · first | exact HH.out.trans hmY | exact HH.out.trans he | exact HH.out
  clear hK K HH
  have HH : Hid (Ext W0 _) := hHeld
  clear hHeld
  refine wpAnyH_take (i := 7) (v := ?_) rfl (by kernel_rfl) (by kernel_rfl) (by kernel_rfl) (fun _ _ _ h => h) (Or.inl ⟨by rfl, ?_⟩) HH.out ?_
  rotate_left
  · intro w hSw; go_simp; try with_reducible rfl
  change wpAnyH _ _ _ _ _ _ _ (Act.put _ (some 6) _) _
  simp only [Act.put, List.setIfInBounds_toArray, List.set_cons_zero, List.set_cons_succ]
  refine wpAnyH_done (by kernel_rfl) ?_ _
  have eS : Ext _ w7 := hW0.trans HH.out
  replace bg := bg.ext eS
  replace b1 := b1.ext eS
  replace bR5 := bR5.ext eS
  replace eNow := eNow.trans eS
  clear eS HH hW0
  go_upto_region 9 with (first | ((with_reducible (refine Veil.out ?_; apply wl_loadB one26i)); (case hx => rfl); (case hB => exact b1); (case hi => decide); rw [h.nonce]))
  refine w_ext ?_
  rintro W0 hW0
  refine wp_region_held_drew (S := fun w' => (Ext w (w') ∧ Blk (w') B5 4 79 cR5)) (by kernel_rfl) ⟨(eNow.trans hW0).drew, (bR5.ext hW0).drew⟩ (fun hHeld => ?_)
  have HH : Hid ((Ext w (_) ∧ Blk (_) B5 4 79 cR5)) := hHeld
  clear hHeld
  refine wpAnyH_take (i := 0) rfl (by kernel_rfl) (by kernel_rfl) (by kernel_rfl) (fun _ _ _ h => h) (yields_row rt66 (by rfl) rfl rfl (fun W hW => hW.2) (by decide)) HH.out ?_
  change wpAnyH _ _ _ _ _ _ _ (Act.put _ (some 62) _) _
  simp only [Act.put, List.setIfInBounds_toArray, List.set_cons_zero, List.set_cons_succ]
  refine wpAnyH_take (i := 1) (v := ?_) rfl (by kernel_rfl) (by kernel_rfl) (by kernel_rfl) (fun _ _ _ h => h) (Or.inl ⟨by rfl, ?_⟩) HH.out ?_
  rotate_left
  · intro w hSw; go_simp; try with_reducible rfl
  change wpAnyH _ _ _ _ _ _ _ (Act.put _ (some 4) _) _
  simp only [Act.put, List.setIfInBounds_toArray, List.set_cons_zero, List.set_cons_succ]
  refine wpAnyH_ready (rs := [2]) (by kernel_rfl) (by simp) ?_
  refine AllReadyH.cons rfl (fun K hK => ?_) AllReadyH.nil
  refine step_any rfl (op_storeRow rfl rt66 rfl rfl (rowOf_size _ _ _) (ones5 aR5) HH.out.2 (by decide) ?_)
  rintro W14 b14 m14
  refine hK.out _ _ ⟨Ext.trans_mod HH.out.1 m14 (fun q hq => by have hq2 : q = B5 := hq; rw [hq2]; exact g5w), b14.laySelf⟩ (fun hHeld => ?_)
  clear hK K HH
  have HH : Hid ((Ext w (_) ∧ Blk (_) B5 4 79 cR5)) := hHeld
  clear hHeld
  change wpAnyH _ _ _ _ _ _ _ (Act.put _ none _) _
  simp only [Act.put, List.setIfInBounds_toArray, List.set_cons_zero, List.set_cons_succ]
  refine wpAnyH_done (by kernel_rfl) ?_ _
  go_wp2
  refine post_tW rfl rfl rfl HH.out.2 aR5 (by decide) rfl ?_
  first | exact ⟨_, rfl, HH.out.1⟩ | exact HH.out.1 | exact ⟨⟨_, rfl⟩, HH.out.1⟩
set_option maxRecDepth 100000 in
set_option maxHeartbeats 6400000 in
theorem eVer5 (h : VIn own w g c r a tn gas dl intr gl most tip base val bal nn cl cr lk) (h1 : ¬ 1048576 < gas) (h2 : ¬ 1024 < dl) (h3 : lk = true) (h4 : tn = nn) (h5 : tn = 18446744073709551615) : Calls Hvah.prog 99 #[.pointer (some ⟨g, 0, none⟩), .agg r] w fun e w' => ∃ p, e = .returned (.tuple #[.int .u8 5, wv p]) ∧ Ext w w' := by
  have z1 : ¬ (1048576 : Int) < gas := by omega
  have z2 : ¬ (1024 : Int) < dl := by omega
  subst h3
  subst h4
  have z5 : (tn : Int) = 18446744073709551615 := by omega
  have bg := h.blk
  obtain ⟨ka, hka, hap⟩ := h.applied
  have hkai : (ka : Int) < 4 := by omega
  obtain ⟨dp, dc, hdv, hd1, hd2⟩ := h.data
  go_enter Hvah.func99, Hvah.ntmps99
  go_upto_region 5 with (first
    | ((with_reducible (refine Veil.out ?_; apply wl_boxB)); (case hx => rfl); (case hn => exact h.sz); rintro B1 W1 e1 b1 g1) | ((with_reducible (refine Veil.out ?_; apply wl_allocW)); rintro B5 W5 cR5 e5 b5 a5 g5)
    | ((with_reducible (refine Veil.out ?_; apply wl_loadB one5i (i := 2404))); (case hx => rfl); (case hB => exact bg.ext (e1.trans e5)); (case hi => decide); rw [h.phase])
    | ((with_reducible (refine Veil.out ?_; apply wl_loadB one5i (i := 2406))); (case hx => rfl); (case hB => exact bg.ext (e1.trans e5)); (case hi => decide); rw [hap])
    | ((with_reducible (refine Veil.out ?_; apply wlG_loadB onet60v)); (case hw => go_simp); (case hx => rfl); (case hB => exact bg.ext (e1.trans e5)); (case hi => decide); rw [h.ptr]))
  have eNow : Ext w W5 := e1.trans e5
  replace bg := bg.ext eNow
  replace b1 := b1.ext e5
  have g5w : w.heap.size ≤ B5 := Nat.le_trans e1.size g5
  have bR5 := b5
  have aR5 := a5
  clear e1 e5 b5 a5 g1 g5
  go_upto_region 7 with (first | ((with_reducible (refine Veil.out ?_; apply wl_loadB one26i)); (case hx => rfl); (case hB => exact b1); (case hi => decide); rw [h.hgas]) | ((with_reducible (refine Veil.out ?_; apply wlG_loadB one32i)); (case hw => go_simp); (case hx => rfl); (case hB => exact b1); (case hi => decide); rw [hdv]) | (go_at_call 131; refine (h.HL _ eNow B1 b1).mono ?_; rintro e w6 ⟨rfl, e6⟩))
  replace bg := bg.ext e6
  replace b1 := b1.ext e6
  replace bR5 := bR5.ext e6
  replace eNow := eNow.trans e6
  go_upto_region 7 with (fail)
  refine w_ext ?_
  rintro W0 hW0
  refine wp_region_held_drew (S := fun w' => Ext W0 w') (by kernel_rfl) (Ext.refl _).drew (fun hHeld => ?_)
  have HH : Hid (Ext W0 _) := hHeld
  clear hHeld
  refine wpAnyH_take (i := 0) (v := ?_) rfl (by kernel_rfl) (by kernel_rfl) (by kernel_rfl) (fun _ _ _ h => h) (Or.inl ⟨by rfl, ?_⟩) HH.out ?_
  rotate_left
  · intro w hSw; go_simp; try with_reducible rfl
  change wpAnyH _ _ _ _ _ _ _ (Act.put _ (some 50) _) _
  simp only [Act.put, List.setIfInBounds_toArray, List.set_cons_zero, List.set_cons_succ]
  refine wpAnyH_take (i := 1) (v := ?_) rfl (by kernel_rfl) (by kernel_rfl) (by kernel_rfl) (fun _ _ _ h => h) (Or.inl ⟨by rfl, ?_⟩) HH.out ?_
  rotate_left
  · intro w hSw; go_simp; try with_reducible rfl
  change wpAnyH _ _ _ _ _ _ _ (Act.put _ (some 51) _) _
  simp only [Act.put, List.setIfInBounds_toArray, List.set_cons_zero, List.set_cons_succ]
  refine wpAnyH_take (i := 2) (v := ?_) rfl (by kernel_rfl) (by kernel_rfl) (by kernel_rfl) (fun _ _ _ h => h) (Or.inl ⟨by rfl, ?_⟩) HH.out ?_
  rotate_left
  · intro w hSw; go_simp; try with_reducible rfl
  change wpAnyH _ _ _ _ _ _ _ (Act.put _ (some 52) _) _
  simp only [Act.put, List.setIfInBounds_toArray, List.set_cons_zero, List.set_cons_succ]
  refine wpAnyH_take (i := 3) rfl (by kernel_rfl) (by kernel_rfl) (by kernel_rfl) (fun _ _ _ h => h) (yieldsIf_load1 (by rfl) _ _ rfl _ _ rfl onet60v _ (fun w hSw => by rw [(bg.ext (hW0.trans hSw)).cell (by decide), h.ptr])) HH.out ?_
  change wpAnyH _ _ _ _ _ _ _ (Act.put _ (some 53) _) _
  simp only [Act.put, List.setIfInBounds_toArray, List.set_cons_zero, List.set_cons_succ]
  refine wpAnyH_take (i := 4) (v := ?_) rfl (by kernel_rfl) (by kernel_rfl) (by kernel_rfl) (fun _ _ _ h => h) (Or.inl ⟨by rfl, ?_⟩) HH.out ?_
  rotate_left
  · intro w hSw; go_simp; try with_reducible rfl
  change wpAnyH _ _ _ _ _ _ _ (Act.put _ (some 54) _) _
  simp only [Act.put, List.setIfInBounds_toArray, List.set_cons_zero, List.set_cons_succ]
  refine wpAnyH_take (i := 5) rfl (by kernel_rfl) (by kernel_rfl) (by kernel_rfl) (fun _ _ _ h => h) (yields_A (by rfl) rfl rfl (fun w hSw => b1.ext (hW0.trans hSw)) h.from_ h.aLt (by decide)) HH.out ?_
  change wpAnyH _ _ _ _ _ _ _ (Act.put _ (some 55) _) _
  simp only [Act.put, List.setIfInBounds_toArray, List.set_cons_zero, List.set_cons_succ]
  refine wpAnyH_ready (rs := [6]) (by kernel_rfl) (by simp) ?_
  refine AllReadyH.cons rfl (fun K hK => ?_) AllReadyH.nil
  go_simp
  go_at_call 170; refine (h.HN _ (eNow.trans (hW0.trans HH.out))).mono ?_; rintro e w7 ⟨rfl, he⟩
  refine hK.out _ _ ?_ (fun hHeld => ?_)
  · first | exact HH.out.trans hmY | exact HH.out.trans he | exact HH.out
  clear hK K HH
  have HH : Hid (Ext W0 _) := hHeld
  clear hHeld
  refine wpAnyH_take (i := 7) (v := ?_) rfl (by kernel_rfl) (by kernel_rfl) (by kernel_rfl) (fun _ _ _ h => h) (Or.inl ⟨by rfl, ?_⟩) HH.out ?_
  rotate_left
  · intro w hSw; go_simp; try with_reducible rfl
  change wpAnyH _ _ _ _ _ _ _ (Act.put _ (some 6) _) _
  simp only [Act.put, List.setIfInBounds_toArray, List.set_cons_zero, List.set_cons_succ]
  refine wpAnyH_done (by kernel_rfl) ?_ _
  have eS : Ext _ w7 := hW0.trans HH.out
  replace bg := bg.ext eS
  replace b1 := b1.ext eS
  replace bR5 := bR5.ext eS
  replace eNow := eNow.trans eS
  clear eS HH hW0
  go_upto_region 11 with (first | ((with_reducible (refine Veil.out ?_; apply wl_loadB one26i)); (case hx => rfl); (case hB => exact b1); (case hi => decide); rw [h.nonce]))
  refine w_ext ?_
  rintro W0 hW0
  refine wp_region_held_drew (S := fun w' => (Ext w (w') ∧ Blk (w') B5 4 79 cR5)) (by kernel_rfl) ⟨(eNow.trans hW0).drew, (bR5.ext hW0).drew⟩ (fun hHeld => ?_)
  have HH : Hid ((Ext w (_) ∧ Blk (_) B5 4 79 cR5)) := hHeld
  clear hHeld
  refine wpAnyH_take (i := 0) rfl (by kernel_rfl) (by kernel_rfl) (by kernel_rfl) (fun _ _ _ h => h) (yields_row rt66 (by rfl) rfl rfl (fun W hW => hW.2) (by decide)) HH.out ?_
  change wpAnyH _ _ _ _ _ _ _ (Act.put _ (some 66) _) _
  simp only [Act.put, List.setIfInBounds_toArray, List.set_cons_zero, List.set_cons_succ]
  refine wpAnyH_take (i := 1) (v := ?_) rfl (by kernel_rfl) (by kernel_rfl) (by kernel_rfl) (fun _ _ _ h => h) (Or.inl ⟨by rfl, ?_⟩) HH.out ?_
  rotate_left
  · intro w hSw; go_simp; try with_reducible rfl
  change wpAnyH _ _ _ _ _ _ _ (Act.put _ (some 4) _) _
  simp only [Act.put, List.setIfInBounds_toArray, List.set_cons_zero, List.set_cons_succ]
  refine wpAnyH_ready (rs := [2]) (by kernel_rfl) (by simp) ?_
  refine AllReadyH.cons rfl (fun K hK => ?_) AllReadyH.nil
  refine step_any rfl (op_storeRow rfl rt66 rfl rfl (rowOf_size _ _ _) (ones5 aR5) HH.out.2 (by decide) ?_)
  rintro W14 b14 m14
  refine hK.out _ _ ⟨Ext.trans_mod HH.out.1 m14 (fun q hq => by have hq2 : q = B5 := hq; rw [hq2]; exact g5w), b14.laySelf⟩ (fun hHeld => ?_)
  clear hK K HH
  have HH : Hid ((Ext w (_) ∧ Blk (_) B5 4 79 cR5)) := hHeld
  clear hHeld
  change wpAnyH _ _ _ _ _ _ _ (Act.put _ none _) _
  simp only [Act.put, List.setIfInBounds_toArray, List.set_cons_zero, List.set_cons_succ]
  refine wpAnyH_done (by kernel_rfl) ?_ _
  go_wp2
  refine post_tW rfl rfl rfl HH.out.2 aR5 (by decide) rfl ?_
  first | exact ⟨_, rfl, HH.out.1⟩ | exact HH.out.1 | exact ⟨⟨_, rfl⟩, HH.out.1⟩
set_option maxRecDepth 100000 in
set_option maxHeartbeats 6400000 in
theorem eVer6 (h : VIn own w g c r a tn gas dl intr gl most tip base val bal nn cl cr lk) (h1 : ¬ 1048576 < gas) (h2 : ¬ 1024 < dl) (h3 : lk = true) (h4 : tn = nn) (h5 : ¬ tn = 18446744073709551615) (h6 : 0 < cl) : Calls Hvah.prog 99 #[.pointer (some ⟨g, 0, none⟩), .agg r] w fun e w' => ∃ p, e = .returned (.tuple #[.int .u8 6, wv p]) ∧ Ext w w' := by
  have z1 : ¬ (1048576 : Int) < gas := by omega
  have z2 : ¬ (1024 : Int) < dl := by omega
  subst h3
  subst h4
  have z5 : ¬ (tn : Int) = 18446744073709551615 := by omega
  have z6 : (0 : Int) < cl := by omega
  have bg := h.blk
  obtain ⟨ka, hka, hap⟩ := h.applied
  have hkai : (ka : Int) < 4 := by omega
  obtain ⟨dp, dc, hdv, hd1, hd2⟩ := h.data
  go_enter Hvah.func99, Hvah.ntmps99
  go_upto_region 5 with (first
    | ((with_reducible (refine Veil.out ?_; apply wl_boxB)); (case hx => rfl); (case hn => exact h.sz); rintro B1 W1 e1 b1 g1) | ((with_reducible (refine Veil.out ?_; apply wl_allocW)); rintro B5 W5 cR5 e5 b5 a5 g5)
    | ((with_reducible (refine Veil.out ?_; apply wl_loadB one5i (i := 2404))); (case hx => rfl); (case hB => exact bg.ext (e1.trans e5)); (case hi => decide); rw [h.phase])
    | ((with_reducible (refine Veil.out ?_; apply wl_loadB one5i (i := 2406))); (case hx => rfl); (case hB => exact bg.ext (e1.trans e5)); (case hi => decide); rw [hap])
    | ((with_reducible (refine Veil.out ?_; apply wlG_loadB onet60v)); (case hw => go_simp); (case hx => rfl); (case hB => exact bg.ext (e1.trans e5)); (case hi => decide); rw [h.ptr]))
  have eNow : Ext w W5 := e1.trans e5
  replace bg := bg.ext eNow
  replace b1 := b1.ext e5
  have g5w : w.heap.size ≤ B5 := Nat.le_trans e1.size g5
  have bR5 := b5
  have aR5 := a5
  clear e1 e5 b5 a5 g1 g5
  go_upto_region 7 with (first | ((with_reducible (refine Veil.out ?_; apply wl_loadB one26i)); (case hx => rfl); (case hB => exact b1); (case hi => decide); rw [h.hgas]) | ((with_reducible (refine Veil.out ?_; apply wlG_loadB one32i)); (case hw => go_simp); (case hx => rfl); (case hB => exact b1); (case hi => decide); rw [hdv]) | (go_at_call 131; refine (h.HL _ eNow B1 b1).mono ?_; rintro e w6 ⟨rfl, e6⟩))
  replace bg := bg.ext e6
  replace b1 := b1.ext e6
  replace bR5 := bR5.ext e6
  replace eNow := eNow.trans e6
  go_upto_region 7 with (fail)
  refine w_ext ?_
  rintro W0 hW0
  refine wp_region_held_drew (S := fun w' => Ext W0 w') (by kernel_rfl) (Ext.refl _).drew (fun hHeld => ?_)
  have HH : Hid (Ext W0 _) := hHeld
  clear hHeld
  refine wpAnyH_take (i := 0) (v := ?_) rfl (by kernel_rfl) (by kernel_rfl) (by kernel_rfl) (fun _ _ _ h => h) (Or.inl ⟨by rfl, ?_⟩) HH.out ?_
  rotate_left
  · intro w hSw; go_simp; try with_reducible rfl
  change wpAnyH _ _ _ _ _ _ _ (Act.put _ (some 50) _) _
  simp only [Act.put, List.setIfInBounds_toArray, List.set_cons_zero, List.set_cons_succ]
  refine wpAnyH_take (i := 1) (v := ?_) rfl (by kernel_rfl) (by kernel_rfl) (by kernel_rfl) (fun _ _ _ h => h) (Or.inl ⟨by rfl, ?_⟩) HH.out ?_
  rotate_left
  · intro w hSw; go_simp; try with_reducible rfl
  change wpAnyH _ _ _ _ _ _ _ (Act.put _ (some 51) _) _
  simp only [Act.put, List.setIfInBounds_toArray, List.set_cons_zero, List.set_cons_succ]
  refine wpAnyH_take (i := 2) (v := ?_) rfl (by kernel_rfl) (by kernel_rfl) (by kernel_rfl) (fun _ _ _ h => h) (Or.inl ⟨by rfl, ?_⟩) HH.out ?_
  rotate_left
  · intro w hSw; go_simp; try with_reducible rfl
  change wpAnyH _ _ _ _ _ _ _ (Act.put _ (some 52) _) _
  simp only [Act.put, List.setIfInBounds_toArray, List.set_cons_zero, List.set_cons_succ]
  refine wpAnyH_take (i := 3) rfl (by kernel_rfl) (by kernel_rfl) (by kernel_rfl) (fun _ _ _ h => h) (yieldsIf_load1 (by rfl) _ _ rfl _ _ rfl onet60v _ (fun w hSw => by rw [(bg.ext (hW0.trans hSw)).cell (by decide), h.ptr])) HH.out ?_
  change wpAnyH _ _ _ _ _ _ _ (Act.put _ (some 53) _) _
  simp only [Act.put, List.setIfInBounds_toArray, List.set_cons_zero, List.set_cons_succ]
  refine wpAnyH_take (i := 4) (v := ?_) rfl (by kernel_rfl) (by kernel_rfl) (by kernel_rfl) (fun _ _ _ h => h) (Or.inl ⟨by rfl, ?_⟩) HH.out ?_
  rotate_left
  · intro w hSw; go_simp; try with_reducible rfl
  change wpAnyH _ _ _ _ _ _ _ (Act.put _ (some 54) _) _
  simp only [Act.put, List.setIfInBounds_toArray, List.set_cons_zero, List.set_cons_succ]
  refine wpAnyH_take (i := 5) rfl (by kernel_rfl) (by kernel_rfl) (by kernel_rfl) (fun _ _ _ h => h) (yields_A (by rfl) rfl rfl (fun w hSw => b1.ext (hW0.trans hSw)) h.from_ h.aLt (by decide)) HH.out ?_
  change wpAnyH _ _ _ _ _ _ _ (Act.put _ (some 55) _) _
  simp only [Act.put, List.setIfInBounds_toArray, List.set_cons_zero, List.set_cons_succ]
  refine wpAnyH_ready (rs := [6]) (by kernel_rfl) (by simp) ?_
  refine AllReadyH.cons rfl (fun K hK => ?_) AllReadyH.nil
  go_simp
  go_at_call 170; refine (h.HN _ (eNow.trans (hW0.trans HH.out))).mono ?_; rintro e w7 ⟨rfl, he⟩
  refine hK.out _ _ ?_ (fun hHeld => ?_)
  · first | exact HH.out.trans hmY | exact HH.out.trans he | exact HH.out
  clear hK K HH
  have HH : Hid (Ext W0 _) := hHeld
  clear hHeld
  refine wpAnyH_take (i := 7) (v := ?_) rfl (by kernel_rfl) (by kernel_rfl) (by kernel_rfl) (fun _ _ _ h => h) (Or.inl ⟨by rfl, ?_⟩) HH.out ?_
  rotate_left
  · intro w hSw; go_simp; try with_reducible rfl
  change wpAnyH _ _ _ _ _ _ _ (Act.put _ (some 6) _) _
  simp only [Act.put, List.setIfInBounds_toArray, List.set_cons_zero, List.set_cons_succ]
  refine wpAnyH_done (by kernel_rfl) ?_ _
  have eS : Ext _ w7 := hW0.trans HH.out
  replace bg := bg.ext eS
  replace b1 := b1.ext eS
  replace bR5 := bR5.ext eS
  replace eNow := eNow.trans eS
  clear eS HH hW0
  go_upto_region 12 with (first | ((with_reducible (refine Veil.out ?_; apply wl_loadB one26i)); (case hx => rfl); (case hB => exact b1); (case hi => decide); rw [h.nonce]))
  refine w_ext ?_
  rintro W0 hW0
  refine wp_region_held_drew (S := fun w' => Ext W0 w') (by kernel_rfl) (Ext.refl _).drew (fun hHeld => ?_)
  have HH : Hid (Ext W0 _) := hHeld
  clear hHeld
  refine wpAnyH_take (i := 0) (v := ?_) rfl (by kernel_rfl) (by kernel_rfl) (by kernel_rfl) (fun _ _ _ h => h) (Or.inl ⟨by rfl, ?_⟩) HH.out ?_
  rotate_left
  · intro w hSw; go_simp; try with_reducible rfl
  change wpAnyH _ _ _ _ _ _ _ (Act.put _ (some 68) _) _
  simp only [Act.put, List.setIfInBounds_toArray, List.set_cons_zero, List.set_cons_succ]
  refine wpAnyH_take (i := 1) (v := ?_) rfl (by kernel_rfl) (by kernel_rfl) (by kernel_rfl) (fun _ _ _ h => h) (Or.inl ⟨by rfl, ?_⟩) HH.out ?_
  rotate_left
  · intro w hSw; go_simp; try with_reducible rfl
  change wpAnyH _ _ _ _ _ _ _ (Act.put _ (some 69) _) _
  simp only [Act.put, List.setIfInBounds_toArray, List.set_cons_zero, List.set_cons_succ]
  refine wpAnyH_take (i := 2) (v := ?_) rfl (by kernel_rfl) (by kernel_rfl) (by kernel_rfl) (fun _ _ _ h => h) (Or.inl ⟨by rfl, ?_⟩) HH.out ?_
  rotate_left
  · intro w hSw; go_simp; try with_reducible rfl
  change wpAnyH _ _ _ _ _ _ _ (Act.put _ (some 70) _) _
  simp only [Act.put, List.setIfInBounds_toArray, List.set_cons_zero, List.set_cons_succ]
  refine wpAnyH_take (i := 3) rfl (by kernel_rfl) (by kernel_rfl) (by kernel_rfl) (fun _ _ _ h => h) (yieldsIf_load1 (by rfl) _ _ rfl _ _ rfl onet60v _ (fun w hSw => by rw [(bg.ext (hW0.trans hSw)).cell (by decide), h.ptr])) HH.out ?_
  change wpAnyH _ _ _ _ _ _ _ (Act.put _ (some 71) _) _
  simp only [Act.put, List.setIfInBounds_toArray, List.set_cons_zero, List.set_cons_succ]
  refine wpAnyH_take (i := 4) (v := ?_) rfl (by kernel_rfl) (by kernel_rfl) (by kernel_rfl) (fun _ _ _ h => h) (Or.inl ⟨by rfl, ?_⟩) HH.out ?_
  rotate_left
  · intro w hSw; go_simp; try with_reducible rfl
  change wpAnyH _ _ _ _ _ _ _ (Act.put _ (some 72) _) _
  simp only [Act.put, List.setIfInBounds_toArray, List.set_cons_zero, List.set_cons_succ]
  refine wpAnyH_take (i := 5) rfl (by kernel_rfl) (by kernel_rfl) (by kernel_rfl) (fun _ _ _ h => h) (yields_A (by rfl) rfl rfl (fun w hSw => b1.ext (hW0.trans hSw)) h.from_ h.aLt (by decide)) HH.out ?_
  change wpAnyH _ _ _ _ _ _ _ (Act.put _ (some 73) _) _
  simp only [Act.put, List.setIfInBounds_toArray, List.set_cons_zero, List.set_cons_succ]
  refine wpAnyH_ready (rs := [6]) (by kernel_rfl) (by simp) ?_
  refine AllReadyH.cons rfl (fun K hK => ?_) AllReadyH.nil
  go_simp
  go_at_call 112; refine (h.HC _ (eNow.trans (hW0.trans HH.out))).mono ?_; rintro e w12 ⟨co, cc, rfl, hcl9, he⟩
  refine hK.out _ _ ?_ (fun hHeld => ?_)
  · first | exact HH.out.trans hmY | exact HH.out.trans he | exact HH.out
  clear hK K HH
  have HH : Hid (Ext W0 _) := hHeld
  clear hHeld
  refine wpAnyH_take (i := 7) (v := ?_) rfl (by kernel_rfl) (by kernel_rfl) (by kernel_rfl) (fun _ _ _ h => h) (Or.inl ⟨by rfl, ?_⟩) HH.out ?_
  rotate_left
  · intro w hSw; go_simp; try with_reducible rfl
  change wpAnyH _ _ _ _ _ _ _ (Act.put _ (some 75) _) _
  simp only [Act.put, List.setIfInBounds_toArray, List.set_cons_zero, List.set_cons_succ]
  refine wpAnyH_take (i := 8) (v := ?_) rfl (by kernel_rfl) (by kernel_rfl) (by kernel_rfl) (fun _ _ _ h => h) (Or.inl ⟨by rfl, ?_⟩) HH.out ?_
  rotate_left
  · intro w hSw; go_simp; try with_reducible rfl
  change wpAnyH _ _ _ _ _ _ _ (Act.put _ (some 76) _) _
  simp only [Act.put, List.setIfInBounds_toArray, List.set_cons_zero, List.set_cons_succ]
  refine wpAnyH_take (i := 9) (v := ?_) rfl (by kernel_rfl) (by kernel_rfl) (by kernel_rfl) (fun _ _ _ h => h) (Or.inl ⟨by rfl, ?_⟩) HH.out ?_
  rotate_left
  · intro w hSw; go_simp; try with_reducible rfl
  change wpAnyH _ _ _ _ _ _ _ (Act.put _ (some 67) _) _
  simp only [Act.put, List.setIfInBounds_toArray, List.set_cons_zero, List.set_cons_succ]
  refine wpAnyH_done (by kernel_rfl) ?_ _
  have eS : Ext _ w12 := hW0.trans HH.out
  replace bg := bg.ext eS
  replace b1 := b1.ext eS
  replace bR5 := bR5.ext eS
  replace eNow := eNow.trans eS
  clear eS HH hW0
  go_upto_region 13 with (fail)
  refine w_ext ?_
  rintro W0 hW0
  refine wp_region_held_drew (S := fun w' => (Ext w (w') ∧ Blk (w') B5 4 79 cR5)) (by kernel_rfl) ⟨(eNow.trans hW0).drew, (bR5.ext hW0).drew⟩ (fun hHeld => ?_)
  have HH : Hid ((Ext w (_) ∧ Blk (_) B5 4 79 cR5)) := hHeld
  clear hHeld
  refine wpAnyH_take (i := 0) rfl (by kernel_rfl) (by kernel_rfl) (by kernel_rfl) (fun _ _ _ h => h) (yields_row rt66 (by rfl) rfl rfl (fun W hW => hW.2) (by decide)) HH.out ?_
  change wpAnyH _ _ _ _ _ _ _ (Act.put _ (some 77) _) _
  simp only [Act.put, List.setIfInBounds_toArray, List.set_cons_zero, List.set_cons_succ]
  refine wpAnyH_take (i := 1) (v := ?_) rfl (by kernel_rfl) (by kernel_rfl) (by kernel_rfl) (fun _ _ _ h => h) (Or.inl ⟨by rfl, ?_⟩) HH.out ?_
  rotate_left
  · intro w hSw; go_simp; try with_reducible rfl
  change wpAnyH _ _ _ _ _ _ _ (Act.put _ (some 4) _) _
  simp only [Act.put, List.setIfInBounds_toArray, List.set_cons_zero, List.set_cons_succ]
  refine wpAnyH_ready (rs := [2]) (by kernel_rfl) (by simp) ?_
  refine AllReadyH.cons rfl (fun K hK => ?_) AllReadyH.nil
  refine step_any rfl (op_storeRow rfl rt66 rfl rfl (rowOf_size _ _ _) (ones5 aR5) HH.out.2 (by decide) ?_)
  rintro W14 b14 m14
  refine hK.out _ _ ⟨Ext.trans_mod HH.out.1 m14 (fun q hq => by have hq2 : q = B5 := hq; rw [hq2]; exact g5w), b14.laySelf⟩ (fun hHeld => ?_)
  clear hK K HH
  have HH : Hid ((Ext w (_) ∧ Blk (_) B5 4 79 cR5)) := hHeld
  clear hHeld
  change wpAnyH _ _ _ _ _ _ _ (Act.put _ none _) _
  simp only [Act.put, List.setIfInBounds_toArray, List.set_cons_zero, List.set_cons_succ]
  refine wpAnyH_done (by kernel_rfl) ?_ _
  go_wp2
  refine post_tW rfl rfl rfl HH.out.2 aR5 (by decide) rfl ?_
  first | exact ⟨_, rfl, HH.out.1⟩ | exact HH.out.1 | exact ⟨⟨_, rfl⟩, HH.out.1⟩
end
end Go.Proofs.YgvahwGreat
