import Derived.Test.YgvahwGreatEd
namespace Go.Proofs.YgvahwGreat
open Go.RowKit
set_option linter.unusedSimpArgs false
section
variable {own : Nat → Nat} {w : World} {g : Nat} {c : Nat → Value} {r : Array Value} {a tn gas dl intr gl most tip base val bal nn cl : Nat} {cr lk : Bool}
set_option maxRecDepth 100000 in
set_option maxHeartbeats 6400000 in
theorem eVer10a (h : VIn own w g c r a tn gas dl intr gl most tip base val bal nn cl cr lk) (h1 : ¬ 1048576 < gas) (h2 : ¬ 1024 < dl) (h3 : lk = true) (h4 : tn = nn) (h5 : ¬ tn = 18446744073709551615) (h6 : cl = 0) (h7 : ¬ (cr = true ∧ 512 < dl)) (h8 : ¬ gas < intr) (h9 : ¬ gl < gas) (h10 : P256 ≤ gas * most) : Calls Hvah.prog 99 #[.pointer (some ⟨g, 0, none⟩), .agg r] w fun e w' => ∃ p, e = .returned (.tuple #[.int .u8 10, wv p]) ∧ Ext w w' := by
  have z1 : ¬ (1048576 : Int) < gas := by omega
  have z2 : ¬ (1024 : Int) < dl := by omega
  subst h3
  subst h4
  have z5 : ¬ (tn : Int) = 18446744073709551615 := by omega
  subst h6
  have hdl : dl ≤ 1024 := by omega
  have z8 : ¬ (gas : Int) < intr := by omega
  have hg2 : gas < P256 := Nat.lt_of_lt_of_le h.gLt (by rw [P256_eq]; decide)
  have HM := fun W => uMulOver gas most W hg2 h.mLt
  have hwl : gas * most % P256 < P256 := Nat.mod_lt _ P256_pos
  rw [decide_eq_true h10, wv_small h.gLt] at HM
  have HP := fun W => uAddOver (gas * most % P256) val W hwl h.vLt
  obtain ⟨pz, hpz⟩ : ∃ z, Hid (decide (P256 ≤ gas * most % P256 + val) = z) := ⟨_, rfl⟩
  rw [hpz.out] at HP
  have hnl : (gas * most % P256 + val) % P256 < P256 := Nat.mod_lt _ P256_pos
  have HQ := fun W => uLt bal ((gas * most % P256 + val) % P256) W h.balLt hnl
  clear HQ
  obtain ⟨nd, hnd⟩ : ∃ z, Hid ((gas * most % P256 + val) % P256 = z) := ⟨_, rfl⟩
  rw [hnd.out] at HP hnl
  obtain ⟨wm, hwm⟩ : ∃ z, Hid (gas * most % P256 = z) := ⟨_, rfl⟩
  rw [hwm.out] at HM HP hwl
  have z9 : ¬ (gl : Int) < gas := by omega
  cases cr
  · clear h7
    have bg := h.blk
    obtain ⟨ka, hka, hap⟩ := h.applied
    have hkai : (ka : Int) < 4 := by omega
    obtain ⟨dp, dc, hdv, hd1, hd2⟩ := h.data
    go_enter Hvah.func99, Hvah.ntmps99
    go_upto_region 5 with (first
      | ((with_reducible (refine Veil.out ?_; apply wl_boxB)); (case hx => rfl); (case hn => exact h.sz); rintro B1 W1 e1 b1 g1) | ((with_reducible (refine Veil.out ?_; apply wl_allocW)); rintro B5 W5 cR5 e5 b5 a5 g5)
      | ((with_reducible (refine Veil.out ?_; apply wl_loadB one5i (i := 2404))); (case hx => rfl); (case hB => exact bg.ext (e1.trans e5)); (case hi => decide); rw [h.phase])
      | ((with_reducible (refine Veil.out ?_; apply wl_loadB one5i (i := 2406))); (case hx => rfl); (case hB => exact bg.ext (e1.trans e5)); (case hi => decide); rw [hap])
      | ((with_reducible (refine Veil.out ?_; apply wlG_loadB onet60v)); (case hw => go_simp); (case hx => rfl); (case hB => exact bg.ext (e1.trans e5)); (case hi => decide); rw [h.ptr]))
    have eNow : Ext w W5 := e1.trans e5
    replace bg := bg.ext eNow
    replace b1 := b1.ext e5
    have g5w : w.heap.size ≤ B5 := Nat.le_trans e1.size g5
    have bR5 := b5
    have aR5 := a5
    clear e1 e5 b5 a5 g1 g5
    go_upto_region 7 with (first | ((with_reducible (refine Veil.out ?_; apply wl_loadB one26i)); (case hx => rfl); (case hB => exact b1); (case hi => decide); rw [h.hgas]) | ((with_reducible (refine Veil.out ?_; apply wlG_loadB one32i)); (case hw => go_simp); (case hx => rfl); (case hB => exact b1); (case hi => decide); rw [hdv]) | (go_at_call 131; refine (h.HL _ eNow B1 b1).mono ?_; rintro e w6 ⟨rfl, e6⟩))
    replace bg := bg.ext e6
    replace b1 := b1.ext e6
    replace bR5 := bR5.ext e6
    replace eNow := eNow.trans e6
    go_upto_region 7 with (fail)
    refine w_ext ?_
    rintro W0 hW0
    refine wp_region_held_drew (S := fun w' => Ext W0 w') (by kernel_rfl) (Ext.refl _).drew (fun hHeld => ?_)
    have HH : Hid (Ext W0 _) := hHeld
    clear hHeld
    refine wpAnyH_take (i := 0) (v := ?_) rfl (by kernel_rfl) (by kernel_rfl) (by kernel_rfl) (fun _ _ _ h => h) (Or.inl ⟨by rfl, ?_⟩) HH.out ?_
    rotate_left
    · intro w hSw; go_simp; try with_reducible rfl
    change wpAnyH _ _ _ _ _ _ _ (Act.put _ (some 50) _) _
    simp only [Act.put, List.setIfInBounds_toArray, List.set_cons_zero, List.set_cons_succ]
    refine wpAnyH_take (i := 1) (v := ?_) rfl (by kernel_rfl) (by kernel_rfl) (by kernel_rfl) (fun _ _ _ h => h) (Or.inl ⟨by rfl, ?_⟩) HH.out ?_
    rotate_left
    · intro w hSw; go_simp; try with_reducible rfl
    change wpAnyH _ _ _ _ _ _ _ (Act.put _ (some 51) _) _
    simp only [Act.put, List.setIfInBounds_toArray, List.set_cons_zero, List.set_cons_succ]
    refine wpAnyH_take (i := 2) (v := ?_) rfl (by kernel_rfl) (by kernel_rfl) (by kernel_rfl) (fun _ _ _ h => h) (Or.inl ⟨by rfl, ?_⟩) HH.out ?_
    rotate_left
    · intro w hSw; go_simp; try with_reducible rfl
    change wpAnyH _ _ _ _ _ _ _ (Act.put _ (some 52) _) _
    simp only [Act.put, List.setIfInBounds_toArray, List.set_cons_zero, List.set_cons_succ]
    refine wpAnyH_take (i := 3) rfl (by kernel_rfl) (by kernel_rfl) (by kernel_rfl) (fun _ _ _ h => h) (yieldsIf_load1 (by rfl) _ _ rfl _ _ rfl onet60v _ (fun w hSw => by rw [(bg.ext (hW0.trans hSw)).cell (by decide), h.ptr])) HH.out ?_
    change wpAnyH _ _ _ _ _ _ _ (Act.put _ (some 53) _) _
    simp only [Act.put, List.setIfInBounds_toArray, List.set_cons_zero, List.set_cons_succ]
    refine wpAnyH_take (i := 4) (v := ?_) rfl (by kernel_rfl) (by kernel_rfl) (by kernel_rfl) (fun _ _ _ h => h) (Or.inl ⟨by rfl, ?_⟩) HH.out ?_
    rotate_left
    · intro w hSw; go_simp; try with_reducible rfl
    change wpAnyH _ _ _ _ _ _ _ (Act.put _ (some 54) _) _
    simp only [Act.put, List.setIfInBounds_toArray, List.set_cons_zero, List.set_cons_succ]
    refine wpAnyH_take (i := 5) rfl (by kernel_rfl) (by kernel_rfl) (by kernel_rfl) (fun _ _ _ h => h) (yields_A (by rfl) rfl rfl (fun w hSw => b1.ext (hW0.trans hSw)) h.from_ h.aLt (by decide)) HH.out ?_
    change wpAnyH _ _ _ _ _ _ _ (Act.put _ (some 55) _) _
    simp only [Act.put, List.setIfInBounds_toArray, List.set_cons_zero, List.set_cons_succ]
    refine wpAnyH_ready (rs := [6]) (by kernel_rfl) (by simp) ?_
    refine AllReadyH.cons rfl (fun K hK => ?_) AllReadyH.nil
    go_simp
    go_at_call 170; refine (h.HN _ (eNow.trans (hW0.trans HH.out))).mono ?_; rintro e w7 ⟨rfl, he⟩
    refine hK.out _ _ ?_ (fun hHeld => ?_)
    · first | exact HH.out.trans hmY | exact HH.out.trans he | exact HH.out
    clear hK K HH
    have HH : Hid (Ext W0 _) := hHeld
    clear hHeld
    refine wpAnyH_take (i := 7) (v := ?_) rfl (by kernel_rfl) (by kernel_rfl) (by kernel_rfl) (fun _ _ _ h => h) (Or.inl ⟨by rfl, ?_⟩) HH.out ?_
    rotate_left
    · intro w hSw; go_simp; try with_reducible rfl
    change wpAnyH _ _ _ _ _ _ _ (Act.put _ (some 6) _) _
    simp only [Act.put, List.setIfInBounds_toArray, List.set_cons_zero, List.set_cons_succ]
    refine wpAnyH_done (by kernel_rfl) ?_ _
    have eS : Ext _ w7 := hW0.trans HH.out
    replace bg := bg.ext eS
    replace b1 := b1.ext eS
    replace bR5 := bR5.ext eS
    replace eNow := eNow.trans eS
    clear eS HH hW0
    go_upto_region 12 with (first | ((with_reducible (refine Veil.out ?_; apply wl_loadB one26i)); (case hx => rfl); (case hB => exact b1); (case hi => decide); rw [h.nonce]))
    refine w_ext ?_
    rintro W0 hW0
    refine wp_region_held_drew (S := fun w' => Ext W0 w') (by kernel_rfl) (Ext.refl _).drew (fun hHeld => ?_)
    have HH : Hid (Ext W0 _) := hHeld
    clear hHeld
    refine wpAnyH_take (i := 0) (v := ?_) rfl (by kernel_rfl) (by kernel_rfl) (by kernel_rfl) (fun _ _ _ h => h) (Or.inl ⟨by rfl, ?_⟩) HH.out ?_
    rotate_left
    · intro w hSw; go_simp; try with_reducible rfl
    change wpAnyH _ _ _ _ _ _ _ (Act.put _ (some 68) _) _
    simp only [Act.put, List.setIfInBounds_toArray, List.set_cons_zero, List.set_cons_succ]
    refine wpAnyH_take (i := 1) (v := ?_) rfl (by kernel_rfl) (by kernel_rfl) (by kernel_rfl) (fun _ _ _ h => h) (Or.inl ⟨by rfl, ?_⟩) HH.out ?_
    rotate_left
    · intro w hSw; go_simp; try with_reducible rfl
    change wpAnyH _ _ _ _ _ _ _ (Act.put _ (some 69) _) _
    simp only [Act.put, List.setIfInBounds_toArray, List.set_cons_zero, List.set_cons_succ]
    refine wpAnyH_take (i := 2) (v := ?_) rfl (by kernel_rfl) (by kernel_rfl) (by kernel_rfl) (fun _ _ _ h => h) (Or.inl ⟨by rfl, ?_⟩) HH.out ?_
    rotate_left
    · intro w hSw; go_simp; try with_reducible rfl
    change wpAnyH _ _ _ _ _ _ _ (Act.put _ (some 70) _) _
    simp only [Act.put, List.setIfInBounds_toArray, List.set_cons_zero, List.set_cons_succ]
    refine wpAnyH_take (i := 3) rfl (by kernel_rfl) (by kernel_rfl) (by kernel_rfl) (fun _ _ _ h => h) (yieldsIf_load1 (by rfl) _ _ rfl _ _ rfl onet60v _ (fun w hSw => by rw [(bg.ext (hW0.trans hSw)).cell (by decide), h.ptr])) HH.out ?_
    change wpAnyH _ _ _ _ _ _ _ (Act.put _ (some 71) _) _
    simp only [Act.put, List.setIfInBounds_toArray, List.set_cons_zero, List.set_cons_succ]
    refine wpAnyH_take (i := 4) (v := ?_) rfl (by kernel_rfl) (by kernel_rfl) (by kernel_rfl) (fun _ _ _ h => h) (Or.inl ⟨by rfl, ?_⟩) HH.out ?_
    rotate_left
    · intro w hSw; go_simp; try with_reducible rfl
    change wpAnyH _ _ _ _ _ _ _ (Act.put _ (some 72) _) _
    simp only [Act.put, List.setIfInBounds_toArray, List.set_cons_zero, List.set_cons_succ]
    refine wpAnyH_take (i := 5) rfl (by kernel_rfl) (by kernel_rfl) (by kernel_rfl) (fun _ _ _ h => h) (yields_A (by rfl) rfl rfl (fun w hSw => b1.ext (hW0.trans hSw)) h.from_ h.aLt (by decide)) HH.out ?_
    change wpAnyH _ _ _ _ _ _ _ (Act.put _ (some 73) _) _
    simp only [Act.put, List.setIfInBounds_toArray, List.set_cons_zero, List.set_cons_succ]
    refine wpAnyH_ready (rs := [6]) (by kernel_rfl) (by simp) ?_
    refine AllReadyH.cons rfl (fun K hK => ?_) AllReadyH.nil
    go_simp
    go_at_call 112; refine (h.HC _ (eNow.trans (hW0.trans HH.out))).mono ?_; rintro e w12 ⟨co, cc, rfl, hcl9, he⟩
    refine hK.out _ _ ?_ (fun hHeld => ?_)
    · first | exact HH.out.trans hmY | exact HH.out.trans he | exact HH.out
    clear hK K HH
    have HH : Hid (Ext W0 _) := hHeld
    clear hHeld
    refine wpAnyH_take (i := 7) (v := ?_) rfl (by kernel_rfl) (by kernel_rfl) (by kernel_rfl) (fun _ _ _ h => h) (Or.inl ⟨by rfl, ?_⟩) HH.out ?_
    rotate_left
    · intro w hSw; go_simp; try with_reducible rfl
    change wpAnyH _ _ _ _ _ _ _ (Act.put _ (some 75) _) _
    simp only [Act.put, List.setIfInBounds_toArray, List.set_cons_zero, List.set_cons_succ]
    refine wpAnyH_take (i := 8) (v := ?_) rfl (by kernel_rfl) (by kernel_rfl) (by kernel_rfl) (fun _ _ _ h => h) (Or.inl ⟨by rfl, ?_⟩) HH.out ?_
    rotate_left
    · intro w hSw; go_simp; try with_reducible rfl
    change wpAnyH _ _ _ _ _ _ _ (Act.put _ (some 76) _) _
    simp only [Act.put, List.setIfInBounds_toArray, List.set_cons_zero, List.set_cons_succ]
    refine wpAnyH_take (i := 9) (v := ?_) rfl (by kernel_rfl) (by kernel_rfl) (by kernel_rfl) (fun _ _ _ h => h) (Or.inl ⟨by rfl, ?_⟩) HH.out ?_
    rotate_left
    · intro w hSw; go_simp; try with_reducible rfl
    change wpAnyH _ _ _ _ _ _ _ (Act.put _ (some 67) _) _
    simp only [Act.put, List.setIfInBounds_toArray, List.set_cons_zero, List.set_cons_succ]
    refine wpAnyH_done (by kernel_rfl) ?_ _
    have eS : Ext _ w12 := hW0.trans HH.out
    replace bg := bg.ext eS
    replace b1 := b1.ext eS
    replace bR5 := bR5.ext eS
    replace eNow := eNow.trans eS
    clear eS HH hW0
    go_upto_region 16 with (first | ((with_reducible (refine Veil.out ?_; apply wl_loadB one4i)); (case hx => rfl); (case hB => exact b1); (case hi => decide); rw [h.create]) | ((with_reducible (refine Veil.out ?_; apply wlG_loadB one32i)); (case hw => go_simp); (case hx => rfl); (case hB => exact b1); (case hi => decide); rw [hdv]))
    refine w_ext ?_
    rintro W0 hW0
    refine wp_region_held_drew (S := fun w' => Ext W0 w') (by kernel_rfl) (Ext.refl _).drew (fun hHeld => ?_)
    have HH : Hid (Ext W0 _) := hHeld
    clear hHeld
    refine wpAnyH_take (i := 0) (v := ?_) rfl (by kernel_rfl) (by kernel_rfl) (by kernel_rfl) (fun _ _ _ h => h) (Or.inl ⟨by rfl, ?_⟩) HH.out ?_
    rotate_left
    · intro w hSw; go_simp; try with_reducible rfl
    change wpAnyH _ _ _ _ _ _ _ (Act.put _ (some 89) _) _
    simp only [Act.put, List.setIfInBounds_toArray, List.set_cons_zero, List.set_cons_succ]
    refine wpAnyH_take (i := 1) rfl (by kernel_rfl) (by kernel_rfl) (by kernel_rfl) (fun _ _ _ h => h) (yieldsIf_load1 (by rfl) _ _ rfl _ _ rfl one26i _ (fun w hSw => by rw [(b1.ext (hW0.trans hSw)).cell (by decide), h.hgas])) HH.out ?_
    change wpAnyH _ _ _ _ _ _ _ (Act.put _ (some 90) _) _
    simp only [Act.put, List.setIfInBounds_toArray, List.set_cons_zero, List.set_cons_succ]
    refine wpAnyH_take (i := 2) rfl (by kernel_rfl) (by kernel_rfl) (by kernel_rfl) (fun _ _ _ h => h) (cast_row rt35v (by rfl) rfl rfl (fun w hSw => b1.ext (hW0.trans hSw)) h.sz) HH.out ?_
    change wpAnyH _ _ _ _ _ _ _ (Act.put _ (some 91) _) _
    simp only [Act.put, List.setIfInBounds_toArray, List.set_cons_zero, List.set_cons_succ]
    refine wpAnyH_ready (rs := [3]) (by kernel_rfl) (by simp) ?_
    refine AllReadyH.cons rfl (fun K hK => ?_) AllReadyH.nil
    go_simp
    go_at_call 103; refine (h.HI hdl rfl _ (eNow.trans (hW0.trans HH.out))).mono ?_; rintro e w16 ⟨rfl, he⟩
    refine hK.out _ _ ?_ (fun hHeld => ?_)
    · first | exact HH.out.trans hmY | exact HH.out.trans he | exact HH.out
    clear hK K HH
    have HH : Hid (Ext W0 _) := hHeld
    clear hHeld
    refine wpAnyH_take (i := 4) (v := ?_) rfl (by kernel_rfl) (by kernel_rfl) (by kernel_rfl) (fun _ _ _ h => h) (Or.inl ⟨by rfl, ?_⟩) HH.out ?_
    rotate_left
    · intro w hSw; go_simp; try with_reducible rfl
    change wpAnyH _ _ _ _ _ _ _ (Act.put _ (some 93) _) _
    simp only [Act.put, List.setIfInBounds_toArray, List.set_cons_zero, List.set_cons_succ]
    refine wpAnyH_take (i := 5) (v := ?_) rfl (by kernel_rfl) (by kernel_rfl) (by kernel_rfl) (fun _ _ _ h => h) (Or.inl ⟨by rfl, ?_⟩) HH.out ?_
    rotate_left
    · intro w hSw; go_simp; try with_reducible rfl
    change wpAnyH _ _ _ _ _ _ _ (Act.put _ (some 88) _) _
    simp only [Act.put, List.setIfInBounds_toArray, List.set_cons_zero, List.set_cons_succ]
    refine wpAnyH_done (by kernel_rfl) ?_ _
    have eS : Ext _ w16 := hW0.trans HH.out
    replace bg := bg.ext eS
    replace b1 := b1.ext eS
    replace bR5 := bR5.ext eS
    replace eNow := eNow.trans eS
    clear eS HH hW0
    go_upto_region 18 with (fail)
    refine w_ext ?_
    rintro W0 hW0
    refine wp_region_held_drew (S := fun w' => Ext W0 w') (by kernel_rfl) (Ext.refl _).drew (fun hHeld => ?_)
    have HH : Hid (Ext W0 _) := hHeld
    clear hHeld
    refine wpAnyH_take (i := 0) (v := ?_) rfl (by kernel_rfl) (by kernel_rfl) (by kernel_rfl) (fun _ _ _ h => h) (Or.inl ⟨by rfl, ?_⟩) HH.out ?_
    rotate_left
    · intro w hSw; go_simp; try with_reducible rfl
    change wpAnyH _ _ _ _ _ _ _ (Act.put _ (some 96) _) _
    simp only [Act.put, List.setIfInBounds_toArray, List.set_cons_zero, List.set_cons_succ]
    refine wpAnyH_take (i := 1) rfl (by kernel_rfl) (by kernel_rfl) (by kernel_rfl) (fun _ _ _ h => h) (yieldsIf_load1 (by rfl) _ _ rfl _ _ rfl one26i _ (fun w hSw => by rw [(b1.ext (hW0.trans hSw)).cell (by decide), h.hgas])) HH.out ?_
    change wpAnyH _ _ _ _ _ _ _ (Act.put _ (some 97) _) _
    simp only [Act.put, List.setIfInBounds_toArray, List.set_cons_zero, List.set_cons_succ]
    refine wpAnyH_take (i := 2) (v := ?_) rfl (by kernel_rfl) (by kernel_rfl) (by kernel_rfl) (fun _ _ _ h => h) (Or.inl ⟨by rfl, ?_⟩) HH.out ?_
    rotate_left
    · intro w hSw; go_simp; try with_reducible rfl
    change wpAnyH _ _ _ _ _ _ _ (Act.put _ (some 98) _) _
    simp only [Act.put, List.setIfInBounds_toArray, List.set_cons_zero, List.set_cons_succ]
    refine wpAnyH_take (i := 3) (v := ?_) rfl (by kernel_rfl) (by kernel_rfl) (by kernel_rfl) (fun _ _ _ h => h) (Or.inl ⟨by rfl, ?_⟩) HH.out ?_
    rotate_left
    · intro w hSw; go_simp; try with_reducible rfl
    change wpAnyH _ _ _ _ _ _ _ (Act.put _ (some 99) _) _
    simp only [Act.put, List.setIfInBounds_toArray, List.set_cons_zero, List.set_cons_succ]
    refine wpAnyH_take (i := 4) (v := ?_) rfl (by kernel_rfl) (by kernel_rfl) (by kernel_rfl) (fun _ _ _ h => h) (Or.inl ⟨by rfl, ?_⟩) HH.out ?_
    rotate_left
    · intro w hSw; go_simp; try with_reducible rfl
    change wpAnyH _ _ _ _ _ _ _ (Act.put _ (some 100) _) _
    simp only [Act.put, List.setIfInBounds_toArray, List.set_cons_zero, List.set_cons_succ]
    refine wpAnyH_take (i := 5) (v := ?_) rfl (by kernel_rfl) (by kernel_rfl) (by kernel_rfl) (fun _ _ _ h => h) (Or.inl ⟨by rfl, ?_⟩) HH.out ?_
    rotate_left
    · intro w hSw; go_simp; try with_reducible rfl
    change wpAnyH _ _ _ _ _ _ _ (Act.put _ (some 101) _) _
    simp only [Act.put, List.setIfInBounds_toArray, List.set_cons_zero, List.set_cons_succ]
    refine wpAnyH_take (i := 6) rfl (by kernel_rfl) (by kernel_rfl) (by kernel_rfl) (fun _ _ _ h => h) (yieldsIf_load1 (by rfl) _ _ rfl _ _ rfl one26i _ (fun w hSw => by rw [(bg.ext (hW0.trans hSw)).cell (by decide), h.gasLimit])) HH.out ?_
    change wpAnyH _ _ _ _ _ _ _ (Act.put _ (some 102) _) _
    simp only [Act.put, List.setIfInBounds_toArray, List.set_cons_zero, List.set_cons_succ]
    refine wpAnyH_take (i := 7) (v := ?_) rfl (by kernel_rfl) (by kernel_rfl) (by kernel_rfl) (fun _ _ _ h => h) (Or.inl ⟨by rfl, ?_⟩) HH.out ?_
    rotate_left
    · intro w hSw; go_simp; try with_reducible rfl
    change wpAnyH _ _ _ _ _ _ _ (Act.put _ (some 103) _) _
    simp only [Act.put, List.setIfInBounds_toArray, List.set_cons_zero, List.set_cons_succ]
    refine wpAnyH_take (i := 8) (v := ?_) rfl (by kernel_rfl) (by kernel_rfl) (by kernel_rfl) (fun _ _ _ h => h) (Or.inl ⟨by rfl, ?_⟩) HH.out ?_
    rotate_left
    · intro w hSw; go_simp; try with_reducible rfl
    change wpAnyH _ _ _ _ _ _ _ (Act.put _ (some 95) _) _
    simp only [Act.put, List.setIfInBounds_toArray, List.set_cons_zero, List.set_cons_succ]
    refine wpAnyH_done (by kernel_rfl) ?_ _
    have eS := hW0.trans HH.out
    replace bg := bg.ext eS
    replace b1 := b1.ext eS
    replace bR5 := bR5.ext eS
    replace eNow := eNow.trans eS
    clear eS HH hW0
    go_upto_region 21 with (first
      | ((with_reducible (refine Veil.out ?_; apply wl_loadRow rt35v)); (case hx => rfl); (case hB => exact b1); (case hi => decide); rw [rowOf_cf h.sz])
      | (go_at_call 171; refine (h.HF _ eNow).mono ?_; rintro e w20 ⟨rfl, e20⟩)
      | ((with_reducible (refine Veil.out ?_; apply wl_allocW)); rintro B7 W7 c7 e7 b7 _ g7; (with_reducible (refine Veil.out ?_; apply wl_allocW)); rintro B8 W8 c8 e8 b8 _ g8)
      | ((with_reducible (refine Veil.out ?_; apply wl_storeWB (v := most))); (case hx => rfl); (case hy => rfl); (case hB => exact b7.ext e8); (case hi => decide); rintro W9 c9 b9 a9 _ m9)
      | ((with_reducible (refine Veil.out ?_; apply wl_storeWB (v := tip))); (case hx => rfl); (case hy => rfl); (case hB => exact b8.mod m9 (fun q => by have q2 : B8 = B7 := q; have := b7.lt; omega)); (case hi => decide); rintro W10 c10 b10 a10 _ m10))
    have n87 : ¬ B7 = B8 := fun q => by have := b7.lt; omega
    have e21 : Ext w20 W10 := Ext.trans_mod (Ext.trans_mod (e7.trans e8) m9 (fun q hq => by have hq2 : q = B7 := hq; rw [hq2]; exact g7)) m10 (fun q hq => by have hq2 : q = B8 := hq; rw [hq2]; exact Nat.le_trans e7.size g8)
    have eS := e20.trans e21
    have bM := b9.mod m10 n87
    have bT := b10
    have aM := a9
    have aT := a10
    clear b7 b8 b9 b10 m9 m10 e7 e8 e20 e21 g7 g8 n87 a9 a10
    replace bg := bg.ext eS
    replace b1 := b1.ext eS
    replace bR5 := bR5.ext eS
    replace eNow := eNow.trans eS
    clear eS
    go_upto_region 22 with (first
      | ((with_reducible (refine Veil.out ?_; apply wl_loadRow rt28 (b := g))); (case hx => rfl); (case hB => exact bg); (case hi => decide); rw [rowOf_bw h.hbase h.bLt])
      | (go_at_call 92; refine (uFromB h.bLt _).mono ?_; rintro e w20 ⟨rfl, e20⟩)
      | ((with_reducible (refine Veil.out ?_; apply wl_allocW)); rintro B9 W7 c7 e7 b7 _ g7)
      | ((with_reducible (refine Veil.out ?_; apply wl_storeWB (v := base))); (case hx => rfl); (case hy => rfl); (case hB => exact b7); (case hi => decide); rintro W9 c9 b9 a9 _ m9))
    have eS : Ext _ W9 := Ext.trans_mod (e20.trans e7) m9 (fun q hq => by have hq2 : q = B9 := hq; rw [hq2]; exact Nat.le_trans e20.size g7)
    have bB := b9
    have aB := a9
    clear b7 b9 m9 e7 e20 g7 a9
    replace bM := bM.ext eS
    replace bT := bT.ext eS
    replace bg := bg.ext eS
    replace b1 := b1.ext eS
    replace bR5 := bR5.ext eS
    replace eNow := eNow.trans eS
    clear eS
    go_upto_region 23 with (first
      | ((with_reducible (refine Veil.out ?_; apply wl_loadB one26i)); (case hx => rfl); (case hB => exact b1); (case hi => decide); rw [h.hgas])
      | ((with_reducible (refine Veil.out ?_; apply wl_loadWB (b := B7))); (case hx => rfl); (case hB => exact bM); (case hW => exact aM); (case hi => decide))
      | (go_at_call 172; refine (HM _).mono ?_; rintro e w20 ⟨rfl, e20⟩)
      | ((with_reducible (refine Veil.out ?_; apply wl_allocW)); rintro B10 W7 c7 e7 b7 _ g7)
      | ((with_reducible (refine Veil.out ?_; apply wl_storeWB (v := wm))); (case hx => rfl); (case hy => rfl); (case hB => exact b7); (case hi => decide); rintro W9 c9 b9 a9 _ m9))
    have eS : Ext _ W9 := Ext.trans_mod (e20.trans e7) m9 (fun q hq => by have hq2 : q = B10 := hq; rw [hq2]; exact Nat.le_trans e20.size g7)
    have bW := b9
    have aW := a9
    clear b7 b9 m9 e7 e20 g7 a9
    replace bM := bM.ext eS
    replace bT := bT.ext eS
    replace bB := bB.ext eS
    replace bg := bg.ext eS
    replace b1 := b1.ext eS
    replace bR5 := bR5.ext eS
    replace eNow := eNow.trans eS
    clear eS
    refine w_ext ?_
    rintro W0 hW0
    refine' joinB (P := _) (Fc := fun B W1 c1 => Ext W0 W1 ∧ Blk W1 B 4 79 c1 ∧ WAt c1 0 (nd) ∧ W0.heap.size ≤ B) (fun key => _) _
    rotate_left
    refine wp_region_held_drew (S := fun w' => Ext W0 w') (by kernel_rfl) (Ext.refl _).drew (fun hHeld => ?_)
    have HH : Hid (Ext W0 _) := hHeld
    clear hHeld
    refine wpAnyH_take (i := 0) rfl (by kernel_rfl) (by kernel_rfl) (by kernel_rfl) (fun _ _ _ h => h) (yields_W (by rfl) rfl rfl (fun w hSw => bW.ext (hW0.trans hSw)) aW (by decide)) HH.out ?_
    change wpAnyH _ _ _ _ _ _ _ (Act.put _ (some 125) _) _
    simp only [Act.put, List.setIfInBounds_toArray, List.set_cons_zero, List.set_cons_succ]
    refine wpAnyH_take (i := 1) (v := ?_) rfl (by kernel_rfl) (by kernel_rfl) (by kernel_rfl) (fun _ _ _ h => h) (Or.inl ⟨by rfl, ?_⟩) HH.out ?_
    rotate_left
    · intro w hSw; go_simp; try with_reducible rfl
    change wpAnyH _ _ _ _ _ _ _ (Act.put _ (some 126) _) _
    simp only [Act.put, List.setIfInBounds_toArray, List.set_cons_zero, List.set_cons_succ]
    refine wpAnyH_take (i := 2) rfl (by kernel_rfl) (by kernel_rfl) (by kernel_rfl) (fun _ _ _ h => h) (yields_B (by rfl) rfl rfl (fun w hSw => b1.ext (hW0.trans hSw)) h.value h.vLt (by decide)) HH.out ?_
    change wpAnyH _ _ _ _ _ _ _ (Act.put _ (some 127) _) _
    simp only [Act.put, List.setIfInBounds_toArray, List.set_cons_zero, List.set_cons_succ]
    refine wpAnyH_ready (rs := [3, 8]) (by kernel_rfl) (by simp) ?_
    refine (AllReadyH.cons rfl (fun K hK => ?_) (AllReadyH.cons rfl (fun K hK => ?_) AllReadyH.nil))
    go_simp
    go_at_call 92; refine (uFromB h.vLt _).mono ?_; rintro e w23 ⟨rfl, he⟩
    refine hK.out _ _ ?_ (fun hHeld => ?_)
    · first | exact HH.out.trans hmY | exact HH.out.trans he | exact HH.out
    clear hK K HH
    have HH : Hid (Ext W0 _) := hHeld
    clear hHeld
    refine wpAnyH_ready (rs := [4, 8]) (by kernel_rfl) (by simp) ?_
    refine (AllReadyH.cons rfl (fun K hK => ?_) (AllReadyH.cons rfl (fun K hK => ?_) AllReadyH.nil))
    go_simp
    go_at_call 173; refine (HP _).mono ?_; rintro e w24 ⟨rfl, he⟩
    refine hK.out _ _ ?_ (fun hHeld => ?_)
    · first | exact HH.out.trans hmY | exact HH.out.trans he | exact HH.out
    clear hK K HH
    have HH : Hid (Ext W0 _) := hHeld
    clear hHeld
    refine wpAnyH_take (i := 5) (v := ?_) rfl (by kernel_rfl) (by kernel_rfl) (by kernel_rfl) (fun _ _ _ h => h) (Or.inl ⟨by rfl, ?_⟩) HH.out ?_
    rotate_left
    · intro w hSw; go_simp; try with_reducible rfl
    change wpAnyH _ _ _ _ _ _ _ (Act.put _ (some 124) _) _
    simp only [Act.put, List.setIfInBounds_toArray, List.set_cons_zero, List.set_cons_succ]
    refine wpAnyH_take (i := 6) (v := ?_) rfl (by kernel_rfl) (by kernel_rfl) (by kernel_rfl) (fun _ _ _ h => h) (Or.inl ⟨by rfl, ?_⟩) HH.out ?_
    rotate_left
    · intro w hSw; go_simp; try with_reducible rfl
    change wpAnyH _ _ _ _ _ _ _ (Act.put _ (some 130) _) _
    simp only [Act.put, List.setIfInBounds_toArray, List.set_cons_zero, List.set_cons_succ]
    refine wpAnyH_take (i := 7) (v := ?_) rfl (by kernel_rfl) (by kernel_rfl) (by kernel_rfl) (fun _ _ _ h => h) (Or.inl ⟨by rfl, ?_⟩) HH.out ?_
    rotate_left
    · intro w hSw; go_simp; try with_reducible rfl
    change wpAnyH _ _ _ _ _ _ _ (Act.put _ (some 131) _) _
    simp only [Act.put, List.setIfInBounds_toArray, List.set_cons_zero, List.set_cons_succ]
    refine wpAnyH_ready (rs := [8]) (by kernel_rfl) (by simp) ?_
    refine AllReadyH.cons rfl (fun K hK => ?_) AllReadyH.nil
    refine step_any rfl (op_allocW rfl ?_)
    rintro B12 W12 c12 e12 b12 _ g12
    refine hK.out _ _ ?_ (fun hHeld => ?_)
    · exact HH.out.trans e12
    clear hK K HH
    have HH : Hid (Ext W0 _) := hHeld
    clear hHeld
    change wpAnyH _ _ _ _ _ _ _ (Act.put _ (some 12) _) _
    simp only [Act.put, List.setIfInBounds_toArray, List.set_cons_zero, List.set_cons_succ]
    refine wpAnyH_ready (rs := [9]) (by kernel_rfl) (by simp) ?_
    refine AllReadyH.cons rfl (fun K hK => ?_) AllReadyH.nil
    refine step_any rfl (op_storeWB rfl rfl rfl (b12.ext (by (repeat (first | with_reducible exact Ext.refl _ | with_reducible assumption | refine Ext.trans ?_ (by with_reducible assumption) | refine Ext.alloc ?_ _ _ | refine Ext.drew ?_ | refine Ext.drewN ?_ _)))) (by decide) ?_)
    rintro W13 c13 b13 a13 _ m13
    refine hK.out _ _ ?_ (fun hHeld => ?_)
    · exact Ext.trans_mod HH.out m13 (fun i hi => by have hi2 : i = B12 := hi; rw [hi2]; exact Nat.le_trans (Ext.size (by (repeat (first | with_reducible exact Ext.refl _ | with_reducible assumption | refine Ext.trans ?_ (by with_reducible assumption) | refine Ext.alloc ?_ _ _ | refine Ext.drew ?_ | refine Ext.drewN ?_ _)))) g12)
    clear hK K HH
    have HH : Hid (Ext W0 _) := hHeld
    clear hHeld
    change wpAnyH _ _ _ _ _ _ _ (Act.put _ none _) _
    simp only [Act.put, List.setIfInBounds_toArray, List.set_cons_zero, List.set_cons_succ]
    refine wpAnyH_take (i := 10) (v := ?_) rfl (by kernel_rfl) (by kernel_rfl) (by kernel_rfl) (fun _ _ _ h => h) (Or.inl ⟨by rfl, ?_⟩) HH.out ?_
    rotate_left
    · intro w hSw; go_simp; try with_reducible rfl
    change wpAnyH _ _ _ _ _ _ _ (Act.put _ (some 13) _) _
    simp only [Act.put, List.setIfInBounds_toArray, List.set_cons_zero, List.set_cons_succ]
    refine wpAnyH_done (by kernel_rfl) ?_ _
    exact key B12 W13 c13 ⟨HH.out, b13, a13, Nat.le_trans (Ext.size (by (repeat (first | with_reducible exact Ext.refl _ | with_reducible assumption | refine Ext.trans ?_ (by with_reducible assumption) | refine Ext.alloc ?_ _ _ | refine Ext.drew ?_ | refine Ext.drewN ?_ _)))) g12⟩
    refine step_any rfl (op_allocW rfl ?_)
    rintro B12 W12 c12 e12 b12 _ g12
    refine hK.out _ _ ?_ (fun hHeld => ?_)
    · exact HH.out.trans e12
    clear hK K HH
    have HH : Hid (Ext W0 _) := hHeld
    clear hHeld
    change wpAnyH _ _ _ _ _ _ _ (Act.put _ (some 12) _) _
    simp only [Act.put, List.setIfInBounds_toArray, List.set_cons_zero, List.set_cons_succ]
    refine wpAnyH_ready (rs := [4]) (by kernel_rfl) (by simp) ?_
    refine AllReadyH.cons rfl (fun K hK => ?_) AllReadyH.nil
    go_simp
    go_at_call 173; refine (HP _).mono ?_; rintro e w24 ⟨rfl, he⟩
    refine hK.out _ _ ?_ (fun hHeld => ?_)
    · first | exact HH.out.trans hmY | exact HH.out.trans he | exact HH.out
    clear hK K HH
    have HH : Hid (Ext W0 _) := hHeld
    clear hHeld
    refine wpAnyH_take (i := 5) (v := ?_) rfl (by kernel_rfl) (by kernel_rfl) (by kernel_rfl) (fun _ _ _ h => h) (Or.inl ⟨by rfl, ?_⟩) HH.out ?_
    rotate_left
    · intro w hSw; go_simp; try with_reducible rfl
    change wpAnyH _ _ _ _ _ _ _ (Act.put _ (some 124) _) _
    simp only [Act.put, List.setIfInBounds_toArray, List.set_cons_zero, List.set_cons_succ]
    refine wpAnyH_take (i := 6) (v := ?_) rfl (by kernel_rfl) (by kernel_rfl) (by kernel_rfl) (fun _ _ _ h => h) (Or.inl ⟨by rfl, ?_⟩) HH.out ?_
    rotate_left
    · intro w hSw; go_simp; try with_reducible rfl
    change wpAnyH _ _ _ _ _ _ _ (Act.put _ (some 130) _) _
    simp only [Act.put, List.setIfInBounds_toArray, List.set_cons_zero, List.set_cons_succ]
    refine wpAnyH_take (i := 7) (v := ?_) rfl (by kernel_rfl) (by kernel_rfl) (by kernel_rfl) (fun _ _ _ h => h) (Or.inl ⟨by rfl, ?_⟩) HH.out ?_
    rotate_left
    · intro w hSw; go_simp; try with_reducible rfl
    change wpAnyH _ _ _ _ _ _ _ (Act.put _ (some 131) _) _
    simp only [Act.put, List.setIfInBounds_toArray, List.set_cons_zero, List.set_cons_succ]
    refine wpAnyH_ready (rs := [9]) (by kernel_rfl) (by simp) ?_
    refine AllReadyH.cons rfl (fun K hK => ?_) AllReadyH.nil
    refine step_any rfl (op_storeWB rfl rfl rfl (b12.ext (by (repeat (first | with_reducible exact Ext.refl _ | with_reducible assumption | refine Ext.trans ?_ (by with_reducible assumption) | refine Ext.alloc ?_ _ _ | refine Ext.drew ?_ | refine Ext.drewN ?_ _)))) (by decide) ?_)
    rintro W13 c13 b13 a13 _ m13
    refine hK.out _ _ ?_ (fun hHeld => ?_)
    · exact Ext.trans_mod HH.out m13 (fun i hi => by have hi2 : i = B12 := hi; rw [hi2]; exact Nat.le_trans (Ext.size (by (repeat (first | with_reducible exact Ext.refl _ | with_reducible assumption | refine Ext.trans ?_ (by with_reducible assumption) | refine Ext.alloc ?_ _ _ | refine Ext.drew ?_ | refine Ext.drewN ?_ _)))) g12)
    clear hK K HH
    have HH : Hid (Ext W0 _) := hHeld
    clear hHeld
    change wpAnyH _ _ _ _ _ _ _ (Act.put _ none _) _
    simp only [Act.put, List.setIfInBounds_toArray, List.set_cons_zero, List.set_cons_succ]
    refine wpAnyH_take (i := 10) (v := ?_) rfl (by kernel_rfl) (by kernel_rfl) (by kernel_rfl) (fun _ _ _ h => h) (Or.inl ⟨by rfl, ?_⟩) HH.out ?_
    rotate_left
    · intro w hSw; go_simp; try with_reducible rfl
    change wpAnyH _ _ _ _ _ _ _ (Act.put _ (some 13) _) _
    simp only [Act.put, List.setIfInBounds_toArray, List.set_cons_zero, List.set_cons_succ]
    refine wpAnyH_done (by kernel_rfl) ?_ _
    exact key B12 W13 c13 ⟨HH.out, b13, a13, Nat.le_trans (Ext.size (by (repeat (first | with_reducible exact Ext.refl _ | with_reducible assumption | refine Ext.trans ?_ (by with_reducible assumption) | refine Ext.alloc ?_ _ _ | refine Ext.drew ?_ | refine Ext.drewN ?_ _)))) g12⟩
    refine step_any rfl (op_allocW rfl ?_)
    rintro B12 W12 c12 e12 b12 _ g12
    refine hK.out _ _ ?_ (fun hHeld => ?_)
    · exact HH.out.trans e12
    clear hK K HH
    have HH : Hid (Ext W0 _) := hHeld
    clear hHeld
    change wpAnyH _ _ _ _ _ _ _ (Act.put _ (some 12) _) _
    simp only [Act.put, List.setIfInBounds_toArray, List.set_cons_zero, List.set_cons_succ]
    refine wpAnyH_ready (rs := [3]) (by kernel_rfl) (by simp) ?_
    refine AllReadyH.cons rfl (fun K hK => ?_) AllReadyH.nil
    go_simp
    go_at_call 92; refine (uFromB h.vLt _).mono ?_; rintro e w23 ⟨rfl, he⟩
    refine hK.out _ _ ?_ (fun hHeld => ?_)
    · first | exact HH.out.trans hmY | exact HH.out.trans he | exact HH.out
    clear hK K HH
    have HH : Hid (Ext W0 _) := hHeld
    clear hHeld
    refine wpAnyH_ready (rs := [4]) (by kernel_rfl) (by simp) ?_
    refine AllReadyH.cons rfl (fun K hK => ?_) AllReadyH.nil
    go_simp
    go_at_call 173; refine (HP _).mono ?_; rintro e w24 ⟨rfl, he⟩
    refine hK.out _ _ ?_ (fun hHeld => ?_)
    · first | exact HH.out.trans hmY | exact HH.out.trans he | exact HH.out
    clear hK K HH
    have HH : Hid (Ext W0 _) := hHeld
    clear hHeld
    refine wpAnyH_take (i := 5) (v := ?_) rfl (by kernel_rfl) (by kernel_rfl) (by kernel_rfl) (fun _ _ _ h => h) (Or.inl ⟨by rfl, ?_⟩) HH.out ?_
    rotate_left
    · intro w hSw; go_simp; try with_reducible rfl
    change wpAnyH _ _ _ _ _ _ _ (Act.put _ (some 124) _) _
    simp only [Act.put, List.setIfInBounds_toArray, List.set_cons_zero, List.set_cons_succ]
    refine wpAnyH_take (i := 6) (v := ?_) rfl (by kernel_rfl) (by kernel_rfl) (by kernel_rfl) (fun _ _ _ h => h) (Or.inl ⟨by rfl, ?_⟩) HH.out ?_
    rotate_left
    · intro w hSw; go_simp; try with_reducible rfl
    change wpAnyH _ _ _ _ _ _ _ (Act.put _ (some 130) _) _
    simp only [Act.put, List.setIfInBounds_toArray, List.set_cons_zero, List.set_cons_succ]
    refine wpAnyH_take (i := 7) (v := ?_) rfl (by kernel_rfl) (by kernel_rfl) (by kernel_rfl) (fun _ _ _ h => h) (Or.inl ⟨by rfl, ?_⟩) HH.out ?_
    rotate_left
    · intro w hSw; go_simp; try with_reducible rfl
    change wpAnyH _ _ _ _ _ _ _ (Act.put _ (some 131) _) _
    simp only [Act.put, List.setIfInBounds_toArray, List.set_cons_zero, List.set_cons_succ]
    refine wpAnyH_ready (rs := [9]) (by kernel_rfl) (by simp) ?_
    refine AllReadyH.cons rfl (fun K hK => ?_) AllReadyH.nil
    refine step_any rfl (op_storeWB rfl rfl rfl (b12.ext (by (repeat (first | with_reducible exact Ext.refl _ | with_reducible assumption | refine Ext.trans ?_ (by with_reducible assumption) | refine Ext.alloc ?_ _ _ | refine Ext.drew ?_ | refine Ext.drewN ?_ _)))) (by decide) ?_)
    rintro W13 c13 b13 a13 _ m13
    refine hK.out _ _ ?_ (fun hHeld => ?_)
    · exact Ext.trans_mod HH.out m13 (fun i hi => by have hi2 : i = B12 := hi; rw [hi2]; exact Nat.le_trans (Ext.size (by (repeat (first | with_reducible exact Ext.refl _ | with_reducible assumption | refine Ext.trans ?_ (by with_reducible assumption) | refine Ext.alloc ?_ _ _ | refine Ext.drew ?_ | refine Ext.drewN ?_ _)))) g12)
    clear hK K HH
    have HH : Hid (Ext W0 _) := hHeld
    clear hHeld
    change wpAnyH _ _ _ _ _ _ _ (Act.put _ none _) _
    simp only [Act.put, List.setIfInBounds_toArray, List.set_cons_zero, List.set_cons_succ]
    refine wpAnyH_take (i := 10) (v := ?_) rfl (by kernel_rfl) (by kernel_rfl) (by kernel_rfl) (fun _ _ _ h => h) (Or.inl ⟨by rfl, ?_⟩) HH.out ?_
    rotate_left
    · intro w hSw; go_simp; try with_reducible rfl
    change wpAnyH _ _ _ _ _ _ _ (Act.put _ (some 13) _) _
    simp only [Act.put, List.setIfInBounds_toArray, List.set_cons_zero, List.set_cons_succ]
    refine wpAnyH_done (by kernel_rfl) ?_ _
    exact key B12 W13 c13 ⟨HH.out, b13, a13, Nat.le_trans (Ext.size (by (repeat (first | with_reducible exact Ext.refl _ | with_reducible assumption | refine Ext.trans ?_ (by with_reducible assumption) | refine Ext.alloc ?_ _ _ | refine Ext.drew ?_ | refine Ext.drewN ?_ _)))) g12⟩
    rintro B12 W13 c13 ⟨eS0, bN, aN, g12⟩
    have eS := hW0.trans eS0
    replace bM := bM.ext eS
    replace bT := bT.ext eS
    replace bB := bB.ext eS
    replace bW := bW.ext eS
    replace bg := bg.ext eS
    replace b1 := b1.ext eS
    replace bR5 := bR5.ext eS
    replace eNow := eNow.trans eS
    clear eS eS0 hW0
    go_upto_region 24 with (fail)
    refine w_ext ?_
    rintro W0 hW0
    refine wp_region_held_drew (S := fun w' => Ext W0 w') (by kernel_rfl) (Ext.refl _).drew (fun hHeld => ?_)
    have HH : Hid (Ext W0 _) := hHeld
    clear hHeld
    refine wpAnyH_take (i := 0) (v := ?_) rfl (by kernel_rfl) (by kernel_rfl) (by kernel_rfl) (fun _ _ _ h => h) (Or.inl ⟨by rfl, ?_⟩) HH.out ?_
    rotate_left
    · intro w hSw; go_simp; try with_reducible rfl
    change wpAnyH _ _ _ _ _ _ _ (Act.put _ (some 133) _) _
    simp only [Act.put, List.setIfInBounds_toArray, List.set_cons_zero, List.set_cons_succ]
    refine wpAnyH_take (i := 1) (v := ?_) rfl (by kernel_rfl) (by kernel_rfl) (by kernel_rfl) (fun _ _ _ h => h) (Or.inl ⟨by rfl, ?_⟩) HH.out ?_
    rotate_left
    · intro w hSw; go_simp; try with_reducible rfl
    change wpAnyH _ _ _ _ _ _ _ (Act.put _ (some 134) _) _
    simp only [Act.put, List.setIfInBounds_toArray, List.set_cons_zero, List.set_cons_succ]
    refine wpAnyH_take (i := 2) (v := undef) rfl (by kernel_rfl) (by kernel_rfl) (by kernel_rfl) (fun _ _ _ h => h) (Or.inr ⟨by rfl, rfl⟩) HH.out ?_
    change wpAnyH _ _ _ _ _ _ _ (Act.put _ (some 135) _) _
    simp only [Act.put, List.setIfInBounds_toArray, List.set_cons_zero, List.set_cons_succ]
    refine wpAnyH_take (i := 3) (v := ?_) rfl (by kernel_rfl) (by kernel_rfl) (by kernel_rfl) (fun _ _ _ h => h) (Or.inl ⟨by rfl, ?_⟩) HH.out ?_
    rotate_left
    · intro w hSw; go_simp; try with_reducible rfl
    change wpAnyH _ _ _ _ _ _ _ (Act.put _ (some 136) _) _
    simp only [Act.put, List.setIfInBounds_toArray, List.set_cons_zero, List.set_cons_succ]
    refine wpAnyH_take (i := 4) (v := ?_) rfl (by kernel_rfl) (by kernel_rfl) (by kernel_rfl) (fun _ _ _ h => h) (Or.inl ⟨by rfl, ?_⟩) HH.out ?_
    rotate_left
    · intro w hSw; go_simp; try with_reducible rfl
    change wpAnyH _ _ _ _ _ _ _ (Act.put _ (some 137) _) _
    simp only [Act.put, List.setIfInBounds_toArray, List.set_cons_zero, List.set_cons_succ]
    refine wpAnyH_take (i := 5) (v := undef) rfl (by kernel_rfl) (by kernel_rfl) (by kernel_rfl) (fun _ _ _ h => h) (Or.inr ⟨by rfl, rfl⟩) HH.out ?_
    change wpAnyH _ _ _ _ _ _ _ (Act.put _ (some 138) _) _
    simp only [Act.put, List.setIfInBounds_toArray, List.set_cons_zero, List.set_cons_succ]
    refine wpAnyH_take (i := 6) (v := undef) rfl (by kernel_rfl) (by kernel_rfl) (by kernel_rfl) (fun _ _ _ h => h) (Or.inr ⟨by rfl, rfl⟩) HH.out ?_
    change wpAnyH _ _ _ _ _ _ _ (Act.put _ (some 139) _) _
    simp only [Act.put, List.setIfInBounds_toArray, List.set_cons_zero, List.set_cons_succ]
    refine wpAnyH_take (i := 7) (v := undef) rfl (by kernel_rfl) (by kernel_rfl) (by kernel_rfl) (fun _ _ _ h => h) (Or.inr ⟨by rfl, rfl⟩) HH.out ?_
    change wpAnyH _ _ _ _ _ _ _ (Act.put _ (some 140) _) _
    simp only [Act.put, List.setIfInBounds_toArray, List.set_cons_zero, List.set_cons_succ]
    refine wpAnyH_take (i := 8) (v := undef) rfl (by kernel_rfl) (by kernel_rfl) (by kernel_rfl) (fun _ _ _ h => h) (Or.inr ⟨by rfl, rfl⟩) HH.out ?_
    change wpAnyH _ _ _ _ _ _ _ (Act.put _ (some 141) _) _
    simp only [Act.put, List.setIfInBounds_toArray, List.set_cons_zero, List.set_cons_succ]
    refine wpAnyH_take (i := 9) (v := undef) rfl (by kernel_rfl) (by kernel_rfl) (by kernel_rfl) (fun _ _ _ h => h) (Or.inr ⟨by rfl, rfl⟩) HH.out ?_
    change wpAnyH _ _ _ _ _ _ _ (Act.put _ (some 142) _) _
    simp only [Act.put, List.setIfInBounds_toArray, List.set_cons_zero, List.set_cons_succ]
    refine wpAnyH_take (i := 10) (v := undef) rfl (by kernel_rfl) (by kernel_rfl) (by kernel_rfl) (fun _ _ _ h => h) (Or.inr ⟨by rfl, rfl⟩) HH.out ?_
    change wpAnyH _ _ _ _ _ _ _ (Act.put _ (some 143) _) _
    simp only [Act.put, List.setIfInBounds_toArray, List.set_cons_zero, List.set_cons_succ]
    refine wpAnyH_take (i := 11) (v := undef) rfl (by kernel_rfl) (by kernel_rfl) (by kernel_rfl) (fun _ _ _ h => h) (Or.inr ⟨by rfl, rfl⟩) HH.out ?_
    change wpAnyH _ _ _ _ _ _ _ (Act.put _ (some 144) _) _
    simp only [Act.put, List.setIfInBounds_toArray, List.set_cons_zero, List.set_cons_succ]
    refine wpAnyH_take (i := 12) (v := undef) rfl (by kernel_rfl) (by kernel_rfl) (by kernel_rfl) (fun _ _ _ h => h) (Or.inr ⟨by rfl, rfl⟩) HH.out ?_
    change wpAnyH _ _ _ _ _ _ _ (Act.put _ (some 145) _) _
    simp only [Act.put, List.setIfInBounds_toArray, List.set_cons_zero, List.set_cons_succ]
    refine wpAnyH_take (i := 13) (v := undef) rfl (by kernel_rfl) (by kernel_rfl) (by kernel_rfl) (fun _ _ _ h => h) (Or.inr ⟨by rfl, rfl⟩) HH.out ?_
    change wpAnyH _ _ _ _ _ _ _ (Act.put _ (some 146) _) _
    simp only [Act.put, List.setIfInBounds_toArray, List.set_cons_zero, List.set_cons_succ]
    refine wpAnyH_take (i := 14) (v := ?_) rfl (by kernel_rfl) (by kernel_rfl) (by kernel_rfl) (fun _ _ _ h => h) (Or.inl ⟨by rfl, ?_⟩) HH.out ?_
    rotate_left
    · intro w hSw; go_simp; try with_reducible rfl
    change wpAnyH _ _ _ _ _ _ _ (Act.put _ (some 147) _) _
    simp only [Act.put, List.setIfInBounds_toArray, List.set_cons_zero, List.set_cons_succ]
    refine wpAnyH_take (i := 15) (v := ?_) rfl (by kernel_rfl) (by kernel_rfl) (by kernel_rfl) (fun _ _ _ h => h) (Or.inl ⟨by rfl, ?_⟩) HH.out ?_
    rotate_left
    · intro w hSw; go_simp; try with_reducible rfl
    change wpAnyH _ _ _ _ _ _ _ (Act.put _ (some 132) _) _
    simp only [Act.put, List.setIfInBounds_toArray, List.set_cons_zero, List.set_cons_succ]
    refine wpAnyH_done (by kernel_rfl) ?_ _
    have eS := hW0.trans HH.out
    replace bg := bg.ext eS
    replace b1 := b1.ext eS
    replace bR5 := bR5.ext eS
    replace eNow := eNow.trans eS
    clear eS HH hW0
    go_upto_region 25 with (fail)
    refine w_ext ?_
    rintro W0 hW0
    refine wp_region_held_drew (S := fun w' => (Ext w (w') ∧ Blk (w') B5 4 79 cR5)) (by kernel_rfl) ⟨(eNow.trans hW0).drew, (bR5.ext hW0).drew⟩ (fun hHeld => ?_)
    have HH : Hid ((Ext w (_) ∧ Blk (_) B5 4 79 cR5)) := hHeld
    clear hHeld
    refine wpAnyH_take (i := 0) rfl (by kernel_rfl) (by kernel_rfl) (by kernel_rfl) (fun _ _ _ h => h) (yields_row rt66 (by rfl) rfl rfl (fun W hW => hW.2) (by decide)) HH.out ?_
    change wpAnyH _ _ _ _ _ _ _ (Act.put _ (some 148) _) _
    simp only [Act.put, List.setIfInBounds_toArray, List.set_cons_zero, List.set_cons_succ]
    refine wpAnyH_take (i := 1) (v := ?_) rfl (by kernel_rfl) (by kernel_rfl) (by kernel_rfl) (fun _ _ _ h => h) (Or.inl ⟨by rfl, ?_⟩) HH.out ?_
    rotate_left
    · intro w hSw; go_simp; try with_reducible rfl
    change wpAnyH _ _ _ _ _ _ _ (Act.put _ (some 4) _) _
    simp only [Act.put, List.setIfInBounds_toArray, List.set_cons_zero, List.set_cons_succ]
    refine wpAnyH_ready (rs := [2]) (by kernel_rfl) (by simp) ?_
    refine AllReadyH.cons rfl (fun K hK => ?_) AllReadyH.nil
    refine step_any rfl (op_storeRow rfl rt66 rfl rfl (rowOf_size _ _ _) (ones5 aR5) HH.out.2 (by decide) ?_)
    rintro W14 b14 m14
    refine hK.out _ _ ⟨Ext.trans_mod HH.out.1 m14 (fun q hq => by have hq2 : q = B5 := hq; rw [hq2]; exact g5w), b14.laySelf⟩ (fun hHeld => ?_)
    clear hK K HH
    have HH : Hid ((Ext w (_) ∧ Blk (_) B5 4 79 cR5)) := hHeld
    clear hHeld
    change wpAnyH _ _ _ _ _ _ _ (Act.put _ none _) _
    simp only [Act.put, List.setIfInBounds_toArray, List.set_cons_zero, List.set_cons_succ]
    refine wpAnyH_done (by kernel_rfl) ?_ _
    go_wp2
    refine post_tW rfl rfl rfl HH.out.2 aR5 (by decide) rfl ?_
    first | exact ⟨_, rfl, HH.out.1⟩ | exact HH.out.1 | exact ⟨⟨_, rfl⟩, HH.out.1⟩
  · have z7 : ¬ (512 : Int) < dl := fun q => h7 ⟨rfl, by omega⟩
    clear h7
    have bg := h.blk
    obtain ⟨ka, hka, hap⟩ := h.applied
    have hkai : (ka : Int) < 4 := by omega
    obtain ⟨dp, dc, hdv, hd1, hd2⟩ := h.data
    go_enter Hvah.func99, Hvah.ntmps99
    go_upto_region 5 with (first
      | ((with_reducible (refine Veil.out ?_; apply wl_boxB)); (case hx => rfl); (case hn => exact h.sz); rintro B1 W1 e1 b1 g1) | ((with_reducible (refine Veil.out ?_; apply wl_allocW)); rintro B5 W5 cR5 e5 b5 a5 g5)
      | ((with_reducible (refine Veil.out ?_; apply wl_loadB one5i (i := 2404))); (case hx => rfl); (case hB => exact bg.ext (e1.trans e5)); (case hi => decide); rw [h.phase])
      | ((with_reducible (refine Veil.out ?_; apply wl_loadB one5i (i := 2406))); (case hx => rfl); (case hB => exact bg.ext (e1.trans e5)); (case hi => decide); rw [hap])
      | ((with_reducible (refine Veil.out ?_; apply wlG_loadB onet60v)); (case hw => go_simp); (case hx => rfl); (case hB => exact bg.ext (e1.trans e5)); (case hi => decide); rw [h.ptr]))
    have eNow : Ext w W5 := e1.trans e5
    replace bg := bg.ext eNow
    replace b1 := b1.ext e5
    have g5w : w.heap.size ≤ B5 := Nat.le_trans e1.size g5
    have bR5 := b5
    have aR5 := a5
    clear e1 e5 b5 a5 g1 g5
    go_upto_region 7 with (first | ((with_reducible (refine Veil.out ?_; apply wl_loadB one26i)); (case hx => rfl); (case hB => exact b1); (case hi => decide); rw [h.hgas]) | ((with_reducible (refine Veil.out ?_; apply wlG_loadB one32i)); (case hw => go_simp); (case hx => rfl); (case hB => exact b1); (case hi => decide); rw [hdv]) | (go_at_call 131; refine (h.HL _ eNow B1 b1).mono ?_; rintro e w6 ⟨rfl, e6⟩))
    replace bg := bg.ext e6
    replace b1 := b1.ext e6
    replace bR5 := bR5.ext e6
    replace eNow := eNow.trans e6
    go_upto_region 7 with (fail)
    refine w_ext ?_
    rintro W0 hW0
    refine wp_region_held_drew (S := fun w' => Ext W0 w') (by kernel_rfl) (Ext.refl _).drew (fun hHeld => ?_)
    have HH : Hid (Ext W0 _) := hHeld
    clear hHeld
    refine wpAnyH_take (i := 0) (v := ?_) rfl (by kernel_rfl) (by kernel_rfl) (by kernel_rfl) (fun _ _ _ h => h) (Or.inl ⟨by rfl, ?_⟩) HH.out ?_
    rotate_left
    · intro w hSw; go_simp; try with_reducible rfl
    change wpAnyH _ _ _ _ _ _ _ (Act.put _ (some 50) _) _
    simp only [Act.put, List.setIfInBounds_toArray, List.set_cons_zero, List.set_cons_succ]
    refine wpAnyH_take (i := 1) (v := ?_) rfl (by kernel_rfl) (by kernel_rfl) (by kernel_rfl) (fun _ _ _ h => h) (Or.inl ⟨by rfl, ?_⟩) HH.out ?_
    rotate_left
    · intro w hSw; go_simp; try with_reducible rfl
    change wpAnyH _ _ _ _ _ _ _ (Act.put _ (some 51) _) _
    simp only [Act.put, List.setIfInBounds_toArray, List.set_cons_zero, List.set_cons_succ]
    refine wpAnyH_take (i := 2) (v := ?_) rfl (by kernel_rfl) (by kernel_rfl) (by kernel_rfl) (fun _ _ _ h => h) (Or.inl ⟨by rfl, ?_⟩) HH.out ?_
    rotate_left
    · intro w hSw; go_simp; try with_reducible rfl
    change wpAnyH _ _ _ _ _ _ _ (Act.put _ (some 52) _) _
    simp only [Act.put, List.setIfInBounds_toArray, List.set_cons_zero, List.set_cons_succ]
    refine wpAnyH_take (i := 3) rfl (by kernel_rfl) (by kernel_rfl) (by kernel_rfl) (fun _ _ _ h => h) (yieldsIf_load1 (by rfl) _ _ rfl _ _ rfl onet60v _ (fun w hSw => by rw [(bg.ext (hW0.trans hSw)).cell (by decide), h.ptr])) HH.out ?_
    change wpAnyH _ _ _ _ _ _ _ (Act.put _ (some 53) _) _
    simp only [Act.put, List.setIfInBounds_toArray, List.set_cons_zero, List.set_cons_succ]
    refine wpAnyH_take (i := 4) (v := ?_) rfl (by kernel_rfl) (by kernel_rfl) (by kernel_rfl) (fun _ _ _ h => h) (Or.inl ⟨by rfl, ?_⟩) HH.out ?_
    rotate_left
    · intro w hSw; go_simp; try with_reducible rfl
    change wpAnyH _ _ _ _ _ _ _ (Act.put _ (some 54) _) _
    simp only [Act.put, List.setIfInBounds_toArray, List.set_cons_zero, List.set_cons_succ]
    refine wpAnyH_take (i := 5) rfl (by kernel_rfl) (by kernel_rfl) (by kernel_rfl) (fun _ _ _ h => h) (yields_A (by rfl) rfl rfl (fun w hSw => b1.ext (hW0.trans hSw)) h.from_ h.aLt (by decide)) HH.out ?_
    change wpAnyH _ _ _ _ _ _ _ (Act.put _ (some 55) _) _
    simp only [Act.put, List.setIfInBounds_toArray, List.set_cons_zero, List.set_cons_succ]
    refine wpAnyH_ready (rs := [6]) (by kernel_rfl) (by simp) ?_
    refine AllReadyH.cons rfl (fun K hK => ?_) AllReadyH.nil
    go_simp
    go_at_call 170; refine (h.HN _ (eNow.trans (hW0.trans HH.out))).mono ?_; rintro e w7 ⟨rfl, he⟩
    refine hK.out _ _ ?_ (fun hHeld => ?_)
    · first | exact HH.out.trans hmY | exact HH.out.trans he | exact HH.out
    clear hK K HH
    have HH : Hid (Ext W0 _) := hHeld
    clear hHeld
    refine wpAnyH_take (i := 7) (v := ?_) rfl (by kernel_rfl) (by kernel_rfl) (by kernel_rfl) (fun _ _ _ h => h) (Or.inl ⟨by rfl, ?_⟩) HH.out ?_
    rotate_left
    · intro w hSw; go_simp; try with_reducible rfl
    change wpAnyH _ _ _ _ _ _ _ (Act.put _ (some 6) _) _
    simp only [Act.put, List.setIfInBounds_toArray, List.set_cons_zero, List.set_cons_succ]
    refine wpAnyH_done (by kernel_rfl) ?_ _
    have eS : Ext _ w7 := hW0.trans HH.out
    replace bg := bg.ext eS
    replace b1 := b1.ext eS
    replace bR5 := bR5.ext eS
    replace eNow := eNow.trans eS
    clear eS HH hW0
    go_upto_region 12 with (first | ((with_reducible (refine Veil.out ?_; apply wl_loadB one26i)); (case hx => rfl); (case hB => exact b1); (case hi => decide); rw [h.nonce]))
    refine w_ext ?_
    rintro W0 hW0
    refine wp_region_held_drew (S := fun w' => Ext W0 w') (by kernel_rfl) (Ext.refl _).drew (fun hHeld => ?_)
    have HH : Hid (Ext W0 _) := hHeld
    clear hHeld
    refine wpAnyH_take (i := 0) (v := ?_) rfl (by kernel_rfl) (by kernel_rfl) (by kernel_rfl) (fun _ _ _ h => h) (Or.inl ⟨by rfl, ?_⟩) HH.out ?_
    rotate_left
    · intro w hSw; go_simp; try with_reducible rfl
    change wpAnyH _ _ _ _ _ _ _ (Act.put _ (some 68) _) _
    simp only [Act.put, List.setIfInBounds_toArray, List.set_cons_zero, List.set_cons_succ]
    refine wpAnyH_take (i := 1) (v := ?_) rfl (by kernel_rfl) (by kernel_rfl) (by kernel_rfl) (fun _ _ _ h => h) (Or.inl ⟨by rfl, ?_⟩) HH.out ?_
    rotate_left
    · intro w hSw; go_simp; try with_reducible rfl
    change wpAnyH _ _ _ _ _ _ _ (Act.put _ (some 69) _) _
    simp only [Act.put, List.setIfInBounds_toArray, List.set_cons_zero, List.set_cons_succ]
    refine wpAnyH_take (i := 2) (v := ?_) rfl (by kernel_rfl) (by kernel_rfl) (by kernel_rfl) (fun _ _ _ h => h) (Or.inl ⟨by rfl, ?_⟩) HH.out ?_
    rotate_left
    · intro w hSw; go_simp; try with_reducible rfl
    change wpAnyH _ _ _ _ _ _ _ (Act.put _ (some 70) _) _
    simp only [Act.put, List.setIfInBounds_toArray, List.set_cons_zero, List.set_cons_succ]
    refine wpAnyH_take (i := 3) rfl (by kernel_rfl) (by kernel_rfl) (by kernel_rfl) (fun _ _ _ h => h) (yieldsIf_load1 (by rfl) _ _ rfl _ _ rfl onet60v _ (fun w hSw => by rw [(bg.ext (hW0.trans hSw)).cell (by decide), h.ptr])) HH.out ?_
    change wpAnyH _ _ _ _ _ _ _ (Act.put _ (some 71) _) _
    simp only [Act.put, List.setIfInBounds_toArray, List.set_cons_zero, List.set_cons_succ]
    refine wpAnyH_take (i := 4) (v := ?_) rfl (by kernel_rfl) (by kernel_rfl) (by kernel_rfl) (fun _ _ _ h => h) (Or.inl ⟨by rfl, ?_⟩) HH.out ?_
    rotate_left
    · intro w hSw; go_simp; try with_reducible rfl
    change wpAnyH _ _ _ _ _ _ _ (Act.put _ (some 72) _) _
    simp only [Act.put, List.setIfInBounds_toArray, List.set_cons_zero, List.set_cons_succ]
    refine wpAnyH_take (i := 5) rfl (by kernel_rfl) (by kernel_rfl) (by kernel_rfl) (fun _ _ _ h => h) (yields_A (by rfl) rfl rfl (fun w hSw => b1.ext (hW0.trans hSw)) h.from_ h.aLt (by decide)) HH.out ?_
    change wpAnyH _ _ _ _ _ _ _ (Act.put _ (some 73) _) _
    simp only [Act.put, List.setIfInBounds_toArray, List.set_cons_zero, List.set_cons_succ]
    refine wpAnyH_ready (rs := [6]) (by kernel_rfl) (by simp) ?_
    refine AllReadyH.cons rfl (fun K hK => ?_) AllReadyH.nil
    go_simp
    go_at_call 112; refine (h.HC _ (eNow.trans (hW0.trans HH.out))).mono ?_; rintro e w12 ⟨co, cc, rfl, hcl9, he⟩
    refine hK.out _ _ ?_ (fun hHeld => ?_)
    · first | exact HH.out.trans hmY | exact HH.out.trans he | exact HH.out
    clear hK K HH
    have HH : Hid (Ext W0 _) := hHeld
    clear hHeld
    refine wpAnyH_take (i := 7) (v := ?_) rfl (by kernel_rfl) (by kernel_rfl) (by kernel_rfl) (fun _ _ _ h => h) (Or.inl ⟨by rfl, ?_⟩) HH.out ?_
    rotate_left
    · intro w hSw; go_simp; try with_reducible rfl
    change wpAnyH _ _ _ _ _ _ _ (Act.put _ (some 75) _) _
    simp only [Act.put, List.setIfInBounds_toArray, List.set_cons_zero, List.set_cons_succ]
    refine wpAnyH_take (i := 8) (v := ?_) rfl (by kernel_rfl) (by kernel_rfl) (by kernel_rfl) (fun _ _ _ h => h) (Or.inl ⟨by rfl, ?_⟩) HH.out ?_
    rotate_left
    · intro w hSw; go_simp; try with_reducible rfl
    change wpAnyH _ _ _ _ _ _ _ (Act.put _ (some 76) _) _
    simp only [Act.put, List.setIfInBounds_toArray, List.set_cons_zero, List.set_cons_succ]
    refine wpAnyH_take (i := 9) (v := ?_) rfl (by kernel_rfl) (by kernel_rfl) (by kernel_rfl) (fun _ _ _ h => h) (Or.inl ⟨by rfl, ?_⟩) HH.out ?_
    rotate_left
    · intro w hSw; go_simp; try with_reducible rfl
    change wpAnyH _ _ _ _ _ _ _ (Act.put _ (some 67) _) _
    simp only [Act.put, List.setIfInBounds_toArray, List.set_cons_zero, List.set_cons_succ]
    refine wpAnyH_done (by kernel_rfl) ?_ _
    have eS : Ext _ w12 := hW0.trans HH.out
    replace bg := bg.ext eS
    replace b1 := b1.ext eS
    replace bR5 := bR5.ext eS
    replace eNow := eNow.trans eS
    clear eS HH hW0
    go_upto_region 16 with (first | ((with_reducible (refine Veil.out ?_; apply wl_loadB one4i)); (case hx => rfl); (case hB => exact b1); (case hi => decide); rw [h.create]) | ((with_reducible (refine Veil.out ?_; apply wlG_loadB one32i)); (case hw => go_simp); (case hx => rfl); (case hB => exact b1); (case hi => decide); rw [hdv]))
    refine w_ext ?_
    rintro W0 hW0
    refine wp_region_held_drew (S := fun w' => Ext W0 w') (by kernel_rfl) (Ext.refl _).drew (fun hHeld => ?_)
    have HH : Hid (Ext W0 _) := hHeld
    clear hHeld
    refine wpAnyH_take (i := 0) (v := ?_) rfl (by kernel_rfl) (by kernel_rfl) (by kernel_rfl) (fun _ _ _ h => h) (Or.inl ⟨by rfl, ?_⟩) HH.out ?_
    rotate_left
    · intro w hSw; go_simp; try with_reducible rfl
    change wpAnyH _ _ _ _ _ _ _ (Act.put _ (some 89) _) _
    simp only [Act.put, List.setIfInBounds_toArray, List.set_cons_zero, List.set_cons_succ]
    refine wpAnyH_take (i := 1) rfl (by kernel_rfl) (by kernel_rfl) (by kernel_rfl) (fun _ _ _ h => h) (yieldsIf_load1 (by rfl) _ _ rfl _ _ rfl one26i _ (fun w hSw => by rw [(b1.ext (hW0.trans hSw)).cell (by decide), h.hgas])) HH.out ?_
    change wpAnyH _ _ _ _ _ _ _ (Act.put _ (some 90) _) _
    simp only [Act.put, List.setIfInBounds_toArray, List.set_cons_zero, List.set_cons_succ]
    refine wpAnyH_take (i := 2) rfl (by kernel_rfl) (by kernel_rfl) (by kernel_rfl) (fun _ _ _ h => h) (cast_row rt35v (by rfl) rfl rfl (fun w hSw => b1.ext (hW0.trans hSw)) h.sz) HH.out ?_
    change wpAnyH _ _ _ _ _ _ _ (Act.put _ (some 91) _) _
    simp only [Act.put, List.setIfInBounds_toArray, List.set_cons_zero, List.set_cons_succ]
    refine wpAnyH_ready (rs := [3]) (by kernel_rfl) (by simp) ?_
    refine AllReadyH.cons rfl (fun K hK => ?_) AllReadyH.nil
    go_simp
    go_at_call 103; refine (h.HI hdl rfl _ (eNow.trans (hW0.trans HH.out))).mono ?_; rintro e w16 ⟨rfl, he⟩
    refine hK.out _ _ ?_ (fun hHeld => ?_)
    · first | exact HH.out.trans hmY | exact HH.out.trans he | exact HH.out
    clear hK K HH
    have HH : Hid (Ext W0 _) := hHeld
    clear hHeld
    refine wpAnyH_take (i := 4) (v := ?_) rfl (by kernel_rfl) (by kernel_rfl) (by kernel_rfl) (fun _ _ _ h => h) (Or.inl ⟨by rfl, ?_⟩) HH.out ?_
    rotate_left
    · intro w hSw; go_simp; try with_reducible rfl
    change wpAnyH _ _ _ _ _ _ _ (Act.put _ (some 93) _) _
    simp only [Act.put, List.setIfInBounds_toArray, List.set_cons_zero, List.set_cons_succ]
    refine wpAnyH_take (i := 5) (v := ?_) rfl (by kernel_rfl) (by kernel_rfl) (by kernel_rfl) (fun _ _ _ h => h) (Or.inl ⟨by rfl, ?_⟩) HH.out ?_
    rotate_left
    · intro w hSw; go_simp; try with_reducible rfl
    change wpAnyH _ _ _ _ _ _ _ (Act.put _ (some 88) _) _
    simp only [Act.put, List.setIfInBounds_toArray, List.set_cons_zero, List.set_cons_succ]
    refine wpAnyH_done (by kernel_rfl) ?_ _
    have eS : Ext _ w16 := hW0.trans HH.out
    replace bg := bg.ext eS
    replace b1 := b1.ext eS
    replace bR5 := bR5.ext eS
    replace eNow := eNow.trans eS
    clear eS HH hW0
    go_upto_region 18 with (fail)
    refine w_ext ?_
    rintro W0 hW0
    refine wp_region_held_drew (S := fun w' => Ext W0 w') (by kernel_rfl) (Ext.refl _).drew (fun hHeld => ?_)
    have HH : Hid (Ext W0 _) := hHeld
    clear hHeld
    refine wpAnyH_take (i := 0) (v := ?_) rfl (by kernel_rfl) (by kernel_rfl) (by kernel_rfl) (fun _ _ _ h => h) (Or.inl ⟨by rfl, ?_⟩) HH.out ?_
    rotate_left
    · intro w hSw; go_simp; try with_reducible rfl
    change wpAnyH _ _ _ _ _ _ _ (Act.put _ (some 96) _) _
    simp only [Act.put, List.setIfInBounds_toArray, List.set_cons_zero, List.set_cons_succ]
    refine wpAnyH_take (i := 1) rfl (by kernel_rfl) (by kernel_rfl) (by kernel_rfl) (fun _ _ _ h => h) (yieldsIf_load1 (by rfl) _ _ rfl _ _ rfl one26i _ (fun w hSw => by rw [(b1.ext (hW0.trans hSw)).cell (by decide), h.hgas])) HH.out ?_
    change wpAnyH _ _ _ _ _ _ _ (Act.put _ (some 97) _) _
    simp only [Act.put, List.setIfInBounds_toArray, List.set_cons_zero, List.set_cons_succ]
    refine wpAnyH_take (i := 2) (v := ?_) rfl (by kernel_rfl) (by kernel_rfl) (by kernel_rfl) (fun _ _ _ h => h) (Or.inl ⟨by rfl, ?_⟩) HH.out ?_
    rotate_left
    · intro w hSw; go_simp; try with_reducible rfl
    change wpAnyH _ _ _ _ _ _ _ (Act.put _ (some 98) _) _
    simp only [Act.put, List.setIfInBounds_toArray, List.set_cons_zero, List.set_cons_succ]
    refine wpAnyH_take (i := 3) (v := ?_) rfl (by kernel_rfl) (by kernel_rfl) (by kernel_rfl) (fun _ _ _ h => h) (Or.inl ⟨by rfl, ?_⟩) HH.out ?_
    rotate_left
    · intro w hSw; go_simp; try with_reducible rfl
    change wpAnyH _ _ _ _ _ _ _ (Act.put _ (some 99) _) _
    simp only [Act.put, List.setIfInBounds_toArray, List.set_cons_zero, List.set_cons_succ]
    refine wpAnyH_take (i := 4) (v := ?_) rfl (by kernel_rfl) (by kernel_rfl) (by kernel_rfl) (fun _ _ _ h => h) (Or.inl ⟨by rfl, ?_⟩) HH.out ?_
    rotate_left
    · intro w hSw; go_simp; try with_reducible rfl
    change wpAnyH _ _ _ _ _ _ _ (Act.put _ (some 100) _) _
    simp only [Act.put, List.setIfInBounds_toArray, List.set_cons_zero, List.set_cons_succ]
    refine wpAnyH_take (i := 5) (v := ?_) rfl (by kernel_rfl) (by kernel_rfl) (by kernel_rfl) (fun _ _ _ h => h) (Or.inl ⟨by rfl, ?_⟩) HH.out ?_
    rotate_left
    · intro w hSw; go_simp; try with_reducible rfl
    change wpAnyH _ _ _ _ _ _ _ (Act.put _ (some 101) _) _
    simp only [Act.put, List.setIfInBounds_toArray, List.set_cons_zero, List.set_cons_succ]
    refine wpAnyH_take (i := 6) rfl (by kernel_rfl) (by kernel_rfl) (by kernel_rfl) (fun _ _ _ h => h) (yieldsIf_load1 (by rfl) _ _ rfl _ _ rfl one26i _ (fun w hSw => by rw [(bg.ext (hW0.trans hSw)).cell (by decide), h.gasLimit])) HH.out ?_
    change wpAnyH _ _ _ _ _ _ _ (Act.put _ (some 102) _) _
    simp only [Act.put, List.setIfInBounds_toArray, List.set_cons_zero, List.set_cons_succ]
    refine wpAnyH_take (i := 7) (v := ?_) rfl (by kernel_rfl) (by kernel_rfl) (by kernel_rfl) (fun _ _ _ h => h) (Or.inl ⟨by rfl, ?_⟩) HH.out ?_
    rotate_left
    · intro w hSw; go_simp; try with_reducible rfl
    change wpAnyH _ _ _ _ _ _ _ (Act.put _ (some 103) _) _
    simp only [Act.put, List.setIfInBounds_toArray, List.set_cons_zero, List.set_cons_succ]
    refine wpAnyH_take (i := 8) (v := ?_) rfl (by kernel_rfl) (by kernel_rfl) (by kernel_rfl) (fun _ _ _ h => h) (Or.inl ⟨by rfl, ?_⟩) HH.out ?_
    rotate_left
    · intro w hSw; go_simp; try with_reducible rfl
    change wpAnyH _ _ _ _ _ _ _ (Act.put _ (some 95) _) _
    simp only [Act.put, List.setIfInBounds_toArray, List.set_cons_zero, List.set_cons_succ]
    refine wpAnyH_done (by kernel_rfl) ?_ _
    have eS := hW0.trans HH.out
    replace bg := bg.ext eS
    replace b1 := b1.ext eS
    replace bR5 := bR5.ext eS
    replace eNow := eNow.trans eS
    clear eS HH hW0
    go_upto_region 21 with (first
      | ((with_reducible (refine Veil.out ?_; apply wl_loadRow rt35v)); (case hx => rfl); (case hB => exact b1); (case hi => decide); rw [rowOf_cf h.sz])
      | (go_at_call 171; refine (h.HF _ eNow).mono ?_; rintro e w20 ⟨rfl, e20⟩)
      | ((with_reducible (refine Veil.out ?_; apply wl_allocW)); rintro B7 W7 c7 e7 b7 _ g7; (with_reducible (refine Veil.out ?_; apply wl_allocW)); rintro B8 W8 c8 e8 b8 _ g8)
      | ((with_reducible (refine Veil.out ?_; apply wl_storeWB (v := most))); (case hx => rfl); (case hy => rfl); (case hB => exact b7.ext e8); (case hi => decide); rintro W9 c9 b9 a9 _ m9)
      | ((with_reducible (refine Veil.out ?_; apply wl_storeWB (v := tip))); (case hx => rfl); (case hy => rfl); (case hB => exact b8.mod m9 (fun q => by have q2 : B8 = B7 := q; have := b7.lt; omega)); (case hi => decide); rintro W10 c10 b10 a10 _ m10))
    have n87 : ¬ B7 = B8 := fun q => by have := b7.lt; omega
    have e21 : Ext w20 W10 := Ext.trans_mod (Ext.trans_mod (e7.trans e8) m9 (fun q hq => by have hq2 : q = B7 := hq; rw [hq2]; exact g7)) m10 (fun q hq => by have hq2 : q = B8 := hq; rw [hq2]; exact Nat.le_trans e7.size g8)
    have eS := e20.trans e21
    have bM := b9.mod m10 n87
    have bT := b10
    have aM := a9
    have aT := a10
    clear b7 b8 b9 b10 m9 m10 e7 e8 e20 e21 g7 g8 n87 a9 a10
    replace bg := bg.ext eS
    replace b1 := b1.ext eS
    replace bR5 := bR5.ext eS
    replace eNow := eNow.trans eS
    clear eS
    go_upto_region 22 with (first
      | ((with_reducible (refine Veil.out ?_; apply wl_loadRow rt28 (b := g))); (case hx => rfl); (case hB => exact bg); (case hi => decide); rw [rowOf_bw h.hbase h.bLt])
      | (go_at_call 92; refine (uFromB h.bLt _).mono ?_; rintro e w20 ⟨rfl, e20⟩)
      | ((with_reducible (refine Veil.out ?_; apply wl_allocW)); rintro B9 W7 c7 e7 b7 _ g7)
      | ((with_reducible (refine Veil.out ?_; apply wl_storeWB (v := base))); (case hx => rfl); (case hy => rfl); (case hB => exact b7); (case hi => decide); rintro W9 c9 b9 a9 _ m9))
    have eS : Ext _ W9 := Ext.trans_mod (e20.trans e7) m9 (fun q hq => by have hq2 : q = B9 := hq; rw [hq2]; exact Nat.le_trans e20.size g7)
    have bB := b9
    have aB := a9
    clear b7 b9 m9 e7 e20 g7 a9
    replace bM := bM.ext eS
    replace bT := bT.ext eS
    replace bg := bg.ext eS
    replace b1 := b1.ext eS
    replace bR5 := bR5.ext eS
    replace eNow := eNow.trans eS
    clear eS
    go_upto_region 23 with (first
      | ((with_reducible (refine Veil.out ?_; apply wl_loadB one26i)); (case hx => rfl); (case hB => exact b1); (case hi => decide); rw [h.hgas])
      | ((with_reducible (refine Veil.out ?_; apply wl_loadWB (b := B7))); (case hx => rfl); (case hB => exact bM); (case hW => exact aM); (case hi => decide))
      | (go_at_call 172; refine (HM _).mono ?_; rintro e w20 ⟨rfl, e20⟩)
      | ((with_reducible (refine Veil.out ?_; apply wl_allocW)); rintro B10 W7 c7 e7 b7 _ g7)
      | ((with_reducible (refine Veil.out ?_; apply wl_storeWB (v := wm))); (case hx => rfl); (case hy => rfl); (case hB => exact b7); (case hi => decide); rintro W9 c9 b9 a9 _ m9))
    have eS : Ext _ W9 := Ext.trans_mod (e20.trans e7) m9 (fun q hq => by have hq2 : q = B10 := hq; rw [hq2]; exact Nat.le_trans e20.size g7)
    have bW := b9
    have aW := a9
    clear b7 b9 m9 e7 e20 g7 a9
    replace bM := bM.ext eS
    replace bT := bT.ext eS
    replace bB := bB.ext eS
    replace bg := bg.ext eS
    replace b1 := b1.ext eS
    replace bR5 := bR5.ext eS
    replace eNow := eNow.trans eS
    clear eS
    refine w_ext ?_
    rintro W0 hW0
    refine' joinB (P := _) (Fc := fun B W1 c1 => Ext W0 W1 ∧ Blk W1 B 4 79 c1 ∧ WAt c1 0 (nd) ∧ W0.heap.size ≤ B) (fun key => _) _
    rotate_left
    refine wp_region_held_drew (S := fun w' => Ext W0 w') (by kernel_rfl) (Ext.refl _).drew (fun hHeld => ?_)
    have HH : Hid (Ext W0 _) := hHeld
    clear hHeld
    refine wpAnyH_take (i := 0) rfl (by kernel_rfl) (by kernel_rfl) (by kernel_rfl) (fun _ _ _ h => h) (yields_W (by rfl) rfl rfl (fun w hSw => bW.ext (hW0.trans hSw)) aW (by decide)) HH.out ?_
    change wpAnyH _ _ _ _ _ _ _ (Act.put _ (some 125) _) _
    simp only [Act.put, List.setIfInBounds_toArray, List.set_cons_zero, List.set_cons_succ]
    refine wpAnyH_take (i := 1) (v := ?_) rfl (by kernel_rfl) (by kernel_rfl) (by kernel_rfl) (fun _ _ _ h => h) (Or.inl ⟨by rfl, ?_⟩) HH.out ?_
    rotate_left
    · intro w hSw; go_simp; try with_reducible rfl
    change wpAnyH _ _ _ _ _ _ _ (Act.put _ (some 126) _) _
    simp only [Act.put, List.setIfInBounds_toArray, List.set_cons_zero, List.set_cons_succ]
    refine wpAnyH_take (i := 2) rfl (by kernel_rfl) (by kernel_rfl) (by kernel_rfl) (fun _ _ _ h => h) (yields_B (by rfl) rfl rfl (fun w hSw => b1.ext (hW0.trans hSw)) h.value h.vLt (by decide)) HH.out ?_
    change wpAnyH _ _ _ _ _ _ _ (Act.put _ (some 127) _) _
    simp only [Act.put, List.setIfInBounds_toArray, List.set_cons_zero, List.set_cons_succ]
    refine wpAnyH_ready (rs := [3, 8]) (by kernel_rfl) (by simp) ?_
    refine (AllReadyH.cons rfl (fun K hK => ?_) (AllReadyH.cons rfl (fun K hK => ?_) AllReadyH.nil))
    go_simp
    go_at_call 92; refine (uFromB h.vLt _).mono ?_; rintro e w23 ⟨rfl, he⟩
    refine hK.out _ _ ?_ (fun hHeld => ?_)
    · first | exact HH.out.trans hmY | exact HH.out.trans he | exact HH.out
    clear hK K HH
    have HH : Hid (Ext W0 _) := hHeld
    clear hHeld
    refine wpAnyH_ready (rs := [4, 8]) (by kernel_rfl) (by simp) ?_
    refine (AllReadyH.cons rfl (fun K hK => ?_) (AllReadyH.cons rfl (fun K hK => ?_) AllReadyH.nil))
    go_simp
    go_at_call 173; refine (HP _).mono ?_; rintro e w24 ⟨rfl, he⟩
    refine hK.out _ _ ?_ (fun hHeld => ?_)
    · first | exact HH.out.trans hmY | exact HH.out.trans he | exact HH.out
    clear hK K HH
    have HH : Hid (Ext W0 _) := hHeld
    clear hHeld
    refine wpAnyH_take (i := 5) (v := ?_) rfl (by kernel_rfl) (by kernel_rfl) (by kernel_rfl) (fun _ _ _ h => h) (Or.inl ⟨by rfl, ?_⟩) HH.out ?_
    rotate_left
    · intro w hSw; go_simp; try with_reducible rfl
    change wpAnyH _ _ _ _ _ _ _ (Act.put _ (some 124) _) _
    simp only [Act.put, List.setIfInBounds_toArray, List.set_cons_zero, List.set_cons_succ]
    refine wpAnyH_take (i := 6) (v := ?_) rfl (by kernel_rfl) (by kernel_rfl) (by kernel_rfl) (fun _ _ _ h => h) (Or.inl ⟨by rfl, ?_⟩) HH.out ?_
    rotate_left
    · intro w hSw; go_simp; try with_reducible rfl
    change wpAnyH _ _ _ _ _ _ _ (Act.put _ (some 130) _) _
    simp only [Act.put, List.setIfInBounds_toArray, List.set_cons_zero, List.set_cons_succ]
    refine wpAnyH_take (i := 7) (v := ?_) rfl (by kernel_rfl) (by kernel_rfl) (by kernel_rfl) (fun _ _ _ h => h) (Or.inl ⟨by rfl, ?_⟩) HH.out ?_
    rotate_left
    · intro w hSw; go_simp; try with_reducible rfl
    change wpAnyH _ _ _ _ _ _ _ (Act.put _ (some 131) _) _
    simp only [Act.put, List.setIfInBounds_toArray, List.set_cons_zero, List.set_cons_succ]
    refine wpAnyH_ready (rs := [8]) (by kernel_rfl) (by simp) ?_
    refine AllReadyH.cons rfl (fun K hK => ?_) AllReadyH.nil
    refine step_any rfl (op_allocW rfl ?_)
    rintro B12 W12 c12 e12 b12 _ g12
    refine hK.out _ _ ?_ (fun hHeld => ?_)
    · exact HH.out.trans e12
    clear hK K HH
    have HH : Hid (Ext W0 _) := hHeld
    clear hHeld
    change wpAnyH _ _ _ _ _ _ _ (Act.put _ (some 12) _) _
    simp only [Act.put, List.setIfInBounds_toArray, List.set_cons_zero, List.set_cons_succ]
    refine wpAnyH_ready (rs := [9]) (by kernel_rfl) (by simp) ?_
    refine AllReadyH.cons rfl (fun K hK => ?_) AllReadyH.nil
    refine step_any rfl (op_storeWB rfl rfl rfl (b12.ext (by (repeat (first | with_reducible exact Ext.refl _ | with_reducible assumption | refine Ext.trans ?_ (by with_reducible assumption) | refine Ext.alloc ?_ _ _ | refine Ext.drew ?_ | refine Ext.drewN ?_ _)))) (by decide) ?_)
    rintro W13 c13 b13 a13 _ m13
    refine hK.out _ _ ?_ (fun hHeld => ?_)
    · exact Ext.trans_mod HH.out m13 (fun i hi => by have hi2 : i = B12 := hi; rw [hi2]; exact Nat.le_trans (Ext.size (by (repeat (first | with_reducible exact Ext.refl _ | with_reducible assumption | refine Ext.trans ?_ (by with_reducible assumption) | refine Ext.alloc ?_ _ _ | refine Ext.drew ?_ | refine Ext.drewN ?_ _)))) g12)
    clear hK K HH
    have HH : Hid (Ext W0 _) := hHeld
    clear hHeld
    change wpAnyH _ _ _ _ _ _ _ (Act.put _ none _) _
    simp only [Act.put, List.setIfInBounds_toArray, List.set_cons_zero, List.set_cons_succ]
    refine wpAnyH_take (i := 10) (v := ?_) rfl (by kernel_rfl) (by kernel_rfl) (by kernel_rfl) (fun _ _ _ h => h) (Or.inl ⟨by rfl, ?_⟩) HH.out ?_
    rotate_left
    · intro w hSw; go_simp; try with_reducible rfl
    change wpAnyH _ _ _ _ _ _ _ (Act.put _ (some 13) _) _
    simp only [Act.put, List.setIfInBounds_toArray, List.set_cons_zero, List.set_cons_succ]
    refine wpAnyH_done (by kernel_rfl) ?_ _
    exact key B12 W13 c13 ⟨HH.out, b13, a13, Nat.le_trans (Ext.size (by (repeat (first | with_reducible exact Ext.refl _ | with_reducible assumption | refine Ext.trans ?_ (by with_reducible assumption) | refine Ext.alloc ?_ _ _ | refine Ext.drew ?_ | refine Ext.drewN ?_ _)))) g12⟩
    refine step_any rfl (op_allocW rfl ?_)
    rintro B12 W12 c12 e12 b12 _ g12
    refine hK.out _ _ ?_ (fun hHeld => ?_)
    · exact HH.out.trans e12
    clear hK K HH
    have HH : Hid (Ext W0 _) := hHeld
    clear hHeld
    change wpAnyH _ _ _ _ _ _ _ (Act.put _ (some 12) _) _
    simp only [Act.put, List.setIfInBounds_toArray, List.set_cons_zero, List.set_cons_succ]
    refine wpAnyH_ready (rs := [4]) (by kernel_rfl) (by simp) ?_
    refine AllReadyH.cons rfl (fun K hK => ?_) AllReadyH.nil
    go_simp
    go_at_call 173; refine (HP _).mono ?_; rintro e w24 ⟨rfl, he⟩
    refine hK.out _ _ ?_ (fun hHeld => ?_)
    · first | exact HH.out.trans hmY | exact HH.out.trans he | exact HH.out
    clear hK K HH
    have HH : Hid (Ext W0 _) := hHeld
    clear hHeld
    refine wpAnyH_take (i := 5) (v := ?_) rfl (by kernel_rfl) (by kernel_rfl) (by kernel_rfl) (fun _ _ _ h => h) (Or.inl ⟨by rfl, ?_⟩) HH.out ?_
    rotate_left
    · intro w hSw; go_simp; try with_reducible rfl
    change wpAnyH _ _ _ _ _ _ _ (Act.put _ (some 124) _) _
    simp only [Act.put, List.setIfInBounds_toArray, List.set_cons_zero, List.set_cons_succ]
    refine wpAnyH_take (i := 6) (v := ?_) rfl (by kernel_rfl) (by kernel_rfl) (by kernel_rfl) (fun _ _ _ h => h) (Or.inl ⟨by rfl, ?_⟩) HH.out ?_
    rotate_left
    · intro w hSw; go_simp; try with_reducible rfl
    change wpAnyH _ _ _ _ _ _ _ (Act.put _ (some 130) _) _
    simp only [Act.put, List.setIfInBounds_toArray, List.set_cons_zero, List.set_cons_succ]
    refine wpAnyH_take (i := 7) (v := ?_) rfl (by kernel_rfl) (by kernel_rfl) (by kernel_rfl) (fun _ _ _ h => h) (Or.inl ⟨by rfl, ?_⟩) HH.out ?_
    rotate_left
    · intro w hSw; go_simp; try with_reducible rfl
    change wpAnyH _ _ _ _ _ _ _ (Act.put _ (some 131) _) _
    simp only [Act.put, List.setIfInBounds_toArray, List.set_cons_zero, List.set_cons_succ]
    refine wpAnyH_ready (rs := [9]) (by kernel_rfl) (by simp) ?_
    refine AllReadyH.cons rfl (fun K hK => ?_) AllReadyH.nil
    refine step_any rfl (op_storeWB rfl rfl rfl (b12.ext (by (repeat (first | with_reducible exact Ext.refl _ | with_reducible assumption | refine Ext.trans ?_ (by with_reducible assumption) | refine Ext.alloc ?_ _ _ | refine Ext.drew ?_ | refine Ext.drewN ?_ _)))) (by decide) ?_)
    rintro W13 c13 b13 a13 _ m13
    refine hK.out _ _ ?_ (fun hHeld => ?_)
    · exact Ext.trans_mod HH.out m13 (fun i hi => by have hi2 : i = B12 := hi; rw [hi2]; exact Nat.le_trans (Ext.size (by (repeat (first | with_reducible exact Ext.refl _ | with_reducible assumption | refine Ext.trans ?_ (by with_reducible assumption) | refine Ext.alloc ?_ _ _ | refine Ext.drew ?_ | refine Ext.drewN ?_ _)))) g12)
    clear hK K HH
    have HH : Hid (Ext W0 _) := hHeld
    clear hHeld
    change wpAnyH _ _ _ _ _ _ _ (Act.put _ none _) _
    simp only [Act.put, List.setIfInBounds_toArray, List.set_cons_zero, List.set_cons_succ]
    refine wpAnyH_take (i := 10) (v := ?_) rfl (by kernel_rfl) (by kernel_rfl) (by kernel_rfl) (fun _ _ _ h => h) (Or.inl ⟨by rfl, ?_⟩) HH.out ?_
    rotate_left
    · intro w hSw; go_simp; try with_reducible rfl
    change wpAnyH _ _ _ _ _ _ _ (Act.put _ (some 13) _) _
    simp only [Act.put, List.setIfInBounds_toArray, List.set_cons_zero, List.set_cons_succ]
    refine wpAnyH_done (by kernel_rfl) ?_ _
    exact key B12 W13 c13 ⟨HH.out, b13, a13, Nat.le_trans (Ext.size (by (repeat (first | with_reducible exact Ext.refl _ | with_reducible assumption | refine Ext.trans ?_ (by with_reducible assumption) | refine Ext.alloc ?_ _ _ | refine Ext.drew ?_ | refine Ext.drewN ?_ _)))) g12⟩
    refine step_any rfl (op_allocW rfl ?_)
    rintro B12 W12 c12 e12 b12 _ g12
    refine hK.out _ _ ?_ (fun hHeld => ?_)
    · exact HH.out.trans e12
    clear hK K HH
    have HH : Hid (Ext W0 _) := hHeld
    clear hHeld
    change wpAnyH _ _ _ _ _ _ _ (Act.put _ (some 12) _) _
    simp only [Act.put, List.setIfInBounds_toArray, List.set_cons_zero, List.set_cons_succ]
    refine wpAnyH_ready (rs := [3]) (by kernel_rfl) (by simp) ?_
    refine AllReadyH.cons rfl (fun K hK => ?_) AllReadyH.nil
    go_simp
    go_at_call 92; refine (uFromB h.vLt _).mono ?_; rintro e w23 ⟨rfl, he⟩
    refine hK.out _ _ ?_ (fun hHeld => ?_)
    · first | exact HH.out.trans hmY | exact HH.out.trans he | exact HH.out
    clear hK K HH
    have HH : Hid (Ext W0 _) := hHeld
    clear hHeld
    refine wpAnyH_ready (rs := [4]) (by kernel_rfl) (by simp) ?_
    refine AllReadyH.cons rfl (fun K hK => ?_) AllReadyH.nil
    go_simp
    go_at_call 173; refine (HP _).mono ?_; rintro e w24 ⟨rfl, he⟩
    refine hK.out _ _ ?_ (fun hHeld => ?_)
    · first | exact HH.out.trans hmY | exact HH.out.trans he | exact HH.out
    clear hK K HH
    have HH : Hid (Ext W0 _) := hHeld
    clear hHeld
    refine wpAnyH_take (i := 5) (v := ?_) rfl (by kernel_rfl) (by kernel_rfl) (by kernel_rfl) (fun _ _ _ h => h) (Or.inl ⟨by rfl, ?_⟩) HH.out ?_
    rotate_left
    · intro w hSw; go_simp; try with_reducible rfl
    change wpAnyH _ _ _ _ _ _ _ (Act.put _ (some 124) _) _
    simp only [Act.put, List.setIfInBounds_toArray, List.set_cons_zero, List.set_cons_succ]
    refine wpAnyH_take (i := 6) (v := ?_) rfl (by kernel_rfl) (by kernel_rfl) (by kernel_rfl) (fun _ _ _ h => h) (Or.inl ⟨by rfl, ?_⟩) HH.out ?_
    rotate_left
    · intro w hSw; go_simp; try with_reducible rfl
    change wpAnyH _ _ _ _ _ _ _ (Act.put _ (some 130) _) _
    simp only [Act.put, List.setIfInBounds_toArray, List.set_cons_zero, List.set_cons_succ]
    refine wpAnyH_take (i := 7) (v := ?_) rfl (by kernel_rfl) (by kernel_rfl) (by kernel_rfl) (fun _ _ _ h => h) (Or.inl ⟨by rfl, ?_⟩) HH.out ?_
    rotate_left
    · intro w hSw; go_simp; try with_reducible rfl
    change wpAnyH _ _ _ _ _ _ _ (Act.put _ (some 131) _) _
    simp only [Act.put, List.setIfInBounds_toArray, List.set_cons_zero, List.set_cons_succ]
    refine wpAnyH_ready (rs := [9]) (by kernel_rfl) (by simp) ?_
    refine AllReadyH.cons rfl (fun K hK => ?_) AllReadyH.nil
    refine step_any rfl (op_storeWB rfl rfl rfl (b12.ext (by (repeat (first | with_reducible exact Ext.refl _ | with_reducible assumption | refine Ext.trans ?_ (by with_reducible assumption) | refine Ext.alloc ?_ _ _ | refine Ext.drew ?_ | refine Ext.drewN ?_ _)))) (by decide) ?_)
    rintro W13 c13 b13 a13 _ m13
    refine hK.out _ _ ?_ (fun hHeld => ?_)
    · exact Ext.trans_mod HH.out m13 (fun i hi => by have hi2 : i = B12 := hi; rw [hi2]; exact Nat.le_trans (Ext.size (by (repeat (first | with_reducible exact Ext.refl _ | with_reducible assumption | refine Ext.trans ?_ (by with_reducible assumption) | refine Ext.alloc ?_ _ _ | refine Ext.drew ?_ | refine Ext.drewN ?_ _)))) g12)
    clear hK K HH
    have HH : Hid (Ext W0 _) := hHeld
    clear hHeld
    change wpAnyH _ _ _ _ _ _ _ (Act.put _ none _) _
    simp only [Act.put, List.setIfInBounds_toArray, List.set_cons_zero, List.set_cons_succ]
    refine wpAnyH_take (i := 10) (v := ?_) rfl (by kernel_rfl) (by kernel_rfl) (by kernel_rfl) (fun _ _ _ h => h) (Or.inl ⟨by rfl, ?_⟩) HH.out ?_
    rotate_left
    · intro w hSw; go_simp; try with_reducible rfl
    change wpAnyH _ _ _ _ _ _ _ (Act.put _ (some 13) _) _
    simp only [Act.put, List.setIfInBounds_toArray, List.set_cons_zero, List.set_cons_succ]
    refine wpAnyH_done (by kernel_rfl) ?_ _
    exact key B12 W13 c13 ⟨HH.out, b13, a13, Nat.le_trans (Ext.size (by (repeat (first | with_reducible exact Ext.refl _ | with_reducible assumption | refine Ext.trans ?_ (by with_reducible assumption) | refine Ext.alloc ?_ _ _ | refine Ext.drew ?_ | refine Ext.drewN ?_ _)))) g12⟩
    rintro B12 W13 c13 ⟨eS0, bN, aN, g12⟩
    have eS := hW0.trans eS0
    replace bM := bM.ext eS
    replace bT := bT.ext eS
    replace bB := bB.ext eS
    replace bW := bW.ext eS
    replace bg := bg.ext eS
    replace b1 := b1.ext eS
    replace bR5 := bR5.ext eS
    replace eNow := eNow.trans eS
    clear eS eS0 hW0
    go_upto_region 24 with (fail)
    refine w_ext ?_
    rintro W0 hW0
    refine wp_region_held_drew (S := fun w' => Ext W0 w') (by kernel_rfl) (Ext.refl _).drew (fun hHeld => ?_)
    have HH : Hid (Ext W0 _) := hHeld
    clear hHeld
    refine wpAnyH_take (i := 0) (v := ?_) rfl (by kernel_rfl) (by kernel_rfl) (by kernel_rfl) (fun _ _ _ h => h) (Or.inl ⟨by rfl, ?_⟩) HH.out ?_
    rotate_left
    · intro w hSw; go_simp; try with_reducible rfl
    change wpAnyH _ _ _ _ _ _ _ (Act.put _ (some 133) _) _
    simp only [Act.put, List.setIfInBounds_toArray, List.set_cons_zero, List.set_cons_succ]
    refine wpAnyH_take (i := 1) (v := ?_) rfl (by kernel_rfl) (by kernel_rfl) (by kernel_rfl) (fun _ _ _ h => h) (Or.inl ⟨by rfl, ?_⟩) HH.out ?_
    rotate_left
    · intro w hSw; go_simp; try with_reducible rfl
    change wpAnyH _ _ _ _ _ _ _ (Act.put _ (some 134) _) _
    simp only [Act.put, List.setIfInBounds_toArray, List.set_cons_zero, List.set_cons_succ]
    refine wpAnyH_take (i := 2) (v := undef) rfl (by kernel_rfl) (by kernel_rfl) (by kernel_rfl) (fun _ _ _ h => h) (Or.inr ⟨by rfl, rfl⟩) HH.out ?_
    change wpAnyH _ _ _ _ _ _ _ (Act.put _ (some 135) _) _
    simp only [Act.put, List.setIfInBounds_toArray, List.set_cons_zero, List.set_cons_succ]
    refine wpAnyH_take (i := 3) (v := ?_) rfl (by kernel_rfl) (by kernel_rfl) (by kernel_rfl) (fun _ _ _ h => h) (Or.inl ⟨by rfl, ?_⟩) HH.out ?_
    rotate_left
    · intro w hSw; go_simp; try with_reducible rfl
    change wpAnyH _ _ _ _ _ _ _ (Act.put _ (some 136) _) _
    simp only [Act.put, List.setIfInBounds_toArray, List.set_cons_zero, List.set_cons_succ]
    refine wpAnyH_take (i := 4) (v := ?_) rfl (by kernel_rfl) (by kernel_rfl) (by kernel_rfl) (fun _ _ _ h => h) (Or.inl ⟨by rfl, ?_⟩) HH.out ?_
    rotate_left
    · intro w hSw; go_simp; try with_reducible rfl
    change wpAnyH _ _ _ _ _ _ _ (Act.put _ (some 137) _) _
    simp only [Act.put, List.setIfInBounds_toArray, List.set_cons_zero, List.set_cons_succ]
    refine wpAnyH_take (i := 5) (v := undef) rfl (by kernel_rfl) (by kernel_rfl) (by kernel_rfl) (fun _ _ _ h => h) (Or.inr ⟨by rfl, rfl⟩) HH.out ?_
    change wpAnyH _ _ _ _ _ _ _ (Act.put _ (some 138) _) _
    simp only [Act.put, List.setIfInBounds_toArray, List.set_cons_zero, List.set_cons_succ]
    refine wpAnyH_take (i := 6) (v := undef) rfl (by kernel_rfl) (by kernel_rfl) (by kernel_rfl) (fun _ _ _ h => h) (Or.inr ⟨by rfl, rfl⟩) HH.out ?_
    change wpAnyH _ _ _ _ _ _ _ (Act.put _ (some 139) _) _
    simp only [Act.put, List.setIfInBounds_toArray, List.set_cons_zero, List.set_cons_succ]
    refine wpAnyH_take (i := 7) (v := undef) rfl (by kernel_rfl) (by kernel_rfl) (by kernel_rfl) (fun _ _ _ h => h) (Or.inr ⟨by rfl, rfl⟩) HH.out ?_
    change wpAnyH _ _ _ _ _ _ _ (Act.put _ (some 140) _) _
    simp only [Act.put, List.setIfInBounds_toArray, List.set_cons_zero, List.set_cons_succ]
    refine wpAnyH_take (i := 8) (v := undef) rfl (by kernel_rfl) (by kernel_rfl) (by kernel_rfl) (fun _ _ _ h => h) (Or.inr ⟨by rfl, rfl⟩) HH.out ?_
    change wpAnyH _ _ _ _ _ _ _ (Act.put _ (some 141) _) _
    simp only [Act.put, List.setIfInBounds_toArray, List.set_cons_zero, List.set_cons_succ]
    refine wpAnyH_take (i := 9) (v := undef) rfl (by kernel_rfl) (by kernel_rfl) (by kernel_rfl) (fun _ _ _ h => h) (Or.inr ⟨by rfl, rfl⟩) HH.out ?_
    change wpAnyH _ _ _ _ _ _ _ (Act.put _ (some 142) _) _
    simp only [Act.put, List.setIfInBounds_toArray, List.set_cons_zero, List.set_cons_succ]
    refine wpAnyH_take (i := 10) (v := undef) rfl (by kernel_rfl) (by kernel_rfl) (by kernel_rfl) (fun _ _ _ h => h) (Or.inr ⟨by rfl, rfl⟩) HH.out ?_
    change wpAnyH _ _ _ _ _ _ _ (Act.put _ (some 143) _) _
    simp only [Act.put, List.setIfInBounds_toArray, List.set_cons_zero, List.set_cons_succ]
    refine wpAnyH_take (i := 11) (v := undef) rfl (by kernel_rfl) (by kernel_rfl) (by kernel_rfl) (fun _ _ _ h => h) (Or.inr ⟨by rfl, rfl⟩) HH.out ?_
    change wpAnyH _ _ _ _ _ _ _ (Act.put _ (some 144) _) _
    simp only [Act.put, List.setIfInBounds_toArray, List.set_cons_zero, List.set_cons_succ]
    refine wpAnyH_take (i := 12) (v := undef) rfl (by kernel_rfl) (by kernel_rfl) (by kernel_rfl) (fun _ _ _ h => h) (Or.inr ⟨by rfl, rfl⟩) HH.out ?_
    change wpAnyH _ _ _ _ _ _ _ (Act.put _ (some 145) _) _
    simp only [Act.put, List.setIfInBounds_toArray, List.set_cons_zero, List.set_cons_succ]
    refine wpAnyH_take (i := 13) (v := undef) rfl (by kernel_rfl) (by kernel_rfl) (by kernel_rfl) (fun _ _ _ h => h) (Or.inr ⟨by rfl, rfl⟩) HH.out ?_
    change wpAnyH _ _ _ _ _ _ _ (Act.put _ (some 146) _) _
    simp only [Act.put, List.setIfInBounds_toArray, List.set_cons_zero, List.set_cons_succ]
    refine wpAnyH_take (i := 14) (v := ?_) rfl (by kernel_rfl) (by kernel_rfl) (by kernel_rfl) (fun _ _ _ h => h) (Or.inl ⟨by rfl, ?_⟩) HH.out ?_
    rotate_left
    · intro w hSw; go_simp; try with_reducible rfl
    change wpAnyH _ _ _ _ _ _ _ (Act.put _ (some 147) _) _
    simp only [Act.put, List.setIfInBounds_toArray, List.set_cons_zero, List.set_cons_succ]
    refine wpAnyH_take (i := 15) (v := ?_) rfl (by kernel_rfl) (by kernel_rfl) (by kernel_rfl) (fun _ _ _ h => h) (Or.inl ⟨by rfl, ?_⟩) HH.out ?_
    rotate_left
    · intro w hSw; go_simp; try with_reducible rfl
    change wpAnyH _ _ _ _ _ _ _ (Act.put _ (some 132) _) _
    simp only [Act.put, List.setIfInBounds_toArray, List.set_cons_zero, List.set_cons_succ]
    refine wpAnyH_done (by kernel_rfl) ?_ _
    have eS := hW0.trans HH.out
    replace bg := bg.ext eS
    replace b1 := b1.ext eS
    replace bR5 := bR5.ext eS
    replace eNow := eNow.trans eS
    clear eS HH hW0
    go_upto_region 25 with (fail)
    refine w_ext ?_
    rintro W0 hW0
    refine wp_region_held_drew (S := fun w' => (Ext w (w') ∧ Blk (w') B5 4 79 cR5)) (by kernel_rfl) ⟨(eNow.trans hW0).drew, (bR5.ext hW0).drew⟩ (fun hHeld => ?_)
    have HH : Hid ((Ext w (_) ∧ Blk (_) B5 4 79 cR5)) := hHeld
    clear hHeld
    refine wpAnyH_take (i := 0) rfl (by kernel_rfl) (by kernel_rfl) (by kernel_rfl) (fun _ _ _ h => h) (yields_row rt66 (by rfl) rfl rfl (fun W hW => hW.2) (by decide)) HH.out ?_
    change wpAnyH _ _ _ _ _ _ _ (Act.put _ (some 148) _) _
    simp only [Act.put, List.setIfInBounds_toArray, List.set_cons_zero, List.set_cons_succ]
    refine wpAnyH_take (i := 1) (v := ?_) rfl (by kernel_rfl) (by kernel_rfl) (by kernel_rfl) (fun _ _ _ h => h) (Or.inl ⟨by rfl, ?_⟩) HH.out ?_
    rotate_left
    · intro w hSw; go_simp; try with_reducible rfl
    change wpAnyH _ _ _ _ _ _ _ (Act.put _ (some 4) _) _
    simp only [Act.put, List.setIfInBounds_toArray, List.set_cons_zero, List.set_cons_succ]
    refine wpAnyH_ready (rs := [2]) (by kernel_rfl) (by simp) ?_
    refine AllReadyH.cons rfl (fun K hK => ?_) AllReadyH.nil
    refine step_any rfl (op_storeRow rfl rt66 rfl rfl (rowOf_size _ _ _) (ones5 aR5) HH.out.2 (by decide) ?_)
    rintro W14 b14 m14
    refine hK.out _ _ ⟨Ext.trans_mod HH.out.1 m14 (fun q hq => by have hq2 : q = B5 := hq; rw [hq2]; exact g5w), b14.laySelf⟩ (fun hHeld => ?_)
    clear hK K HH
    have HH : Hid ((Ext w (_) ∧ Blk (_) B5 4 79 cR5)) := hHeld
    clear hHeld
    change wpAnyH _ _ _ _ _ _ _ (Act.put _ none _) _
    simp only [Act.put, List.setIfInBounds_toArray, List.set_cons_zero, List.set_cons_succ]
    refine wpAnyH_done (by kernel_rfl) ?_ _
    go_wp2
    refine post_tW rfl rfl rfl HH.out.2 aR5 (by decide) rfl ?_
    first | exact ⟨_, rfl, HH.out.1⟩ | exact HH.out.1 | exact ⟨⟨_, rfl⟩, HH.out.1⟩
end
end Go.Proofs.YgvahwGreat
