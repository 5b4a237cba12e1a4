import Derived.Test.YgvahwGreatYs
import Derived.Test.YgvahwGreatFam
namespace Go.Proofs.YgvahwGreat
open Go.RowKit
set_option linter.unusedSimpArgs false

theorem one96i : OneT 109 := oneT_of (by kernel_rfl) (by kernel_rfl)
section
variable {w : World} {Y : Nat} {tY : TypeId} {c : Nat → Value}
set_option maxRecDepth 100000 in
set_option maxHeartbeats 6400000 in
theorem yStepPlain (hB : Blk w Y 179 tY c) (hph : c 11 = .int .u8 1) (F k cap : Nat) (hk : k < 1000) (hfr : c 9 = .slice (some ⟨F, 0, none⟩) (k + 1) cap) (n : Nat) (tF : TypeId) (d : Nat → Value) (hF : Blk w F n tF d) (hn : k * 60 + 60 ≤ n) (hpr : d (k * 60 + 1) = .int .u8 0) (o : Nat) (ho : o < 256) (A0 A : Value → World → Prop) (X : World → Prop) (X2 : Value → World → Prop) (Z Q : World → Prop) (HO : ∀ W, Ext w W → Calls Hvah.prog 67 #[.pointer (some ⟨F, k * 60, none⟩)] W fun e w' => e = .returned (.int .u8 (o : Nat)) ∧ Ext W w')
    (HR : ∀ W, Ext w W → Calls Hvah.prog 68 #[.pointer (some ⟨Y, 0, none⟩), .pointer (some ⟨F, k * 60, none⟩), .int .u8 (o : Nat)] W fun e w' => ∃ rv, e = .returned (.tuple #[.int .u8 0, rv]) ∧ A0 rv w' ∧ Ext W w')
    (HLs : ∀ rv W, A0 rv W → Ext w W → Calls Hvah.prog 55 #[d (k * 60 + 4), rv] W fun e w' => ∃ gv, e = .returned gv ∧ gv.oneCell' = true ∧ A gv w' ∧ Ext W w')
    (hX : ∀ gv W W', A gv W → Ext w W → Blk W' F n tF (updv d (k * 60 + 4) gv) → Mod (· = F) W W' → X W')
    (HRe : ∀ W, X W → Calls Hvah.prog 71 #[.pointer (some ⟨F, k * 60, none⟩), .int .u8 (o : Nat)] W fun e w' => ∃ rx, e = .returned rx ∧ X2 rx w')
    (HGr : ∀ rx W, X2 rx W → Calls Hvah.prog 70 #[.pointer (some ⟨F, k * 60, none⟩), rx] W fun e w' => e = .returned (.tuple #[]) ∧ Z w') (hn0 : o ≠ 0 ∧ o ≠ 243 ∧ o ≠ 253 ∧ o ≠ 255) (hfa : famA o ≠ 16) (HP : ∀ W, Z W → Calls Hvah.prog 76 #[.pointer (some ⟨Y, 0, none⟩), .pointer (some ⟨F, k * 60, none⟩), .int .u8 (o : Nat)] W fun e w' => e = .returned (.tuple #[]) ∧ Q w') : Calls Hvah.prog 30 #[.pointer (some ⟨Y, 0, none⟩)] w fun e w' => e = .returned (.bool true) ∧ Q w' := by
  have z0 : ¬ (o : Int) = 0 := by omega
  have z243 : ¬ (o : Int) = 243 := by omega
  have z253 : ¬ (o : Int) = 253 := by omega
  have z255 : ¬ (o : Int) = 255 := by omega
  have zf : ¬ (famA o : Int) = 16 := by omega
  have HFa := fun W => opFamily o ho W
  have zk : ¬ ((k : Int) + 1 = 0) := by omega
  have jk : IntKind.i64.wrap (((k + 1 : Nat) : Int) - 1) = (k : Int) := by rw [IntKind.wrap_i64]; omega
  have jk' : IntKind.i64.wrap ((k : Int) + 1 - 1) = (k : Int) := by rw [IntKind.wrap_i64]; omega
  have zl : (k : Int) < ((k + 1 : Nat) : Int) := by omega
  have zl' : (k : Int) < (k : Int) + 1 := by omega
  have zk0 : (0 : Int) ≤ k := by omega
  have jk2 : IntKind.i64.wrap (k : Int) = (k : Int) := by rw [IntKind.wrap_i64]; omega
  go_enter Hvah.func30, Hvah.ntmps30
  go_upto_region 4 with (first | ((with_reducible (refine Veil.out ?_; apply wl_loadB one5i)); (case hx => rfl); (case hB => exact hB); (case hi => decide); rw [hph]) | ((with_reducible (refine Veil.out ?_; apply wlG_loadB onet101)); (case hw => go_simp); (case hx => rfl); (case hB => exact hB); (case hi => decide); rw [hfr]))
  refine w_ext ?_
  rintro W0 hW0
  refine wp_region_held_drew (S := fun w' => Ext W0 w') (by kernel_rfl) (Ext.refl _).drew (fun hHeld => ?_)
  have HH : Hid (Ext W0 _) := hHeld
  clear hHeld
  refine wpAnyH_take (i := 0) (v := ?_) rfl (by kernel_rfl) (by kernel_rfl) (by kernel_rfl) (fun _ _ _ h => h) (Or.inl ⟨by rfl, ?_⟩) HH.out ?_
  rotate_left
  · intro w hSw; go_simp; try with_reducible rfl
  change wpAnyH _ _ _ _ _ _ _ (Act.put _ (some 24) _) _
  simp only [Act.put, List.setIfInBounds_toArray, List.set_cons_zero, List.set_cons_succ]
  refine wpAnyH_take (i := 1) (v := ?_) rfl (by kernel_rfl) (by kernel_rfl) (by kernel_rfl) (fun _ _ _ h => h) (Or.inl ⟨by rfl, ?_⟩) HH.out ?_
  rotate_left
  · intro w hSw; go_simp; try with_reducible rfl
  change wpAnyH _ _ _ _ _ _ _ (Act.put _ (some 25) _) _
  simp only [Act.put, List.setIfInBounds_toArray, List.set_cons_zero, List.set_cons_succ]
  refine wpAnyH_take (i := 2) (v := ?_) rfl (by kernel_rfl) (by kernel_rfl) (by kernel_rfl) (fun _ _ _ h => h) (Or.inl ⟨by rfl, ?_⟩) HH.out ?_
  rotate_left
  · intro w hSw; go_simp; try with_reducible rfl
  change wpAnyH _ _ _ _ _ _ _ (Act.put _ (some 26) _) _
  simp only [Act.put, List.setIfInBounds_toArray, List.set_cons_zero, List.set_cons_succ]
  refine wpAnyH_take (i := 3) rfl (by kernel_rfl) (by kernel_rfl) (by kernel_rfl) (fun _ _ _ h => h) (yieldsIf_load1 (by rfl) _ _ rfl _ _ rfl onet101 _ (fun w hSw => by rw [(hB.ext (hW0.trans hSw)).cell (by decide), hfr])) HH.out ?_
  change wpAnyH _ _ _ _ _ _ _ (Act.put _ (some 27) _) _
  simp only [Act.put, List.setIfInBounds_toArray, List.set_cons_zero, List.set_cons_succ]
  refine wpAnyH_take (i := 4) (v := ?_) rfl (by kernel_rfl) (by kernel_rfl) (by kernel_rfl) (fun _ _ _ h => h) (Or.inl ⟨by rfl, ?_⟩) HH.out ?_
  rotate_left
  · intro w hSw; go_simp; try with_reducible rfl
  change wpAnyH _ _ _ _ _ _ _ (Act.put _ (some 28) _) _
  simp only [Act.put, List.setIfInBounds_toArray, List.set_cons_zero, List.set_cons_succ]
  refine wpAnyH_take (i := 5) (v := ?_) rfl (by kernel_rfl) (by kernel_rfl) (by kernel_rfl) (fun _ _ _ h => h) (Or.inl ⟨by rfl, ?_⟩) HH.out ?_
  rotate_left
  · intro w hSw; go_simp; try with_reducible rfl
  change wpAnyH _ _ _ _ _ _ _ (Act.put _ (some 29) _) _
  simp only [Act.put, List.setIfInBounds_toArray, List.set_cons_zero, List.set_cons_succ]
  refine wpAnyH_take (i := 6) (v := ?_) rfl (by kernel_rfl) (by kernel_rfl) (by kernel_rfl) (fun _ _ _ h => h) (Or.inl ⟨by rfl, ?_⟩) HH.out ?_
  rotate_left
  · intro w hSw; go_simp; try with_reducible rfl
  change wpAnyH _ _ _ _ _ _ _ (Act.put _ (some 30) _) _
  simp only [Act.put, List.setIfInBounds_toArray, List.set_cons_zero, List.set_cons_succ]
  refine wpAnyH_take (i := 7) rfl (by kernel_rfl) (by kernel_rfl) (by kernel_rfl) (fun _ _ _ h => h) (yieldsIf_load1 (by rfl) _ _ rfl _ _ rfl onet101 _ (fun w hSw => by rw [(hB.ext (hW0.trans hSw)).cell (by decide), hfr])) HH.out ?_
  change wpAnyH _ _ _ _ _ _ _ (Act.put _ (some 31) _) _
  simp only [Act.put, List.setIfInBounds_toArray, List.set_cons_zero, List.set_cons_succ]
  refine wpAnyH_take (i := 8) (v := ?_) rfl (by kernel_rfl) (by kernel_rfl) (by kernel_rfl) (fun _ _ _ h => h) (Or.inl ⟨by rfl, ?_⟩) HH.out ?_
  rotate_left
  · intro w hSw; go_simp; try with_reducible rfl
  change wpAnyH _ _ _ _ _ _ _ (Act.put _ (some 32) _) _
  simp only [Act.put, List.setIfInBounds_toArray, List.set_cons_zero, List.set_cons_succ]
  refine wpAnyH_take (i := 9) (v := ?_) rfl (by kernel_rfl) (by kernel_rfl) (by kernel_rfl) (fun _ _ _ h => h) (Or.inl ⟨by rfl, ?_⟩) HH.out ?_
  rotate_left
  · intro w hSw; go_simp; try with_reducible rfl
  change wpAnyH _ _ _ _ _ _ _ (Act.put _ (some 33) _) _
  simp only [Act.put, List.setIfInBounds_toArray, List.set_cons_zero, List.set_cons_succ]
  refine wpAnyH_take (i := 10) (v := ?_) rfl (by kernel_rfl) (by kernel_rfl) (by kernel_rfl) (fun _ _ _ h => h) (Or.inl ⟨by rfl, ?_⟩) HH.out ?_
  rotate_left
  · intro w hSw; go_simp; try with_reducible rfl
  change wpAnyH _ _ _ _ _ _ _ (Act.put _ (some 34) _) _
  simp only [Act.put, List.setIfInBounds_toArray, List.set_cons_zero, List.set_cons_succ]
  refine wpAnyH_take (i := 11) (v := ?_) rfl (by kernel_rfl) (by kernel_rfl) (by kernel_rfl) (fun _ _ _ h => h) (Or.inl ⟨by rfl, ?_⟩) HH.out ?_
  rotate_left
  · intro w hSw; go_simp; try with_reducible rfl
  change wpAnyH _ _ _ _ _ _ _ (Act.put _ (some 4) _) _
  simp only [Act.put, List.setIfInBounds_toArray, List.set_cons_zero, List.set_cons_succ]
  refine wpAnyH_done (by kernel_rfl) ?_ _
  have e0 := hW0.trans HH.out
  go_upto_region 16 with (first | ((with_reducible (refine Veil.out ?_; apply wl_loadB one5i)); (case hx => rfl); (case hB => exact hF.ext e0); (case hi => omega); rw [hpr]) | (go_at_call 67; refine (HO _ e0).mono ?_; rintro e w1 ⟨rfl, e1⟩) | (go_at_call 68; refine (HR _ (e0.trans e1)).mono ?_; rintro e w2 ⟨rv, rfl, hA0, e2⟩) | ((with_reducible (refine Veil.out ?_; apply wl_loadB one96i)); (case hx => rfl); (case hB => exact hF.ext ((e0.trans e1).trans e2)); (case hi => omega)) | (go_at_call 55; refine (HLs _ _ hA0 ((e0.trans e1).trans e2)).mono ?_; rintro e w3 ⟨gv, rfl, hg1, hA1, e3⟩) | ((with_reducible (refine Veil.out ?_; apply wl_storeC one96i (v := gv))); (case hx => rfl); (case hy => rfl); (case h1 => exact hg1); (case hB => exact hF.ext (((e0.trans e1).trans e2).trans e3)); (case hi => omega); rintro W4 b4 m4; have hX4 := hX _ _ _ hA1 (((e0.trans e1).trans e2).trans e3) b4 m4) | (go_at_call 71; refine (HRe _ hX4).mono ?_; rintro e w5 ⟨rx, rfl, hX5⟩) | (go_at_call 70; refine (HGr _ _ hX5).mono ?_; rintro e w6 ⟨rfl, hZ⟩))
  go_wp2_with (first | (go_at_call 19; refine (HFa _).mono ?_; rintro e w7 ⟨rfl, hww⟩; replace hww := hww.symm; subst hww) | (go_at_call 76; refine (HP _ hZ).mono ?_; rintro e w8 ⟨rfl, hQ⟩))
  go_ret
  exact ⟨rfl, hQ⟩
set_option maxRecDepth 100000 in
set_option maxHeartbeats 6400000 in
theorem yStepEnters (hB : Blk w Y 179 tY c) (hph : c 11 = .int .u8 1) (F k cap : Nat) (hk : k < 1000) (hfr : c 9 = .slice (some ⟨F, 0, none⟩) (k + 1) cap) (n : Nat) (tF : TypeId) (d : Nat → Value) (hF : Blk w F n tF d) (hn : k * 60 + 60 ≤ n) (hpr : d (k * 60 + 1) = .int .u8 0) (o : Nat) (ho : o < 256) (A0 A : Value → World → Prop) (X : World → Prop) (X2 : Value → World → Prop) (Z Q : World → Prop) (HO : ∀ W, Ext w W → Calls Hvah.prog 67 #[.pointer (some ⟨F, k * 60, none⟩)] W fun e w' => e = .returned (.int .u8 (o : Nat)) ∧ Ext W w')
    (HR : ∀ W, Ext w W → Calls Hvah.prog 68 #[.pointer (some ⟨Y, 0, none⟩), .pointer (some ⟨F, k * 60, none⟩), .int .u8 (o : Nat)] W fun e w' => ∃ rv, e = .returned (.tuple #[.int .u8 0, rv]) ∧ A0 rv w' ∧ Ext W w')
    (HLs : ∀ rv W, A0 rv W → Ext w W → Calls Hvah.prog 55 #[d (k * 60 + 4), rv] W fun e w' => ∃ gv, e = .returned gv ∧ gv.oneCell' = true ∧ A gv w' ∧ Ext W w')
    (hX : ∀ gv W W', A gv W → Ext w W → Blk W' F n tF (updv d (k * 60 + 4) gv) → Mod (· = F) W W' → X W')
    (HRe : ∀ W, X W → Calls Hvah.prog 71 #[.pointer (some ⟨F, k * 60, none⟩), .int .u8 (o : Nat)] W fun e w' => ∃ rx, e = .returned rx ∧ X2 rx w')
    (HGr : ∀ rx W, X2 rx W → Calls Hvah.prog 70 #[.pointer (some ⟨F, k * 60, none⟩), rx] W fun e w' => e = .returned (.tuple #[]) ∧ Z w') (hn0 : o ≠ 0 ∧ o ≠ 243 ∧ o ≠ 253 ∧ o ≠ 255) (hfa : famA o = 16) (HP : ∀ W, Z W → Calls Hvah.prog 75 #[.pointer (some ⟨Y, 0, none⟩), .pointer (some ⟨F, k * 60, none⟩), .int .u8 (o : Nat)] W fun e w' => e = .returned (.tuple #[]) ∧ Q w') : Calls Hvah.prog 30 #[.pointer (some ⟨Y, 0, none⟩)] w fun e w' => e = .returned (.bool true) ∧ Q w' := by
  have z0 : ¬ (o : Int) = 0 := by omega
  have z243 : ¬ (o : Int) = 243 := by omega
  have z253 : ¬ (o : Int) = 253 := by omega
  have z255 : ¬ (o : Int) = 255 := by omega
  have HFa := fun W => opFamily o ho W
  rw [hfa] at HFa
  clear hfa
  have zk : ¬ ((k : Int) + 1 = 0) := by omega
  have jk : IntKind.i64.wrap (((k + 1 : Nat) : Int) - 1) = (k : Int) := by rw [IntKind.wrap_i64]; omega
  have jk' : IntKind.i64.wrap ((k : Int) + 1 - 1) = (k : Int) := by rw [IntKind.wrap_i64]; omega
  have zl : (k : Int) < ((k + 1 : Nat) : Int) := by omega
  have zl' : (k : Int) < (k : Int) + 1 := by omega
  have zk0 : (0 : Int) ≤ k := by omega
  have jk2 : IntKind.i64.wrap (k : Int) = (k : Int) := by rw [IntKind.wrap_i64]; omega
  go_enter Hvah.func30, Hvah.ntmps30
  go_upto_region 4 with (first | ((with_reducible (refine Veil.out ?_; apply wl_loadB one5i)); (case hx => rfl); (case hB => exact hB); (case hi => decide); rw [hph]) | ((with_reducible (refine Veil.out ?_; apply wlG_loadB onet101)); (case hw => go_simp); (case hx => rfl); (case hB => exact hB); (case hi => decide); rw [hfr]))
  refine w_ext ?_
  rintro W0 hW0
  refine wp_region_held_drew (S := fun w' => Ext W0 w') (by kernel_rfl) (Ext.refl _).drew (fun hHeld => ?_)
  have HH : Hid (Ext W0 _) := hHeld
  clear hHeld
  refine wpAnyH_take (i := 0) (v := ?_) rfl (by kernel_rfl) (by kernel_rfl) (by kernel_rfl) (fun _ _ _ h => h) (Or.inl ⟨by rfl, ?_⟩) HH.out ?_
  rotate_left
  · intro w hSw; go_simp; try with_reducible rfl
  change wpAnyH _ _ _ _ _ _ _ (Act.put _ (some 24) _) _
  simp only [Act.put, List.setIfInBounds_toArray, List.set_cons_zero, List.set_cons_succ]
  refine wpAnyH_take (i := 1) (v := ?_) rfl (by kernel_rfl) (by kernel_rfl) (by kernel_rfl) (fun _ _ _ h => h) (Or.inl ⟨by rfl, ?_⟩) HH.out ?_
  rotate_left
  · intro w hSw; go_simp; try with_reducible rfl
  change wpAnyH _ _ _ _ _ _ _ (Act.put _ (some 25) _) _
  simp only [Act.put, List.setIfInBounds_toArray, List.set_cons_zero, List.set_cons_succ]
  refine wpAnyH_take (i := 2) (v := ?_) rfl (by kernel_rfl) (by kernel_rfl) (by kernel_rfl) (fun _ _ _ h => h) (Or.inl ⟨by rfl, ?_⟩) HH.out ?_
  rotate_left
  · intro w hSw; go_simp; try with_reducible rfl
  change wpAnyH _ _ _ _ _ _ _ (Act.put _ (some 26) _) _
  simp only [Act.put, List.setIfInBounds_toArray, List.set_cons_zero, List.set_cons_succ]
  refine wpAnyH_take (i := 3) rfl (by kernel_rfl) (by kernel_rfl) (by kernel_rfl) (fun _ _ _ h => h) (yieldsIf_load1 (by rfl) _ _ rfl _ _ rfl onet101 _ (fun w hSw => by rw [(hB.ext (hW0.trans hSw)).cell (by decide), hfr])) HH.out ?_
  change wpAnyH _ _ _ _ _ _ _ (Act.put _ (some 27) _) _
  simp only [Act.put, List.setIfInBounds_toArray, List.set_cons_zero, List.set_cons_succ]
  refine wpAnyH_take (i := 4) (v := ?_) rfl (by kernel_rfl) (by kernel_rfl) (by kernel_rfl) (fun _ _ _ h => h) (Or.inl ⟨by rfl, ?_⟩) HH.out ?_
  rotate_left
  · intro w hSw; go_simp; try with_reducible rfl
  change wpAnyH _ _ _ _ _ _ _ (Act.put _ (some 28) _) _
  simp only [Act.put, List.setIfInBounds_toArray, List.set_cons_zero, List.set_cons_succ]
  refine wpAnyH_take (i := 5) (v := ?_) rfl (by kernel_rfl) (by kernel_rfl) (by kernel_rfl) (fun _ _ _ h => h) (Or.inl ⟨by rfl, ?_⟩) HH.out ?_
  rotate_left
  · intro w hSw; go_simp; try with_reducible rfl
  change wpAnyH _ _ _ _ _ _ _ (Act.put _ (some 29) _) _
  simp only [Act.put, List.setIfInBounds_toArray, List.set_cons_zero, List.set_cons_succ]
  refine wpAnyH_take (i := 6) (v := ?_) rfl (by kernel_rfl) (by kernel_rfl) (by kernel_rfl) (fun _ _ _ h => h) (Or.inl ⟨by rfl, ?_⟩) HH.out ?_
  rotate_left
  · intro w hSw; go_simp; try with_reducible rfl
  change wpAnyH _ _ _ _ _ _ _ (Act.put _ (some 30) _) _
  simp only [Act.put, List.setIfInBounds_toArray, List.set_cons_zero, List.set_cons_succ]
  refine wpAnyH_take (i := 7) rfl (by kernel_rfl) (by kernel_rfl) (by kernel_rfl) (fun _ _ _ h => h) (yieldsIf_load1 (by rfl) _ _ rfl _ _ rfl onet101 _ (fun w hSw => by rw [(hB.ext (hW0.trans hSw)).cell (by decide), hfr])) HH.out ?_
  change wpAnyH _ _ _ _ _ _ _ (Act.put _ (some 31) _) _
  simp only [Act.put, List.setIfInBounds_toArray, List.set_cons_zero, List.set_cons_succ]
  refine wpAnyH_take (i := 8) (v := ?_) rfl (by kernel_rfl) (by kernel_rfl) (by kernel_rfl) (fun _ _ _ h => h) (Or.inl ⟨by rfl, ?_⟩) HH.out ?_
  rotate_left
  · intro w hSw; go_simp; try with_reducible rfl
  change wpAnyH _ _ _ _ _ _ _ (Act.put _ (some 32) _) _
  simp only [Act.put, List.setIfInBounds_toArray, List.set_cons_zero, List.set_cons_succ]
  refine wpAnyH_take (i := 9) (v := ?_) rfl (by kernel_rfl) (by kernel_rfl) (by kernel_rfl) (fun _ _ _ h => h) (Or.inl ⟨by rfl, ?_⟩) HH.out ?_
  rotate_left
  · intro w hSw; go_simp; try with_reducible rfl
  change wpAnyH _ _ _ _ _ _ _ (Act.put _ (some 33) _) _
  simp only [Act.put, List.setIfInBounds_toArray, List.set_cons_zero, List.set_cons_succ]
  refine wpAnyH_take (i := 10) (v := ?_) rfl (by kernel_rfl) (by kernel_rfl) (by kernel_rfl) (fun _ _ _ h => h) (Or.inl ⟨by rfl, ?_⟩) HH.out ?_
  rotate_left
  · intro w hSw; go_simp; try with_reducible rfl
  change wpAnyH _ _ _ _ _ _ _ (Act.put _ (some 34) _) _
  simp only [Act.put, List.setIfInBounds_toArray, List.set_cons_zero, List.set_cons_succ]
  refine wpAnyH_take (i := 11) (v := ?_) rfl (by kernel_rfl) (by kernel_rfl) (by kernel_rfl) (fun _ _ _ h => h) (Or.inl ⟨by rfl, ?_⟩) HH.out ?_
  rotate_left
  · intro w hSw; go_simp; try with_reducible rfl
  change wpAnyH _ _ _ _ _ _ _ (Act.put _ (some 4) _) _
  simp only [Act.put, List.setIfInBounds_toArray, List.set_cons_zero, List.set_cons_succ]
  refine wpAnyH_done (by kernel_rfl) ?_ _
  have e0 := hW0.trans HH.out
  go_upto_region 16 with (first | ((with_reducible (refine Veil.out ?_; apply wl_loadB one5i)); (case hx => rfl); (case hB => exact hF.ext e0); (case hi => omega); rw [hpr]) | (go_at_call 67; refine (HO _ e0).mono ?_; rintro e w1 ⟨rfl, e1⟩) | (go_at_call 68; refine (HR _ (e0.trans e1)).mono ?_; rintro e w2 ⟨rv, rfl, hA0, e2⟩) | ((with_reducible (refine Veil.out ?_; apply wl_loadB one96i)); (case hx => rfl); (case hB => exact hF.ext ((e0.trans e1).trans e2)); (case hi => omega)) | (go_at_call 55; refine (HLs _ _ hA0 ((e0.trans e1).trans e2)).mono ?_; rintro e w3 ⟨gv, rfl, hg1, hA1, e3⟩) | ((with_reducible (refine Veil.out ?_; apply wl_storeC one96i (v := gv))); (case hx => rfl); (case hy => rfl); (case h1 => exact hg1); (case hB => exact hF.ext (((e0.trans e1).trans e2).trans e3)); (case hi => omega); rintro W4 b4 m4; have hX4 := hX _ _ _ hA1 (((e0.trans e1).trans e2).trans e3) b4 m4) | (go_at_call 71; refine (HRe _ hX4).mono ?_; rintro e w5 ⟨rx, rfl, hX5⟩) | (go_at_call 70; refine (HGr _ _ hX5).mono ?_; rintro e w6 ⟨rfl, hZ⟩))
  go_wp2_with (first | (go_at_call 19; refine (HFa _).mono ?_; rintro e w7 ⟨rfl, hww⟩; replace hww := hww.symm; subst hww) | (go_at_call 75; refine (HP _ hZ).mono ?_; rintro e w8 ⟨rfl, hQ⟩))
  go_ret
  exact ⟨rfl, hQ⟩
set_option maxRecDepth 100000 in
set_option maxHeartbeats 6400000 in
theorem yStepDestroys (hB : Blk w Y 179 tY c) (hph : c 11 = .int .u8 1) (F k cap : Nat) (hk : k < 1000) (hfr : c 9 = .slice (some ⟨F, 0, none⟩) (k + 1) cap) (n : Nat) (tF : TypeId) (d : Nat → Value) (hF : Blk w F n tF d) (hn : k * 60 + 60 ≤ n) (hpr : d (k * 60 + 1) = .int .u8 0) (A0 A : Value → World → Prop) (X : World → Prop) (X2 : Value → World → Prop) (Z Q : World → Prop) (HO : ∀ W, Ext w W → Calls Hvah.prog 67 #[.pointer (some ⟨F, k * 60, none⟩)] W fun e w' => e = .returned (.int .u8 255) ∧ Ext W w')
    (HR : ∀ W, Ext w W → Calls Hvah.prog 68 #[.pointer (some ⟨Y, 0, none⟩), .pointer (some ⟨F, k * 60, none⟩), .int .u8 255] W fun e w' => ∃ rv, e = .returned (.tuple #[.int .u8 0, rv]) ∧ A0 rv w' ∧ Ext W w')
    (HLs : ∀ rv W, A0 rv W → Ext w W → Calls Hvah.prog 55 #[d (k * 60 + 4), rv] W fun e w' => ∃ gv, e = .returned gv ∧ gv.oneCell' = true ∧ A gv w' ∧ Ext W w')
    (hX : ∀ gv W W', A gv W → Ext w W → Blk W' F n tF (updv d (k * 60 + 4) gv) → Mod (· = F) W W' → X W')
    (HRe : ∀ W, X W → Calls Hvah.prog 71 #[.pointer (some ⟨F, k * 60, none⟩), .int .u8 255] W fun e w' => ∃ rx, e = .returned rx ∧ X2 rx w')
    (HGr : ∀ rx W, X2 rx W → Calls Hvah.prog 70 #[.pointer (some ⟨F, k * 60, none⟩), rx] W fun e w' => e = .returned (.tuple #[]) ∧ Z w') (HP : ∀ W, Z W → Calls Hvah.prog 74 #[.pointer (some ⟨Y, 0, none⟩), .pointer (some ⟨F, k * 60, none⟩)] W fun e w' => e = .returned (.tuple #[]) ∧ Q w') : Calls Hvah.prog 30 #[.pointer (some ⟨Y, 0, none⟩)] w fun e w' => e = .returned (.bool true) ∧ Q w' := by
  have zk : ¬ ((k : Int) + 1 = 0) := by omega
  have jk : IntKind.i64.wrap (((k + 1 : Nat) : Int) - 1) = (k : Int) := by rw [IntKind.wrap_i64]; omega
  have jk' : IntKind.i64.wrap ((k : Int) + 1 - 1) = (k : Int) := by rw [IntKind.wrap_i64]; omega
  have zl : (k : Int) < ((k + 1 : Nat) : Int) := by omega
  have zl' : (k : Int) < (k : Int) + 1 := by omega
  have zk0 : (0 : Int) ≤ k := by omega
  have jk2 : IntKind.i64.wrap (k : Int) = (k : Int) := by rw [IntKind.wrap_i64]; omega
  go_enter Hvah.func30, Hvah.ntmps30
  go_upto_region 4 with (first | ((with_reducible (refine Veil.out ?_; apply wl_loadB one5i)); (case hx => rfl); (case hB => exact hB); (case hi => decide); rw [hph]) | ((with_reducible (refine Veil.out ?_; apply wlG_loadB onet101)); (case hw => go_simp); (case hx => rfl); (case hB => exact hB); (case hi => decide); rw [hfr]))
  refine w_ext ?_
  rintro W0 hW0
  refine wp_region_held_drew (S := fun w' => Ext W0 w') (by kernel_rfl) (Ext.refl _).drew (fun hHeld => ?_)
  have HH : Hid (Ext W0 _) := hHeld
  clear hHeld
  refine wpAnyH_take (i := 0) (v := ?_) rfl (by kernel_rfl) (by kernel_rfl) (by kernel_rfl) (fun _ _ _ h => h) (Or.inl ⟨by rfl, ?_⟩) HH.out ?_
  rotate_left
  · intro w hSw; go_simp; try with_reducible rfl
  change wpAnyH _ _ _ _ _ _ _ (Act.put _ (some 24) _) _
  simp only [Act.put, List.setIfInBounds_toArray, List.set_cons_zero, List.set_cons_succ]
  refine wpAnyH_take (i := 1) (v := ?_) rfl (by kernel_rfl) (by kernel_rfl) (by kernel_rfl) (fun _ _ _ h => h) (Or.inl ⟨by rfl, ?_⟩) HH.out ?_
  rotate_left
  · intro w hSw; go_simp; try with_reducible rfl
  change wpAnyH _ _ _ _ _ _ _ (Act.put _ (some 25) _) _
  simp only [Act.put, List.setIfInBounds_toArray, List.set_cons_zero, List.set_cons_succ]
  refine wpAnyH_take (i := 2) (v := ?_) rfl (by kernel_rfl) (by kernel_rfl) (by kernel_rfl) (fun _ _ _ h => h) (Or.inl ⟨by rfl, ?_⟩) HH.out ?_
  rotate_left
  · intro w hSw; go_simp; try with_reducible rfl
  change wpAnyH _ _ _ _ _ _ _ (Act.put _ (some 26) _) _
  simp only [Act.put, List.setIfInBounds_toArray, List.set_cons_zero, List.set_cons_succ]
  refine wpAnyH_take (i := 3) rfl (by kernel_rfl) (by kernel_rfl) (by kernel_rfl) (fun _ _ _ h => h) (yieldsIf_load1 (by rfl) _ _ rfl _ _ rfl onet101 _ (fun w hSw => by rw [(hB.ext (hW0.trans hSw)).cell (by decide), hfr])) HH.out ?_
  change wpAnyH _ _ _ _ _ _ _ (Act.put _ (some 27) _) _
  simp only [Act.put, List.setIfInBounds_toArray, List.set_cons_zero, List.set_cons_succ]
  refine wpAnyH_take (i := 4) (v := ?_) rfl (by kernel_rfl) (by kernel_rfl) (by kernel_rfl) (fun _ _ _ h => h) (Or.inl ⟨by rfl, ?_⟩) HH.out ?_
  rotate_left
  · intro w hSw; go_simp; try with_reducible rfl
  change wpAnyH _ _ _ _ _ _ _ (Act.put _ (some 28) _) _
  simp only [Act.put, List.setIfInBounds_toArray, List.set_cons_zero, List.set_cons_succ]
  refine wpAnyH_take (i := 5) (v := ?_) rfl (by kernel_rfl) (by kernel_rfl) (by kernel_rfl) (fun _ _ _ h => h) (Or.inl ⟨by rfl, ?_⟩) HH.out ?_
  rotate_left
  · intro w hSw; go_simp; try with_reducible rfl
  change wpAnyH _ _ _ _ _ _ _ (Act.put _ (some 29) _) _
  simp only [Act.put, List.setIfInBounds_toArray, List.set_cons_zero, List.set_cons_succ]
  refine wpAnyH_take (i := 6) (v := ?_) rfl (by kernel_rfl) (by kernel_rfl) (by kernel_rfl) (fun _ _ _ h => h) (Or.inl ⟨by rfl, ?_⟩) HH.out ?_
  rotate_left
  · intro w hSw; go_simp; try with_reducible rfl
  change wpAnyH _ _ _ _ _ _ _ (Act.put _ (some 30) _) _
  simp only [Act.put, List.setIfInBounds_toArray, List.set_cons_zero, List.set_cons_succ]
  refine wpAnyH_take (i := 7) rfl (by kernel_rfl) (by kernel_rfl) (by kernel_rfl) (fun _ _ _ h => h) (yieldsIf_load1 (by rfl) _ _ rfl _ _ rfl onet101 _ (fun w hSw => by rw [(hB.ext (hW0.trans hSw)).cell (by decide), hfr])) HH.out ?_
  change wpAnyH _ _ _ _ _ _ _ (Act.put _ (some 31) _) _
  simp only [Act.put, List.setIfInBounds_toArray, List.set_cons_zero, List.set_cons_succ]
  refine wpAnyH_take (i := 8) (v := ?_) rfl (by kernel_rfl) (by kernel_rfl) (by kernel_rfl) (fun _ _ _ h => h) (Or.inl ⟨by rfl, ?_⟩) HH.out ?_
  rotate_left
  · intro w hSw; go_simp; try with_reducible rfl
  change wpAnyH _ _ _ _ _ _ _ (Act.put _ (some 32) _) _
  simp only [Act.put, List.setIfInBounds_toArray, List.set_cons_zero, List.set_cons_succ]
  refine wpAnyH_take (i := 9) (v := ?_) rfl (by kernel_rfl) (by kernel_rfl) (by kernel_rfl) (fun _ _ _ h => h) (Or.inl ⟨by rfl, ?_⟩) HH.out ?_
  rotate_left
  · intro w hSw; go_simp; try with_reducible rfl
  change wpAnyH _ _ _ _ _ _ _ (Act.put _ (some 33) _) _
  simp only [Act.put, List.setIfInBounds_toArray, List.set_cons_zero, List.set_cons_succ]
  refine wpAnyH_take (i := 10) (v := ?_) rfl (by kernel_rfl) (by kernel_rfl) (by kernel_rfl) (fun _ _ _ h => h) (Or.inl ⟨by rfl, ?_⟩) HH.out ?_
  rotate_left
  · intro w hSw; go_simp; try with_reducible rfl
  change wpAnyH _ _ _ _ _ _ _ (Act.put _ (some 34) _) _
  simp only [Act.put, List.setIfInBounds_toArray, List.set_cons_zero, List.set_cons_succ]
  refine wpAnyH_take (i := 11) (v := ?_) rfl (by kernel_rfl) (by kernel_rfl) (by kernel_rfl) (fun _ _ _ h => h) (Or.inl ⟨by rfl, ?_⟩) HH.out ?_
  rotate_left
  · intro w hSw; go_simp; try with_reducible rfl
  change wpAnyH _ _ _ _ _ _ _ (Act.put _ (some 4) _) _
  simp only [Act.put, List.setIfInBounds_toArray, List.set_cons_zero, List.set_cons_succ]
  refine wpAnyH_done (by kernel_rfl) ?_ _
  have e0 := hW0.trans HH.out
  go_upto_region 16 with (first | ((with_reducible (refine Veil.out ?_; apply wl_loadB one5i)); (case hx => rfl); (case hB => exact hF.ext e0); (case hi => omega); rw [hpr]) | (go_at_call 67; refine (HO _ e0).mono ?_; rintro e w1 ⟨rfl, e1⟩) | (go_at_call 68; refine (HR _ (e0.trans e1)).mono ?_; rintro e w2 ⟨rv, rfl, hA0, e2⟩) | ((with_reducible (refine Veil.out ?_; apply wl_loadB one96i)); (case hx => rfl); (case hB => exact hF.ext ((e0.trans e1).trans e2)); (case hi => omega)) | (go_at_call 55; refine (HLs _ _ hA0 ((e0.trans e1).trans e2)).mono ?_; rintro e w3 ⟨gv, rfl, hg1, hA1, e3⟩) | ((with_reducible (refine Veil.out ?_; apply wl_storeC one96i (v := gv))); (case hx => rfl); (case hy => rfl); (case h1 => exact hg1); (case hB => exact hF.ext (((e0.trans e1).trans e2).trans e3)); (case hi => omega); rintro W4 b4 m4; have hX4 := hX _ _ _ hA1 (((e0.trans e1).trans e2).trans e3) b4 m4) | (go_at_call 71; refine (HRe _ hX4).mono ?_; rintro e w5 ⟨rx, rfl, hX5⟩) | (go_at_call 70; refine (HGr _ _ hX5).mono ?_; rintro e w6 ⟨rfl, hZ⟩))
  go_wp2_with (go_at_call 74; refine (HP _ hZ).mono ?_; rintro e w8 ⟨rfl, hQ⟩)
  go_ret
  exact ⟨rfl, hQ⟩
set_option maxRecDepth 100000 in
set_option maxHeartbeats 6400000 in
theorem yStepStop (hB : Blk w Y 179 tY c) (hph : c 11 = .int .u8 1) (F k cap : Nat) (hk : k < 1000) (hfr : c 9 = .slice (some ⟨F, 0, none⟩) (k + 1) cap) (n : Nat) (tF : TypeId) (d : Nat → Value) (hF : Blk w F n tF d) (hn : k * 60 + 60 ≤ n) (hpr : d (k * 60 + 1) = .int .u8 0) (A0 A : Value → World → Prop) (X : World → Prop) (X2 : Value → World → Prop) (Z Q : World → Prop) (HO : ∀ W, Ext w W → Calls Hvah.prog 67 #[.pointer (some ⟨F, k * 60, none⟩)] W fun e w' => e = .returned (.int .u8 0) ∧ Ext W w')
    (HR : ∀ W, Ext w W → Calls Hvah.prog 68 #[.pointer (some ⟨Y, 0, none⟩), .pointer (some ⟨F, k * 60, none⟩), .int .u8 0] W fun e w' => ∃ rv, e = .returned (.tuple #[.int .u8 0, rv]) ∧ A0 rv w' ∧ Ext W w')
    (HLs : ∀ rv W, A0 rv W → Ext w W → Calls Hvah.prog 55 #[d (k * 60 + 4), rv] W fun e w' => ∃ gv, e = .returned gv ∧ gv.oneCell' = true ∧ A gv w' ∧ Ext W w')
    (hX : ∀ gv W W', A gv W → Ext w W → Blk W' F n tF (updv d (k * 60 + 4) gv) → Mod (· = F) W W' → X W')
    (HRe : ∀ W, X W → Calls Hvah.prog 71 #[.pointer (some ⟨F, k * 60, none⟩), .int .u8 0] W fun e w' => ∃ rx, e = .returned rx ∧ X2 rx w')
    (HGr : ∀ rx W, X2 rx W → Calls Hvah.prog 70 #[.pointer (some ⟨F, k * 60, none⟩), rx] W fun e w' => e = .returned (.tuple #[]) ∧ Z w') (HP : ∀ W, Z W → Calls Hvah.prog 69 #[.pointer (some ⟨Y, 0, none⟩), .int .u8 0, .slice none 0 0] W fun e w' => e = .returned (.tuple #[]) ∧ Q w') : Calls Hvah.prog 30 #[.pointer (some ⟨Y, 0, none⟩)] w fun e w' => e = .returned (.bool true) ∧ Q w' := by
  have zk : ¬ ((k : Int) + 1 = 0) := by omega
  have jk : IntKind.i64.wrap (((k + 1 : Nat) : Int) - 1) = (k : Int) := by rw [IntKind.wrap_i64]; omega
  have jk' : IntKind.i64.wrap ((k : Int) + 1 - 1) = (k : Int) := by rw [IntKind.wrap_i64]; omega
  have zl : (k : Int) < ((k + 1 : Nat) : Int) := by omega
  have zl' : (k : Int) < (k : Int) + 1 := by omega
  have zk0 : (0 : Int) ≤ k := by omega
  have jk2 : IntKind.i64.wrap (k : Int) = (k : Int) := by rw [IntKind.wrap_i64]; omega
  go_enter Hvah.func30, Hvah.ntmps30
  go_upto_region 4 with (first | ((with_reducible (refine Veil.out ?_; apply wl_loadB one5i)); (case hx => rfl); (case hB => exact hB); (case hi => decide); rw [hph]) | ((with_reducible (refine Veil.out ?_; apply wlG_loadB onet101)); (case hw => go_simp); (case hx => rfl); (case hB => exact hB); (case hi => decide); rw [hfr]))
  refine w_ext ?_
  rintro W0 hW0
  refine wp_region_held_drew (S := fun w' => Ext W0 w') (by kernel_rfl) (Ext.refl _).drew (fun hHeld => ?_)
  have HH : Hid (Ext W0 _) := hHeld
  clear hHeld
  refine wpAnyH_take (i := 0) (v := ?_) rfl (by kernel_rfl) (by kernel_rfl) (by kernel_rfl) (fun _ _ _ h => h) (Or.inl ⟨by rfl, ?_⟩) HH.out ?_
  rotate_left
  · intro w hSw; go_simp; try with_reducible rfl
  change wpAnyH _ _ _ _ _ _ _ (Act.put _ (some 24) _) _
  simp only [Act.put, List.setIfInBounds_toArray, List.set_cons_zero, List.set_cons_succ]
  refine wpAnyH_take (i := 1) (v := ?_) rfl (by kernel_rfl) (by kernel_rfl) (by kernel_rfl) (fun _ _ _ h => h) (Or.inl ⟨by rfl, ?_⟩) HH.out ?_
  rotate_left
  · intro w hSw; go_simp; try with_reducible rfl
  change wpAnyH _ _ _ _ _ _ _ (Act.put _ (some 25) _) _
  simp only [Act.put, List.setIfInBounds_toArray, List.set_cons_zero, List.set_cons_succ]
  refine wpAnyH_take (i := 2) (v := ?_) rfl (by kernel_rfl) (by kernel_rfl) (by kernel_rfl) (fun _ _ _ h => h) (Or.inl ⟨by rfl, ?_⟩) HH.out ?_
  rotate_left
  · intro w hSw; go_simp; try with_reducible rfl
  change wpAnyH _ _ _ _ _ _ _ (Act.put _ (some 26) _) _
  simp only [Act.put, List.setIfInBounds_toArray, List.set_cons_zero, List.set_cons_succ]
  refine wpAnyH_take (i := 3) rfl (by kernel_rfl) (by kernel_rfl) (by kernel_rfl) (fun _ _ _ h => h) (yieldsIf_load1 (by rfl) _ _ rfl _ _ rfl onet101 _ (fun w hSw => by rw [(hB.ext (hW0.trans hSw)).cell (by decide), hfr])) HH.out ?_
  change wpAnyH _ _ _ _ _ _ _ (Act.put _ (some 27) _) _
  simp only [Act.put, List.setIfInBounds_toArray, List.set_cons_zero, List.set_cons_succ]
  refine wpAnyH_take (i := 4) (v := ?_) rfl (by kernel_rfl) (by kernel_rfl) (by kernel_rfl) (fun _ _ _ h => h) (Or.inl ⟨by rfl, ?_⟩) HH.out ?_
  rotate_left
  · intro w hSw; go_simp; try with_reducible rfl
  change wpAnyH _ _ _ _ _ _ _ (Act.put _ (some 28) _) _
  simp only [Act.put, List.setIfInBounds_toArray, List.set_cons_zero, List.set_cons_succ]
  refine wpAnyH_take (i := 5) (v := ?_) rfl (by kernel_rfl) (by kernel_rfl) (by kernel_rfl) (fun _ _ _ h => h) (Or.inl ⟨by rfl, ?_⟩) HH.out ?_
  rotate_left
  · intro w hSw; go_simp; try with_reducible rfl
  change wpAnyH _ _ _ _ _ _ _ (Act.put _ (some 29) _) _
  simp only [Act.put, List.setIfInBounds_toArray, List.set_cons_zero, List.set_cons_succ]
  refine wpAnyH_take (i := 6) (v := ?_) rfl (by kernel_rfl) (by kernel_rfl) (by kernel_rfl) (fun _ _ _ h => h) (Or.inl ⟨by rfl, ?_⟩) HH.out ?_
  rotate_left
  · intro w hSw; go_simp; try with_reducible rfl
  change wpAnyH _ _ _ _ _ _ _ (Act.put _ (some 30) _) _
  simp only [Act.put, List.setIfInBounds_toArray, List.set_cons_zero, List.set_cons_succ]
  refine wpAnyH_take (i := 7) rfl (by kernel_rfl) (by kernel_rfl) (by kernel_rfl) (fun _ _ _ h => h) (yieldsIf_load1 (by rfl) _ _ rfl _ _ rfl onet101 _ (fun w hSw => by rw [(hB.ext (hW0.trans hSw)).cell (by decide), hfr])) HH.out ?_
  change wpAnyH _ _ _ _ _ _ _ (Act.put _ (some 31) _) _
  simp only [Act.put, List.setIfInBounds_toArray, List.set_cons_zero, List.set_cons_succ]
  refine wpAnyH_take (i := 8) (v := ?_) rfl (by kernel_rfl) (by kernel_rfl) (by kernel_rfl) (fun _ _ _ h => h) (Or.inl ⟨by rfl, ?_⟩) HH.out ?_
  rotate_left
  · intro w hSw; go_simp; try with_reducible rfl
  change wpAnyH _ _ _ _ _ _ _ (Act.put _ (some 32) _) _
  simp only [Act.put, List.setIfInBounds_toArray, List.set_cons_zero, List.set_cons_succ]
  refine wpAnyH_take (i := 9) (v := ?_) rfl (by kernel_rfl) (by kernel_rfl) (by kernel_rfl) (fun _ _ _ h => h) (Or.inl ⟨by rfl, ?_⟩) HH.out ?_
  rotate_left
  · intro w hSw; go_simp; try with_reducible rfl
  change wpAnyH _ _ _ _ _ _ _ (Act.put _ (some 33) _) _
  simp only [Act.put, List.setIfInBounds_toArray, List.set_cons_zero, List.set_cons_succ]
  refine wpAnyH_take (i := 10) (v := ?_) rfl (by kernel_rfl) (by kernel_rfl) (by kernel_rfl) (fun _ _ _ h => h) (Or.inl ⟨by rfl, ?_⟩) HH.out ?_
  rotate_left
  · intro w hSw; go_simp; try with_reducible rfl
  change wpAnyH _ _ _ _ _ _ _ (Act.put _ (some 34) _) _
  simp only [Act.put, List.setIfInBounds_toArray, List.set_cons_zero, List.set_cons_succ]
  refine wpAnyH_take (i := 11) (v := ?_) rfl (by kernel_rfl) (by kernel_rfl) (by kernel_rfl) (fun _ _ _ h => h) (Or.inl ⟨by rfl, ?_⟩) HH.out ?_
  rotate_left
  · intro w hSw; go_simp; try with_reducible rfl
  change wpAnyH _ _ _ _ _ _ _ (Act.put _ (some 4) _) _
  simp only [Act.put, List.setIfInBounds_toArray, List.set_cons_zero, List.set_cons_succ]
  refine wpAnyH_done (by kernel_rfl) ?_ _
  have e0 := hW0.trans HH.out
  go_upto_region 16 with (first | ((with_reducible (refine Veil.out ?_; apply wl_loadB one5i)); (case hx => rfl); (case hB => exact hF.ext e0); (case hi => omega); rw [hpr]) | (go_at_call 67; refine (HO _ e0).mono ?_; rintro e w1 ⟨rfl, e1⟩) | (go_at_call 68; refine (HR _ (e0.trans e1)).mono ?_; rintro e w2 ⟨rv, rfl, hA0, e2⟩) | ((with_reducible (refine Veil.out ?_; apply wl_loadB one96i)); (case hx => rfl); (case hB => exact hF.ext ((e0.trans e1).trans e2)); (case hi => omega)) | (go_at_call 55; refine (HLs _ _ hA0 ((e0.trans e1).trans e2)).mono ?_; rintro e w3 ⟨gv, rfl, hg1, hA1, e3⟩) | ((with_reducible (refine Veil.out ?_; apply wl_storeC one96i (v := gv))); (case hx => rfl); (case hy => rfl); (case h1 => exact hg1); (case hB => exact hF.ext (((e0.trans e1).trans e2).trans e3)); (case hi => omega); rintro W4 b4 m4; have hX4 := hX _ _ _ hA1 (((e0.trans e1).trans e2).trans e3) b4 m4) | (go_at_call 71; refine (HRe _ hX4).mono ?_; rintro e w5 ⟨rx, rfl, hX5⟩) | (go_at_call 70; refine (HGr _ _ hX5).mono ?_; rintro e w6 ⟨rfl, hZ⟩))
  go_wp2_with (go_at_call 69; refine (HP _ hZ).mono ?_; rintro e w8 ⟨rfl, hQ⟩)
  go_ret
  exact ⟨rfl, hQ⟩
set_option maxRecDepth 100000 in
set_option maxHeartbeats 6400000 in
theorem yStepRet243 (hB : Blk w Y 179 tY c) (hph : c 11 = .int .u8 1) (F k cap : Nat) (hk : k < 1000) (hfr : c 9 = .slice (some ⟨F, 0, none⟩) (k + 1) cap) (n : Nat) (tF : TypeId) (d : Nat → Value) (hF : Blk w F n tF d) (hn : k * 60 + 60 ≤ n) (hpr : d (k * 60 + 1) = .int .u8 0) (A0 A : Value → World → Prop) (X : World → Prop) (X2 : Value → World → Prop) (Z Q : World → Prop) (HO : ∀ W, Ext w W → Calls Hvah.prog 67 #[.pointer (some ⟨F, k * 60, none⟩)] W fun e w' => e = .returned (.int .u8 243) ∧ Ext W w')
    (HR : ∀ W, Ext w W → Calls Hvah.prog 68 #[.pointer (some ⟨Y, 0, none⟩), .pointer (some ⟨F, k * 60, none⟩), .int .u8 243] W fun e w' => ∃ rv, e = .returned (.tuple #[.int .u8 0, rv]) ∧ A0 rv w' ∧ Ext W w')
    (HLs : ∀ rv W, A0 rv W → Ext w W → Calls Hvah.prog 55 #[d (k * 60 + 4), rv] W fun e w' => ∃ gv, e = .returned gv ∧ gv.oneCell' = true ∧ A gv w' ∧ Ext W w')
    (hX : ∀ gv W W', A gv W → Ext w W → Blk W' F n tF (updv d (k * 60 + 4) gv) → Mod (· = F) W W' → X W')
    (HRe : ∀ W, X W → Calls Hvah.prog 71 #[.pointer (some ⟨F, k * 60, none⟩), .int .u8 243] W fun e w' => ∃ rx, e = .returned rx ∧ X2 rx w')
    (HGr : ∀ rx W, X2 rx W → Calls Hvah.prog 70 #[.pointer (some ⟨F, k * 60, none⟩), rx] W fun e w' => e = .returned (.tuple #[]) ∧ Z w') (Z1 : Value → World → Prop) (Z2 : Value → Value → World → Prop) (Z3 : Value → World → Prop) (HA0 : ∀ W, Z W → Calls Hvah.prog 73 #[.pointer (some ⟨F, k * 60, none⟩), .int .i64 0] W fun e w' => ∃ a, e = .returned a ∧ Z1 a w') (HA1 : ∀ a W, Z1 a W → Calls Hvah.prog 73 #[.pointer (some ⟨F, k * 60, none⟩), .int .i64 1] W fun e w' => ∃ b, e = .returned b ∧ Z2 a b w') (HRd : ∀ a b W, Z2 a b W → Calls Hvah.prog 72 #[.pointer (some ⟨F, k * 60, none⟩), a, b] W fun e w' => ∃ u, e = .returned u ∧ Z3 u w') (HP : ∀ u W, Z3 u W → Calls Hvah.prog 69 #[.pointer (some ⟨Y, 0, none⟩), .int .u8 0, u] W fun e w' => e = .returned (.tuple #[]) ∧ Q w') : Calls Hvah.prog 30 #[.pointer (some ⟨Y, 0, none⟩)] w fun e w' => e = .returned (.bool true) ∧ Q w' := by
  have zk : ¬ ((k : Int) + 1 = 0) := by omega
  have jk : IntKind.i64.wrap (((k + 1 : Nat) : Int) - 1) = (k : Int) := by rw [IntKind.wrap_i64]; omega
  have jk' : IntKind.i64.wrap ((k : Int) + 1 - 1) = (k : Int) := by rw [IntKind.wrap_i64]; omega
  have zl : (k : Int) < ((k + 1 : Nat) : Int) := by omega
  have zl' : (k : Int) < (k : Int) + 1 := by omega
  have zk0 : (0 : Int) ≤ k := by omega
  have jk2 : IntKind.i64.wrap (k : Int) = (k : Int) := by rw [IntKind.wrap_i64]; omega
  go_enter Hvah.func30, Hvah.ntmps30
  go_upto_region 4 with (first | ((with_reducible (refine Veil.out ?_; apply wl_loadB one5i)); (case hx => rfl); (case hB => exact hB); (case hi => decide); rw [hph]) | ((with_reducible (refine Veil.out ?_; apply wlG_loadB onet101)); (case hw => go_simp); (case hx => rfl); (case hB => exact hB); (case hi => decide); rw [hfr]))
  refine w_ext ?_
  rintro W0 hW0
  refine wp_region_held_drew (S := fun w' => Ext W0 w') (by kernel_rfl) (Ext.refl _).drew (fun hHeld => ?_)
  have HH : Hid (Ext W0 _) := hHeld
  clear hHeld
  refine wpAnyH_take (i := 0) (v := ?_) rfl (by kernel_rfl) (by kernel_rfl) (by kernel_rfl) (fun _ _ _ h => h) (Or.inl ⟨by rfl, ?_⟩) HH.out ?_
  rotate_left
  · intro w hSw; go_simp; try with_reducible rfl
  change wpAnyH _ _ _ _ _ _ _ (Act.put _ (some 24) _) _
  simp only [Act.put, List.setIfInBounds_toArray, List.set_cons_zero, List.set_cons_succ]
  refine wpAnyH_take (i := 1) (v := ?_) rfl (by kernel_rfl) (by kernel_rfl) (by kernel_rfl) (fun _ _ _ h => h) (Or.inl ⟨by rfl, ?_⟩) HH.out ?_
  rotate_left
  · intro w hSw; go_simp; try with_reducible rfl
  change wpAnyH _ _ _ _ _ _ _ (Act.put _ (some 25) _) _
  simp only [Act.put, List.setIfInBounds_toArray, List.set_cons_zero, List.set_cons_succ]
  refine wpAnyH_take (i := 2) (v := ?_) rfl (by kernel_rfl) (by kernel_rfl) (by kernel_rfl) (fun _ _ _ h => h) (Or.inl ⟨by rfl, ?_⟩) HH.out ?_
  rotate_left
  · intro w hSw; go_simp; try with_reducible rfl
  change wpAnyH _ _ _ _ _ _ _ (Act.put _ (some 26) _) _
  simp only [Act.put, List.setIfInBounds_toArray, List.set_cons_zero, List.set_cons_succ]
  refine wpAnyH_take (i := 3) rfl (by kernel_rfl) (by kernel_rfl) (by kernel_rfl) (fun _ _ _ h => h) (yieldsIf_load1 (by rfl) _ _ rfl _ _ rfl onet101 _ (fun w hSw => by rw [(hB.ext (hW0.trans hSw)).cell (by decide), hfr])) HH.out ?_
  change wpAnyH _ _ _ _ _ _ _ (Act.put _ (some 27) _) _
  simp only [Act.put, List.setIfInBounds_toArray, List.set_cons_zero, List.set_cons_succ]
  refine wpAnyH_take (i := 4) (v := ?_) rfl (by kernel_rfl) (by kernel_rfl) (by kernel_rfl) (fun _ _ _ h => h) (Or.inl ⟨by rfl, ?_⟩) HH.out ?_
  rotate_left
  · intro w hSw; go_simp; try with_reducible rfl
  change wpAnyH _ _ _ _ _ _ _ (Act.put _ (some 28) _) _
  simp only [Act.put, List.setIfInBounds_toArray, List.set_cons_zero, List.set_cons_succ]
  refine wpAnyH_take (i := 5) (v := ?_) rfl (by kernel_rfl) (by kernel_rfl) (by kernel_rfl) (fun _ _ _ h => h) (Or.inl ⟨by rfl, ?_⟩) HH.out ?_
  rotate_left
  · intro w hSw; go_simp; try with_reducible rfl
  change wpAnyH _ _ _ _ _ _ _ (Act.put _ (some 29) _) _
  simp only [Act.put, List.setIfInBounds_toArray, List.set_cons_zero, List.set_cons_succ]
  refine wpAnyH_take (i := 6) (v := ?_) rfl (by kernel_rfl) (by kernel_rfl) (by kernel_rfl) (fun _ _ _ h => h) (Or.inl ⟨by rfl, ?_⟩) HH.out ?_
  rotate_left
  · intro w hSw; go_simp; try with_reducible rfl
  change wpAnyH _ _ _ _ _ _ _ (Act.put _ (some 30) _) _
  simp only [Act.put, List.setIfInBounds_toArray, List.set_cons_zero, List.set_cons_succ]
  refine wpAnyH_take (i := 7) rfl (by kernel_rfl) (by kernel_rfl) (by kernel_rfl) (fun _ _ _ h => h) (yieldsIf_load1 (by rfl) _ _ rfl _ _ rfl onet101 _ (fun w hSw => by rw [(hB.ext (hW0.trans hSw)).cell (by decide), hfr])) HH.out ?_
  change wpAnyH _ _ _ _ _ _ _ (Act.put _ (some 31) _) _
  simp only [Act.put, List.setIfInBounds_toArray, List.set_cons_zero, List.set_cons_succ]
  refine wpAnyH_take (i := 8) (v := ?_) rfl (by kernel_rfl) (by kernel_rfl) (by kernel_rfl) (fun _ _ _ h => h) (Or.inl ⟨by rfl, ?_⟩) HH.out ?_
  rotate_left
  · intro w hSw; go_simp; try with_reducible rfl
  change wpAnyH _ _ _ _ _ _ _ (Act.put _ (some 32) _) _
  simp only [Act.put, List.setIfInBounds_toArray, List.set_cons_zero, List.set_cons_succ]
  refine wpAnyH_take (i := 9) (v := ?_) rfl (by kernel_rfl) (by kernel_rfl) (by kernel_rfl) (fun _ _ _ h => h) (Or.inl ⟨by rfl, ?_⟩) HH.out ?_
  rotate_left
  · intro w hSw; go_simp; try with_reducible rfl
  change wpAnyH _ _ _ _ _ _ _ (Act.put _ (some 33) _) _
  simp only [Act.put, List.setIfInBounds_toArray, List.set_cons_zero, List.set_cons_succ]
  refine wpAnyH_take (i := 10) (v := ?_) rfl (by kernel_rfl) (by kernel_rfl) (by kernel_rfl) (fun _ _ _ h => h) (Or.inl ⟨by rfl, ?_⟩) HH.out ?_
  rotate_left
  · intro w hSw; go_simp; try with_reducible rfl
  change wpAnyH _ _ _ _ _ _ _ (Act.put _ (some 34) _) _
  simp only [Act.put, List.setIfInBounds_toArray, List.set_cons_zero, List.set_cons_succ]
  refine wpAnyH_take (i := 11) (v := ?_) rfl (by kernel_rfl) (by kernel_rfl) (by kernel_rfl) (fun _ _ _ h => h) (Or.inl ⟨by rfl, ?_⟩) HH.out ?_
  rotate_left
  · intro w hSw; go_simp; try with_reducible rfl
  change wpAnyH _ _ _ _ _ _ _ (Act.put _ (some 4) _) _
  simp only [Act.put, List.setIfInBounds_toArray, List.set_cons_zero, List.set_cons_succ]
  refine wpAnyH_done (by kernel_rfl) ?_ _
  have e0 := hW0.trans HH.out
  go_upto_region 16 with (first | ((with_reducible (refine Veil.out ?_; apply wl_loadB one5i)); (case hx => rfl); (case hB => exact hF.ext e0); (case hi => omega); rw [hpr]) | (go_at_call 67; refine (HO _ e0).mono ?_; rintro e w1 ⟨rfl, e1⟩) | (go_at_call 68; refine (HR _ (e0.trans e1)).mono ?_; rintro e w2 ⟨rv, rfl, hA0, e2⟩) | ((with_reducible (refine Veil.out ?_; apply wl_loadB one96i)); (case hx => rfl); (case hB => exact hF.ext ((e0.trans e1).trans e2)); (case hi => omega)) | (go_at_call 55; refine (HLs _ _ hA0 ((e0.trans e1).trans e2)).mono ?_; rintro e w3 ⟨gv, rfl, hg1, hA1, e3⟩) | ((with_reducible (refine Veil.out ?_; apply wl_storeC one96i (v := gv))); (case hx => rfl); (case hy => rfl); (case h1 => exact hg1); (case hB => exact hF.ext (((e0.trans e1).trans e2).trans e3)); (case hi => omega); rintro W4 b4 m4; have hX4 := hX _ _ _ hA1 (((e0.trans e1).trans e2).trans e3) b4 m4) | (go_at_call 71; refine (HRe _ hX4).mono ?_; rintro e w5 ⟨rx, rfl, hX5⟩) | (go_at_call 70; refine (HGr _ _ hX5).mono ?_; rintro e w6 ⟨rfl, hZ⟩))
  go_wp2_with (first | (go_at_call_of 73 (Value.int .i64 0); refine (HA0 _ hZ).mono ?_; rintro e w7 ⟨va, rfl, hZ1⟩) | (go_at_call_of 73 (Value.int .i64 1); refine (HA1 _ _ hZ1).mono ?_; rintro e w8 ⟨vb, rfl, hZ2⟩) | (go_at_call 72; refine (HRd _ _ _ hZ2).mono ?_; rintro e w9 ⟨vu, rfl, hZ3⟩) | (go_at_call 69; refine (HP _ _ hZ3).mono ?_; rintro e w10 ⟨rfl, hQ⟩))
  go_ret
  exact ⟨rfl, hQ⟩
set_option maxRecDepth 100000 in
set_option maxHeartbeats 6400000 in
theorem yStepRet253 (hB : Blk w Y 179 tY c) (hph : c 11 = .int .u8 1) (F k cap : Nat) (hk : k < 1000) (hfr : c 9 = .slice (some ⟨F, 0, none⟩) (k + 1) cap) (n : Nat) (tF : TypeId) (d : Nat → Value) (hF : Blk w F n tF d) (hn : k * 60 + 60 ≤ n) (hpr : d (k * 60 + 1) = .int .u8 0) (A0 A : Value → World → Prop) (X : World → Prop) (X2 : Value → World → Prop) (Z Q : World → Prop) (HO : ∀ W, Ext w W → Calls Hvah.prog 67 #[.pointer (some ⟨F, k * 60, none⟩)] W fun e w' => e = .returned (.int .u8 253) ∧ Ext W w')
    (HR : ∀ W, Ext w W → Calls Hvah.prog 68 #[.pointer (some ⟨Y, 0, none⟩), .pointer (some ⟨F, k * 60, none⟩), .int .u8 253] W fun e w' => ∃ rv, e = .returned (.tuple #[.int .u8 0, rv]) ∧ A0 rv w' ∧ Ext W w')
    (HLs : ∀ rv W, A0 rv W → Ext w W → Calls Hvah.prog 55 #[d (k * 60 + 4), rv] W fun e w' => ∃ gv, e = .returned gv ∧ gv.oneCell' = true ∧ A gv w' ∧ Ext W w')
    (hX : ∀ gv W W', A gv W → Ext w W → Blk W' F n tF (updv d (k * 60 + 4) gv) → Mod (· = F) W W' → X W')
    (HRe : ∀ W, X W → Calls Hvah.prog 71 #[.pointer (some ⟨F, k * 60, none⟩), .int .u8 253] W fun e w' => ∃ rx, e = .returned rx ∧ X2 rx w')
    (HGr : ∀ rx W, X2 rx W → Calls Hvah.prog 70 #[.pointer (some ⟨F, k * 60, none⟩), rx] W fun e w' => e = .returned (.tuple #[]) ∧ Z w') (Z1 : Value → World → Prop) (Z2 : Value → Value → World → Prop) (Z3 : Value → World → Prop) (HA0 : ∀ W, Z W → Calls Hvah.prog 73 #[.pointer (some ⟨F, k * 60, none⟩), .int .i64 0] W fun e w' => ∃ a, e = .returned a ∧ Z1 a w') (HA1 : ∀ a W, Z1 a W → Calls Hvah.prog 73 #[.pointer (some ⟨F, k * 60, none⟩), .int .i64 1] W fun e w' => ∃ b, e = .returned b ∧ Z2 a b w') (HRd : ∀ a b W, Z2 a b W → Calls Hvah.prog 72 #[.pointer (some ⟨F, k * 60, none⟩), a, b] W fun e w' => ∃ u, e = .returned u ∧ Z3 u w') (HP : ∀ u W, Z3 u W → Calls Hvah.prog 69 #[.pointer (some ⟨Y, 0, none⟩), .int .u8 1, u] W fun e w' => e = .returned (.tuple #[]) ∧ Q w') : Calls Hvah.prog 30 #[.pointer (some ⟨Y, 0, none⟩)] w fun e w' => e = .returned (.bool true) ∧ Q w' := by
  have zk : ¬ ((k : Int) + 1 = 0) := by omega
  have jk : IntKind.i64.wrap (((k + 1 : Nat) : Int) - 1) = (k : Int) := by rw [IntKind.wrap_i64]; omega
  have jk' : IntKind.i64.wrap ((k : Int) + 1 - 1) = (k : Int) := by rw [IntKind.wrap_i64]; omega
  have zl : (k : Int) < ((k + 1 : Nat) : Int) := by omega
  have zl' : (k : Int) < (k : Int) + 1 := by omega
  have zk0 : (0 : Int) ≤ k := by omega
  have jk2 : IntKind.i64.wrap (k : Int) = (k : Int) := by rw [IntKind.wrap_i64]; omega
  go_enter Hvah.func30, Hvah.ntmps30
  go_upto_region 4 with (first | ((with_reducible (refine Veil.out ?_; apply wl_loadB one5i)); (case hx => rfl); (case hB => exact hB); (case hi => decide); rw [hph]) | ((with_reducible (refine Veil.out ?_; apply wlG_loadB onet101)); (case hw => go_simp); (case hx => rfl); (case hB => exact hB); (case hi => decide); rw [hfr]))
  refine w_ext ?_
  rintro W0 hW0
  refine wp_region_held_drew (S := fun w' => Ext W0 w') (by kernel_rfl) (Ext.refl _).drew (fun hHeld => ?_)
  have HH : Hid (Ext W0 _) := hHeld
  clear hHeld
  refine wpAnyH_take (i := 0) (v := ?_) rfl (by kernel_rfl) (by kernel_rfl) (by kernel_rfl) (fun _ _ _ h => h) (Or.inl ⟨by rfl, ?_⟩) HH.out ?_
  rotate_left
  · intro w hSw; go_simp; try with_reducible rfl
  change wpAnyH _ _ _ _ _ _ _ (Act.put _ (some 24) _) _
  simp only [Act.put, List.setIfInBounds_toArray, List.set_cons_zero, List.set_cons_succ]
  refine wpAnyH_take (i := 1) (v := ?_) rfl (by kernel_rfl) (by kernel_rfl) (by kernel_rfl) (fun _ _ _ h => h) (Or.inl ⟨by rfl, ?_⟩) HH.out ?_
  rotate_left
  · intro w hSw; go_simp; try with_reducible rfl
  change wpAnyH _ _ _ _ _ _ _ (Act.put _ (some 25) _) _
  simp only [Act.put, List.setIfInBounds_toArray, List.set_cons_zero, List.set_cons_succ]
  refine wpAnyH_take (i := 2) (v := ?_) rfl (by kernel_rfl) (by kernel_rfl) (by kernel_rfl) (fun _ _ _ h => h) (Or.inl ⟨by rfl, ?_⟩) HH.out ?_
  rotate_left
  · intro w hSw; go_simp; try with_reducible rfl
  change wpAnyH _ _ _ _ _ _ _ (Act.put _ (some 26) _) _
  simp only [Act.put, List.setIfInBounds_toArray, List.set_cons_zero, List.set_cons_succ]
  refine wpAnyH_take (i := 3) rfl (by kernel_rfl) (by kernel_rfl) (by kernel_rfl) (fun _ _ _ h => h) (yieldsIf_load1 (by rfl) _ _ rfl _ _ rfl onet101 _ (fun w hSw => by rw [(hB.ext (hW0.trans hSw)).cell (by decide), hfr])) HH.out ?_
  change wpAnyH _ _ _ _ _ _ _ (Act.put _ (some 27) _) _
  simp only [Act.put, List.setIfInBounds_toArray, List.set_cons_zero, List.set_cons_succ]
  refine wpAnyH_take (i := 4) (v := ?_) rfl (by kernel_rfl) (by kernel_rfl) (by kernel_rfl) (fun _ _ _ h => h) (Or.inl ⟨by rfl, ?_⟩) HH.out ?_
  rotate_left
  · intro w hSw; go_simp; try with_reducible rfl
  change wpAnyH _ _ _ _ _ _ _ (Act.put _ (some 28) _) _
  simp only [Act.put, List.setIfInBounds_toArray, List.set_cons_zero, List.set_cons_succ]
  refine wpAnyH_take (i := 5) (v := ?_) rfl (by kernel_rfl) (by kernel_rfl) (by kernel_rfl) (fun _ _ _ h => h) (Or.inl ⟨by rfl, ?_⟩) HH.out ?_
  rotate_left
  · intro w hSw; go_simp; try with_reducible rfl
  change wpAnyH _ _ _ _ _ _ _ (Act.put _ (some 29) _) _
  simp only [Act.put, List.setIfInBounds_toArray, List.set_cons_zero, List.set_cons_succ]
  refine wpAnyH_take (i := 6) (v := ?_) rfl (by kernel_rfl) (by kernel_rfl) (by kernel_rfl) (fun _ _ _ h => h) (Or.inl ⟨by rfl, ?_⟩) HH.out ?_
  rotate_left
  · intro w hSw; go_simp; try with_reducible rfl
  change wpAnyH _ _ _ _ _ _ _ (Act.put _ (some 30) _) _
  simp only [Act.put, List.setIfInBounds_toArray, List.set_cons_zero, List.set_cons_succ]
  refine wpAnyH_take (i := 7) rfl (by kernel_rfl) (by kernel_rfl) (by kernel_rfl) (fun _ _ _ h => h) (yieldsIf_load1 (by rfl) _ _ rfl _ _ rfl onet101 _ (fun w hSw => by rw [(hB.ext (hW0.trans hSw)).cell (by decide), hfr])) HH.out ?_
  change wpAnyH _ _ _ _ _ _ _ (Act.put _ (some 31) _) _
  simp only [Act.put, List.setIfInBounds_toArray, List.set_cons_zero, List.set_cons_succ]
  refine wpAnyH_take (i := 8) (v := ?_) rfl (by kernel_rfl) (by kernel_rfl) (by kernel_rfl) (fun _ _ _ h => h) (Or.inl ⟨by rfl, ?_⟩) HH.out ?_
  rotate_left
  · intro w hSw; go_simp; try with_reducible rfl
  change wpAnyH _ _ _ _ _ _ _ (Act.put _ (some 32) _) _
  simp only [Act.put, List.setIfInBounds_toArray, List.set_cons_zero, List.set_cons_succ]
  refine wpAnyH_take (i := 9) (v := ?_) rfl (by kernel_rfl) (by kernel_rfl) (by kernel_rfl) (fun _ _ _ h => h) (Or.inl ⟨by rfl, ?_⟩) HH.out ?_
  rotate_left
  · intro w hSw; go_simp; try with_reducible rfl
  change wpAnyH _ _ _ _ _ _ _ (Act.put _ (some 33) _) _
  simp only [Act.put, List.setIfInBounds_toArray, List.set_cons_zero, List.set_cons_succ]
  refine wpAnyH_take (i := 10) (v := ?_) rfl (by kernel_rfl) (by kernel_rfl) (by kernel_rfl) (fun _ _ _ h => h) (Or.inl ⟨by rfl, ?_⟩) HH.out ?_
  rotate_left
  · intro w hSw; go_simp; try with_reducible rfl
  change wpAnyH _ _ _ _ _ _ _ (Act.put _ (some 34) _) _
  simp only [Act.put, List.setIfInBounds_toArray, List.set_cons_zero, List.set_cons_succ]
  refine wpAnyH_take (i := 11) (v := ?_) rfl (by kernel_rfl) (by kernel_rfl) (by kernel_rfl) (fun _ _ _ h => h) (Or.inl ⟨by rfl, ?_⟩) HH.out ?_
  rotate_left
  · intro w hSw; go_simp; try with_reducible rfl
  change wpAnyH _ _ _ _ _ _ _ (Act.put _ (some 4) _) _
  simp only [Act.put, List.setIfInBounds_toArray, List.set_cons_zero, List.set_cons_succ]
  refine wpAnyH_done (by kernel_rfl) ?_ _
  have e0 := hW0.trans HH.out
  go_upto_region 16 with (first | ((with_reducible (refine Veil.out ?_; apply wl_loadB one5i)); (case hx => rfl); (case hB => exact hF.ext e0); (case hi => omega); rw [hpr]) | (go_at_call 67; refine (HO _ e0).mono ?_; rintro e w1 ⟨rfl, e1⟩) | (go_at_call 68; refine (HR _ (e0.trans e1)).mono ?_; rintro e w2 ⟨rv, rfl, hA0, e2⟩) | ((with_reducible (refine Veil.out ?_; apply wl_loadB one96i)); (case hx => rfl); (case hB => exact hF.ext ((e0.trans e1).trans e2)); (case hi => omega)) | (go_at_call 55; refine (HLs _ _ hA0 ((e0.trans e1).trans e2)).mono ?_; rintro e w3 ⟨gv, rfl, hg1, hA1, e3⟩) | ((with_reducible (refine Veil.out ?_; apply wl_storeC one96i (v := gv))); (case hx => rfl); (case hy => rfl); (case h1 => exact hg1); (case hB => exact hF.ext (((e0.trans e1).trans e2).trans e3)); (case hi => omega); rintro W4 b4 m4; have hX4 := hX _ _ _ hA1 (((e0.trans e1).trans e2).trans e3) b4 m4) | (go_at_call 71; refine (HRe _ hX4).mono ?_; rintro e w5 ⟨rx, rfl, hX5⟩) | (go_at_call 70; refine (HGr _ _ hX5).mono ?_; rintro e w6 ⟨rfl, hZ⟩))
  go_wp2_with (first | (go_at_call_of 73 (Value.int .i64 0); refine (HA0 _ hZ).mono ?_; rintro e w7 ⟨va, rfl, hZ1⟩) | (go_at_call_of 73 (Value.int .i64 1); refine (HA1 _ _ hZ1).mono ?_; rintro e w8 ⟨vb, rfl, hZ2⟩) | (go_at_call 72; refine (HRd _ _ _ hZ2).mono ?_; rintro e w9 ⟨vu, rfl, hZ3⟩) | (go_at_call 69; refine (HP _ _ hZ3).mono ?_; rintro e w10 ⟨rfl, hQ⟩))
  go_ret
  exact ⟨rfl, hQ⟩
end
end Go.Proofs.YgvahwGreat
