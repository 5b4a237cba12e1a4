import Derived.Test.YgvahwGreatNv
namespace Go.Proofs.YgvahwGreat
open Go.RowKit
set_option linter.unusedSimpArgs false

section
variable {w : World} {g : Nat} {c : Nat → Value}
set_option maxRecDepth 100000 in
set_option maxHeartbeats 6400000 in
theorem mStepIdle (hB : Blk w g 27024 105 c) (ph : Nat) (hph : c 2404 = .int .u8 (ph : Nat)) (hne : ph ≠ 1) : Calls Hvah.prog 46 #[.pointer (some ⟨g, 0, none⟩)] w fun e w' => e = .returned (.bool false) ∧ w' = w := by
  have z : ¬ (ph : Int) = 1 := by omega
  go_enter Hvah.func46, Hvah.ntmps46
  go_wp2_with (first | ((with_reducible (refine Veil.out ?_; apply wl_loadB one5i)); (case hx => rfl); (case hB => exact hB); (case hi => decide); rw [hph]))
  go_ret
  exact ⟨rfl, rfl⟩
set_option maxRecDepth 100000 in
set_option maxHeartbeats 6400000 in
theorem mStepNat (hB : Blk w g 27024 105 c) (hp : c 0 = .pointer (some ⟨g, 2435, none⟩)) (hph : c 2404 = .int .u8 1) (Q : World → Prop) (HN : Calls Hvah.prog 116 #[.pointer (some ⟨g, 0, none⟩)] w fun e w' => e = .returned (.bool true) ∧ Q w') : Calls Hvah.prog 46 #[.pointer (some ⟨g, 0, none⟩)] w fun e w' => e = .returned (.bool true) ∧ Q w' := by
  go_enter Hvah.func46, Hvah.ntmps46
  go_wp2_with (first | ((with_reducible (refine Veil.out ?_; apply wl_loadB one5i)); (case hx => rfl); (case hB => exact hB); (case hi => decide); rw [hph]) | ((with_reducible (refine Veil.out ?_; apply wlG_loadB onet60v)); (case hw => go_simp); (case hx => rfl); (case hB => exact hB); (case hi => decide); rw [hp]) | (go_at_call 116; refine HN.mono ?_; rintro e w1 ⟨rfl, hQ⟩))
  go_ret
  exact ⟨rfl, hQ⟩
set_option maxRecDepth 100000 in
set_option maxHeartbeats 6400000 in
theorem mStepBad (hB : Blk w g 27024 105 c) (hp : c 0 = .pointer (some ⟨g, 2435, none⟩)) (hph : c 2404 = .int .u8 1) (Q : World → Prop) (o tk gv sg : Nat) (kn : Bool) (HN : Calls Hvah.prog 116 #[.pointer (some ⟨g, 0, none⟩)] w fun e w' => e = .returned (.bool false) ∧ Ext w w')
    (HO : ∀ W, Ext w W → Calls Hvah.prog 117 #[.pointer (some ⟨g, 0, none⟩)] W fun e w' => e = .returned (.int .u8 (o : Nat)) ∧ Ext W w') (HI : ∀ W, Calls Hvah.prog 118 #[.int .u8 (o : Nat)] W fun e w' => e = .returned (.tuple #[.int .u8 (tk : Nat), .int .u8 (gv : Nat), .int .u16 (sg : Nat), .bool kn]) ∧ w' = W)
    (HA : ∀ W, Ext w W → Calls Hvah.prog 119 #[.pointer (some ⟨g, 0, none⟩), .int .u8 (o : Nat), .int .u8 (tk : Nat), .int .u8 (gv : Nat), .int .u16 (sg : Nat), .bool kn] W fun e w' => e = .returned (.bool false) ∧ Q w') : Calls Hvah.prog 46 #[.pointer (some ⟨g, 0, none⟩)] w fun e w' => e = .returned (.bool true) ∧ Q w' := by
  go_enter Hvah.func46, Hvah.ntmps46
  go_wp2_with (first | ((with_reducible (refine Veil.out ?_; apply wl_loadB one5i)); (case hx => rfl); (case hB => exact hB); (case hi => decide); rw [hph]) | ((with_reducible (refine Veil.out ?_; apply wlG_loadB onet60v)); (case hw => go_simp); (case hx => rfl); (case hB => exact hB); (case hi => decide); rw [hp]) | (go_at_call 116; refine HN.mono ?_; rintro e w1 ⟨rfl, e1⟩) | (go_at_call 117; refine (HO _ e1).mono ?_; rintro e w2 ⟨rfl, e2⟩) | (go_at_call 118; refine (HI _).mono ?_; rintro e w3 ⟨rfl, hww⟩; replace hww := hww.symm; subst hww) | (go_at_call 119; refine (HA _ (by (repeat (first | with_reducible exact Ext.refl _ | with_reducible assumption | refine Ext.trans ?_ (by with_reducible assumption) | refine Ext.alloc ?_ _ _ | refine Ext.drew ?_ | refine Ext.drewN ?_ _)))).mono ?_; rintro e w4 ⟨rfl, hQ⟩))
  go_ret
  exact ⟨rfl, hQ⟩
set_option maxRecDepth 100000 in
set_option maxHeartbeats 6400000 in
theorem mStepExec (hB : Blk w g 27024 105 c) (hp : c 0 = .pointer (some ⟨g, 2435, none⟩)) (hph : c 2404 = .int .u8 1) (Q X : World → Prop) (o tk gv sg : Nat) (kn : Bool) (HN : Calls Hvah.prog 116 #[.pointer (some ⟨g, 0, none⟩)] w fun e w' => e = .returned (.bool false) ∧ Ext w w')
    (HO : ∀ W, Ext w W → Calls Hvah.prog 117 #[.pointer (some ⟨g, 0, none⟩)] W fun e w' => e = .returned (.int .u8 (o : Nat)) ∧ Ext W w') (HI : ∀ W, Calls Hvah.prog 118 #[.int .u8 (o : Nat)] W fun e w' => e = .returned (.tuple #[.int .u8 (tk : Nat), .int .u8 (gv : Nat), .int .u16 (sg : Nat), .bool kn]) ∧ w' = W)
    (HA : ∀ W, Ext w W → Calls Hvah.prog 119 #[.pointer (some ⟨g, 0, none⟩), .int .u8 (o : Nat), .int .u8 (tk : Nat), .int .u8 (gv : Nat), .int .u16 (sg : Nat), .bool kn] W fun e w' => e = .returned (.bool true) ∧ X w') (HX : ∀ W, X W → Calls Hvah.prog 120 #[.pointer (some ⟨g, 0, none⟩), .int .u8 (o : Nat)] W fun e w' => e = .returned (.tuple #[]) ∧ Q w') : Calls Hvah.prog 46 #[.pointer (some ⟨g, 0, none⟩)] w fun e w' => e = .returned (.bool true) ∧ Q w' := by
  go_enter Hvah.func46, Hvah.ntmps46
  go_wp2_with (first | ((with_reducible (refine Veil.out ?_; apply wl_loadB one5i)); (case hx => rfl); (case hB => exact hB); (case hi => decide); rw [hph]) | ((with_reducible (refine Veil.out ?_; apply wlG_loadB onet60v)); (case hw => go_simp); (case hx => rfl); (case hB => exact hB); (case hi => decide); rw [hp]) | (go_at_call 116; refine HN.mono ?_; rintro e w1 ⟨rfl, e1⟩) | (go_at_call 117; refine (HO _ e1).mono ?_; rintro e w2 ⟨rfl, e2⟩) | (go_at_call 118; refine (HI _).mono ?_; rintro e w3 ⟨rfl, hww⟩; replace hww := hww.symm; subst hww) | (go_at_call 119; refine (HA _ (by (repeat (first | with_reducible exact Ext.refl _ | with_reducible assumption | refine Ext.trans ?_ (by with_reducible assumption) | refine Ext.alloc ?_ _ _ | refine Ext.drew ?_ | refine Ext.drewN ?_ _)))).mono ?_; rintro e w4 ⟨rfl, hX⟩) | (go_at_call 120; refine (HX _ hX).mono ?_; rintro e w5 ⟨rfl, hQ⟩))
  go_ret
  exact ⟨rfl, hQ⟩
end
end Go.Proofs.YgvahwGreat
