import Derived.Test.YgvagwGreatNv
namespace Go.Proofs.YgvagwGreat
open Go.RowKit
set_option linter.unusedSimpArgs false

section
variable {w : World} {g : Nat} {c : Nat → Value}
set_option maxRecDepth 100000 in
set_option maxHeartbeats 6400000 in
theorem mStepIdle (hB : Blk w g 27024 92 c) (ph : Nat) (hph : c 2404 = .int .u8 (ph : Nat)) (hne : ph ≠ 1) : Calls Hvag.prog 37 #[.pointer (some ⟨g, 0, none⟩)] w fun e w' => e = .returned (.bool false) ∧ w' = w := by
  have z : ¬ (ph : Int) = 1 := by omega
  go_enter Hvag.func37, Hvag.ntmps37
  go_wp2_with (first | ((with_reducible (refine Veil.out ?_; apply wl_loadB one5i)); (case hx => rfl); (case hB => exact hB); (case hi => decide); rw [hph]))
  go_ret
  exact ⟨rfl, rfl⟩
set_option maxRecDepth 100000 in
set_option maxHeartbeats 6400000 in
theorem mStepNat (hB : Blk w g 27024 92 c) (hp : c 0 = .pointer (some ⟨g, 2435, none⟩)) (hph : c 2404 = .int .u8 1) (Q : World → Prop) (HN : Calls Hvag.prog 108 #[.pointer (some ⟨g, 0, none⟩)] w fun e w' => e = .returned (.bool true) ∧ Q w') : Calls Hvag.prog 37 #[.pointer (some ⟨g, 0, none⟩)] w fun e w' => e = .returned (.bool true) ∧ Q w' := by
  go_enter Hvag.func37, Hvag.ntmps37
  go_wp2_with (first | ((with_reducible (refine Veil.out ?_; apply wl_loadB one5i)); (case hx => rfl); (case hB => exact hB); (case hi => decide); rw [hph]) | ((with_reducible (refine Veil.out ?_; apply wlG_loadB onet60v)); (case hw => go_simp); (case hx => rfl); (case hB => exact hB); (case hi => decide); rw [hp]) | (go_at_call 108; refine HN.mono ?_; rintro e w1 ⟨rfl, hQ⟩))
  go_ret
  exact ⟨rfl, hQ⟩
set_option maxRecDepth 100000 in
set_option maxHeartbeats 6400000 in
theorem mStepBad (hB : Blk w g 27024 92 c) (hp : c 0 = .pointer (some ⟨g, 2435, none⟩)) (hph : c 2404 = .int .u8 1) (Q : World → Prop) (o tk gv sg : Nat) (kn : Bool) (HN : Calls Hvag.prog 108 #[.pointer (some ⟨g, 0, none⟩)] w fun e w' => e = .returned (.bool false) ∧ Ext w w')
    (HO : ∀ W, Ext w W → Calls Hvag.prog 109 #[.pointer (some ⟨g, 0, none⟩)] W fun e w' => e = .returned (.int .u8 (o : Nat)) ∧ Ext W w') (HI : ∀ W, Calls Hvag.prog 110 #[.int .u8 (o : Nat)] W fun e w' => e = .returned (.tuple #[.int .u8 (tk : Nat), .int .u8 (gv : Nat), .int .u16 (sg : Nat), .bool kn]) ∧ w' = W)
    (HA : ∀ W, Ext w W → Calls Hvag.prog 111 #[.pointer (some ⟨g, 0, none⟩), .int .u8 (o : Nat), .int .u8 (tk : Nat), .int .u8 (gv : Nat), .int .u16 (sg : Nat), .bool kn] W fun e w' => e = .returned (.bool false) ∧ Q w') : Calls Hvag.prog 37 #[.pointer (some ⟨g, 0, none⟩)] w fun e w' => e = .returned (.bool true) ∧ Q w' := by
  go_enter Hvag.func37, Hvag.ntmps37
  go_wp2_with (first | ((with_reducible (refine Veil.out ?_; apply wl_loadB one5i)); (case hx => rfl); (case hB => exact hB); (case hi => decide); rw [hph]) | ((with_reducible (refine Veil.out ?_; apply wlG_loadB onet60v)); (case hw => go_simp); (case hx => rfl); (case hB => exact hB); (case hi => decide); rw [hp]) | (go_at_call 108; refine HN.mono ?_; rintro e w1 ⟨rfl, e1⟩) | (go_at_call 109; refine (HO _ e1).mono ?_; rintro e w2 ⟨rfl, e2⟩) | (go_at_call 110; refine (HI _).mono ?_; rintro e w3 ⟨rfl, hww⟩; replace hww := hww.symm; subst hww) | (go_at_call 111; refine (HA _ (by (repeat (first | with_reducible exact Ext.refl _ | with_reducible assumption | refine Ext.trans ?_ (by with_reducible assumption) | refine Ext.alloc ?_ _ _ | refine Ext.drew ?_ | refine Ext.drewN ?_ _)))).mono ?_; rintro e w4 ⟨rfl, hQ⟩))
  go_ret
  exact ⟨rfl, hQ⟩
set_option maxRecDepth 100000 in
set_option maxHeartbeats 6400000 in
theorem mStepExec (hB : Blk w g 27024 92 c) (hp : c 0 = .pointer (some ⟨g, 2435, none⟩)) (hph : c 2404 = .int .u8 1) (Q X : World → Prop) (o tk gv sg : Nat) (kn : Bool) (HN : Calls Hvag.prog 108 #[.pointer (some ⟨g, 0, none⟩)] w fun e w' => e = .returned (.bool false) ∧ Ext w w')
    (HO : ∀ W, Ext w W → Calls Hvag.prog 109 #[.pointer (some ⟨g, 0, none⟩)] W fun e w' => e = .returned (.int .u8 (o : Nat)) ∧ Ext W w') (HI : ∀ W, Calls Hvag.prog 110 #[.int .u8 (o : Nat)] W fun e w' => e = .returned (.tuple #[.int .u8 (tk : Nat), .int .u8 (gv : Nat), .int .u16 (sg : Nat), .bool kn]) ∧ w' = W)
    (HA : ∀ W, Ext w W → Calls Hvag.prog 111 #[.pointer (some ⟨g, 0, none⟩), .int .u8 (o : Nat), .int .u8 (tk : Nat), .int .u8 (gv : Nat), .int .u16 (sg : Nat), .bool kn] W fun e w' => e = .returned (.bool true) ∧ X w') (HX : ∀ W, X W → Calls Hvag.prog 112 #[.pointer (some ⟨g, 0, none⟩), .int .u8 (o : Nat)] W fun e w' => e = .returned (.tuple #[]) ∧ Q w') : Calls Hvag.prog 37 #[.pointer (some ⟨g, 0, none⟩)] w fun e w' => e = .returned (.bool true) ∧ Q w' := by
  go_enter Hvag.func37, Hvag.ntmps37
  go_wp2_with (first | ((with_reducible (refine Veil.out ?_; apply wl_loadB one5i)); (case hx => rfl); (case hB => exact hB); (case hi => decide); rw [hph]) | ((with_reducible (refine Veil.out ?_; apply wlG_loadB onet60v)); (case hw => go_simp); (case hx => rfl); (case hB => exact hB); (case hi => decide); rw [hp]) | (go_at_call 108; refine HN.mono ?_; rintro e w1 ⟨rfl, e1⟩) | (go_at_call 109; refine (HO _ e1).mono ?_; rintro e w2 ⟨rfl, e2⟩) | (go_at_call 110; refine (HI _).mono ?_; rintro e w3 ⟨rfl, hww⟩; replace hww := hww.symm; subst hww) | (go_at_call 111; refine (HA _ (by (repeat (first | with_reducible exact Ext.refl _ | with_reducible assumption | refine Ext.trans ?_ (by with_reducible assumption) | refine Ext.alloc ?_ _ _ | refine Ext.drew ?_ | refine Ext.drewN ?_ _)))).mono ?_; rintro e w4 ⟨rfl, hX⟩) | (go_at_call 112; refine (HX _ hX).mono ?_; rintro e w5 ⟨rfl, hQ⟩))
  go_ret
  exact ⟨rfl, hQ⟩
end
end Go.Proofs.YgvagwGreat
