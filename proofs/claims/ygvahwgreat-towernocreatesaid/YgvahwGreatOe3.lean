import Derived.Test.YgvahwGreatMLa
import Derived.Test.YgvahwGreatOe0
namespace Go.Proofs.YgvahwGreat
open Go.RowKit
set_option linter.unusedSimpArgs false
set_option maxRecDepth 100000 in
set_option maxHeartbeats 6400000 in
theorem mExec_71 {w : World} {g : Nat} {Q : World → Prop} (HC : ∀ W, Ext w W → Calls Hvah.prog 203 #[.pointer (some ⟨g, 0, none⟩)] W fun e w' => e = .returned (.tuple #[]) ∧ Q w') : Calls Hvah.prog 120 #[.pointer (some ⟨g, 0, none⟩), .int .u8 71] w fun e w' => e = .returned (.tuple #[]) ∧ Q w' := by
  have HD := HC
  go_enter Hvah.func120, Hvah.ntmps120
  go_wp2_with (go_at_call 203; refine (HD _ (by (repeat (first | with_reducible exact Ext.refl _ | with_reducible assumption | refine Ext.trans ?_ (by with_reducible assumption) | refine Ext.alloc ?_ _ _ | refine Ext.drew ?_ | refine Ext.drewN ?_ _)))).mono ?_; rintro e w9 ⟨rfl, hq⟩)
  go_end0
  exact ⟨rfl, hq⟩
set_option maxRecDepth 100000 in
set_option maxHeartbeats 6400000 in
theorem mExec_72 {w : World} {g : Nat} {Q : World → Prop} (HC : ∀ W, Ext w W → Calls Hvah.prog 205 #[.pointer (some ⟨g, 0, none⟩)] W fun e w' => e = .returned (.tuple #[]) ∧ Q w') : Calls Hvah.prog 120 #[.pointer (some ⟨g, 0, none⟩), .int .u8 72] w fun e w' => e = .returned (.tuple #[]) ∧ Q w' := by
  have HD := HC
  go_enter Hvah.func120, Hvah.ntmps120
  go_wp2_with (go_at_call 205; refine (HD _ (by (repeat (first | with_reducible exact Ext.refl _ | with_reducible assumption | refine Ext.trans ?_ (by with_reducible assumption) | refine Ext.alloc ?_ _ _ | refine Ext.drew ?_ | refine Ext.drewN ?_ _)))).mono ?_; rintro e w9 ⟨rfl, hq⟩)
  go_end0
  exact ⟨rfl, hq⟩
set_option maxRecDepth 100000 in
set_option maxHeartbeats 6400000 in
theorem mExec_80 {w : World} {g : Nat} {Q : World → Prop} (HC : ∀ W, Ext w W → Calls Hvah.prog 214 #[.pointer (some ⟨g, 0, none⟩)] W fun e w' => e = .returned (.tuple #[]) ∧ Q w') : Calls Hvah.prog 120 #[.pointer (some ⟨g, 0, none⟩), .int .u8 80] w fun e w' => e = .returned (.tuple #[]) ∧ Q w' := by
  have HD := HC
  go_enter Hvah.func120, Hvah.ntmps120
  go_wp2_with (go_at_call 214; refine (HD _ (by (repeat (first | with_reducible exact Ext.refl _ | with_reducible assumption | refine Ext.trans ?_ (by with_reducible assumption) | refine Ext.alloc ?_ _ _ | refine Ext.drew ?_ | refine Ext.drewN ?_ _)))).mono ?_; rintro e w9 ⟨rfl, hq⟩)
  go_end0
  exact ⟨rfl, hq⟩
set_option maxRecDepth 100000 in
set_option maxHeartbeats 6400000 in
theorem mExec_81 {w : World} {g : Nat} {Q : World → Prop} (HC : ∀ W, Ext w W → Calls Hvah.prog 206 #[.pointer (some ⟨g, 0, none⟩)] W fun e w' => e = .returned (.tuple #[]) ∧ Q w') : Calls Hvah.prog 120 #[.pointer (some ⟨g, 0, none⟩), .int .u8 81] w fun e w' => e = .returned (.tuple #[]) ∧ Q w' := by
  have HD := HC
  go_enter Hvah.func120, Hvah.ntmps120
  go_wp2_with (go_at_call 206; refine (HD _ (by (repeat (first | with_reducible exact Ext.refl _ | with_reducible assumption | refine Ext.trans ?_ (by with_reducible assumption) | refine Ext.alloc ?_ _ _ | refine Ext.drew ?_ | refine Ext.drewN ?_ _)))).mono ?_; rintro e w9 ⟨rfl, hq⟩)
  go_end0
  exact ⟨rfl, hq⟩
set_option maxRecDepth 100000 in
set_option maxHeartbeats 6400000 in
theorem mExec_82 {w : World} {g : Nat} {Q : World → Prop} (HC : ∀ W, Ext w W → Calls Hvah.prog 206 #[.pointer (some ⟨g, 0, none⟩)] W fun e w' => e = .returned (.tuple #[]) ∧ Q w') : Calls Hvah.prog 120 #[.pointer (some ⟨g, 0, none⟩), .int .u8 82] w fun e w' => e = .returned (.tuple #[]) ∧ Q w' := by
  have HD := HC
  go_enter Hvah.func120, Hvah.ntmps120
  go_wp2_with (go_at_call 206; refine (HD _ (by (repeat (first | with_reducible exact Ext.refl _ | with_reducible assumption | refine Ext.trans ?_ (by with_reducible assumption) | refine Ext.alloc ?_ _ _ | refine Ext.drew ?_ | refine Ext.drewN ?_ _)))).mono ?_; rintro e w9 ⟨rfl, hq⟩)
  go_end0
  exact ⟨rfl, hq⟩
set_option maxRecDepth 100000 in
set_option maxHeartbeats 6400000 in
theorem mExec_83 {w : World} {g : Nat} {Q : World → Prop} (HC : ∀ W, Ext w W → Calls Hvah.prog 206 #[.pointer (some ⟨g, 0, none⟩)] W fun e w' => e = .returned (.tuple #[]) ∧ Q w') : Calls Hvah.prog 120 #[.pointer (some ⟨g, 0, none⟩), .int .u8 83] w fun e w' => e = .returned (.tuple #[]) ∧ Q w' := by
  have HD := HC
  go_enter Hvah.func120, Hvah.ntmps120
  go_wp2_with (go_at_call 206; refine (HD _ (by (repeat (first | with_reducible exact Ext.refl _ | with_reducible assumption | refine Ext.trans ?_ (by with_reducible assumption) | refine Ext.alloc ?_ _ _ | refine Ext.drew ?_ | refine Ext.drewN ?_ _)))).mono ?_; rintro e w9 ⟨rfl, hq⟩)
  go_end0
  exact ⟨rfl, hq⟩
set_option maxRecDepth 100000 in
set_option maxHeartbeats 6400000 in
theorem mExec_84 {w : World} {g : Nat} {Q : World → Prop} (HC : ∀ W, Ext w W → Calls Hvah.prog 207 #[.pointer (some ⟨g, 0, none⟩)] W fun e w' => e = .returned (.tuple #[]) ∧ Q w') : Calls Hvah.prog 120 #[.pointer (some ⟨g, 0, none⟩), .int .u8 84] w fun e w' => e = .returned (.tuple #[]) ∧ Q w' := by
  have HD := HC
  go_enter Hvah.func120, Hvah.ntmps120
  go_wp2_with (go_at_call 207; refine (HD _ (by (repeat (first | with_reducible exact Ext.refl _ | with_reducible assumption | refine Ext.trans ?_ (by with_reducible assumption) | refine Ext.alloc ?_ _ _ | refine Ext.drew ?_ | refine Ext.drewN ?_ _)))).mono ?_; rintro e w9 ⟨rfl, hq⟩)
  go_end0
  exact ⟨rfl, hq⟩
set_option maxRecDepth 100000 in
set_option maxHeartbeats 6400000 in
theorem mExec_85 {w : World} {g : Nat} {Q : World → Prop} (HC : ∀ W, Ext w W → Calls Hvah.prog 207 #[.pointer (some ⟨g, 0, none⟩)] W fun e w' => e = .returned (.tuple #[]) ∧ Q w') : Calls Hvah.prog 120 #[.pointer (some ⟨g, 0, none⟩), .int .u8 85] w fun e w' => e = .returned (.tuple #[]) ∧ Q w' := by
  have HD := HC
  go_enter Hvah.func120, Hvah.ntmps120
  go_wp2_with (go_at_call 207; refine (HD _ (by (repeat (first | with_reducible exact Ext.refl _ | with_reducible assumption | refine Ext.trans ?_ (by with_reducible assumption) | refine Ext.alloc ?_ _ _ | refine Ext.drew ?_ | refine Ext.drewN ?_ _)))).mono ?_; rintro e w9 ⟨rfl, hq⟩)
  go_end0
  exact ⟨rfl, hq⟩
set_option maxRecDepth 100000 in
set_option maxHeartbeats 6400000 in
theorem mExec_86 {w : World} {g : Nat} {Q : World → Prop} (HC : ∀ W, Ext w W → Calls Hvah.prog 208 #[.pointer (some ⟨g, 0, none⟩)] W fun e w' => e = .returned (.tuple #[]) ∧ Q w') : Calls Hvah.prog 120 #[.pointer (some ⟨g, 0, none⟩), .int .u8 86] w fun e w' => e = .returned (.tuple #[]) ∧ Q w' := by
  have HD := HC
  go_enter Hvah.func120, Hvah.ntmps120
  go_wp2_with (go_at_call 208; refine (HD _ (by (repeat (first | with_reducible exact Ext.refl _ | with_reducible assumption | refine Ext.trans ?_ (by with_reducible assumption) | refine Ext.alloc ?_ _ _ | refine Ext.drew ?_ | refine Ext.drewN ?_ _)))).mono ?_; rintro e w9 ⟨rfl, hq⟩)
  go_end0
  exact ⟨rfl, hq⟩
set_option maxRecDepth 100000 in
set_option maxHeartbeats 6400000 in
theorem mExec_87 {w : World} {g : Nat} {Q : World → Prop} (HC : ∀ W, Ext w W → Calls Hvah.prog 208 #[.pointer (some ⟨g, 0, none⟩)] W fun e w' => e = .returned (.tuple #[]) ∧ Q w') : Calls Hvah.prog 120 #[.pointer (some ⟨g, 0, none⟩), .int .u8 87] w fun e w' => e = .returned (.tuple #[]) ∧ Q w' := by
  have HD := HC
  go_enter Hvah.func120, Hvah.ntmps120
  go_wp2_with (go_at_call 208; refine (HD _ (by (repeat (first | with_reducible exact Ext.refl _ | with_reducible assumption | refine Ext.trans ?_ (by with_reducible assumption) | refine Ext.alloc ?_ _ _ | refine Ext.drew ?_ | refine Ext.drewN ?_ _)))).mono ?_; rintro e w9 ⟨rfl, hq⟩)
  go_end0
  exact ⟨rfl, hq⟩
set_option maxRecDepth 100000 in
set_option maxHeartbeats 6400000 in
theorem mExec_88 {w : World} {g : Nat} {Q : World → Prop} (HC : ∀ W, Ext w W → Calls Hvah.prog 203 #[.pointer (some ⟨g, 0, none⟩)] W fun e w' => e = .returned (.tuple #[]) ∧ Q w') : Calls Hvah.prog 120 #[.pointer (some ⟨g, 0, none⟩), .int .u8 88] w fun e w' => e = .returned (.tuple #[]) ∧ Q w' := by
  have HD := HC
  go_enter Hvah.func120, Hvah.ntmps120
  go_wp2_with (go_at_call 203; refine (HD _ (by (repeat (first | with_reducible exact Ext.refl _ | with_reducible assumption | refine Ext.trans ?_ (by with_reducible assumption) | refine Ext.alloc ?_ _ _ | refine Ext.drew ?_ | refine Ext.drewN ?_ _)))).mono ?_; rintro e w9 ⟨rfl, hq⟩)
  go_end0
  exact ⟨rfl, hq⟩
set_option maxRecDepth 100000 in
set_option maxHeartbeats 6400000 in
theorem mExec_89 {w : World} {g : Nat} {Q : World → Prop} (HC : ∀ W, Ext w W → Calls Hvah.prog 203 #[.pointer (some ⟨g, 0, none⟩)] W fun e w' => e = .returned (.tuple #[]) ∧ Q w') : Calls Hvah.prog 120 #[.pointer (some ⟨g, 0, none⟩), .int .u8 89] w fun e w' => e = .returned (.tuple #[]) ∧ Q w' := by
  have HD := HC
  go_enter Hvah.func120, Hvah.ntmps120
  go_wp2_with (go_at_call 203; refine (HD _ (by (repeat (first | with_reducible exact Ext.refl _ | with_reducible assumption | refine Ext.trans ?_ (by with_reducible assumption) | refine Ext.alloc ?_ _ _ | refine Ext.drew ?_ | refine Ext.drewN ?_ _)))).mono ?_; rintro e w9 ⟨rfl, hq⟩)
  go_end0
  exact ⟨rfl, hq⟩
set_option maxRecDepth 100000 in
set_option maxHeartbeats 6400000 in
theorem mExec_90 {w : World} {g : Nat} {Q : World → Prop} (HC : ∀ W, Ext w W → Calls Hvah.prog 203 #[.pointer (some ⟨g, 0, none⟩)] W fun e w' => e = .returned (.tuple #[]) ∧ Q w') : Calls Hvah.prog 120 #[.pointer (some ⟨g, 0, none⟩), .int .u8 90] w fun e w' => e = .returned (.tuple #[]) ∧ Q w' := by
  have HD := HC
  go_enter Hvah.func120, Hvah.ntmps120
  go_wp2_with (go_at_call 203; refine (HD _ (by (repeat (first | with_reducible exact Ext.refl _ | with_reducible assumption | refine Ext.trans ?_ (by with_reducible assumption) | refine Ext.alloc ?_ _ _ | refine Ext.drew ?_ | refine Ext.drewN ?_ _)))).mono ?_; rintro e w9 ⟨rfl, hq⟩)
  go_end0
  exact ⟨rfl, hq⟩
set_option maxRecDepth 100000 in
set_option maxHeartbeats 6400000 in
theorem mExec_91 {w : World} {g : Nat} {Q : World → Prop} (HC : ∀ W, Ext w W → Calls Hvah.prog 208 #[.pointer (some ⟨g, 0, none⟩)] W fun e w' => e = .returned (.tuple #[]) ∧ Q w') : Calls Hvah.prog 120 #[.pointer (some ⟨g, 0, none⟩), .int .u8 91] w fun e w' => e = .returned (.tuple #[]) ∧ Q w' := by
  have HD := HC
  go_enter Hvah.func120, Hvah.ntmps120
  go_wp2_with (go_at_call 208; refine (HD _ (by (repeat (first | with_reducible exact Ext.refl _ | with_reducible assumption | refine Ext.trans ?_ (by with_reducible assumption) | refine Ext.alloc ?_ _ _ | refine Ext.drew ?_ | refine Ext.drewN ?_ _)))).mono ?_; rintro e w9 ⟨rfl, hq⟩)
  go_end0
  exact ⟨rfl, hq⟩
set_option maxRecDepth 100000 in
set_option maxHeartbeats 6400000 in
theorem mExec_92 {w : World} {g : Nat} {Q : World → Prop} (HC : ∀ W, Ext w W → Calls Hvah.prog 210 #[.pointer (some ⟨g, 0, none⟩)] W fun e w' => e = .returned (.tuple #[]) ∧ Q w') : Calls Hvah.prog 120 #[.pointer (some ⟨g, 0, none⟩), .int .u8 92] w fun e w' => e = .returned (.tuple #[]) ∧ Q w' := by
  have HD := HC
  go_enter Hvah.func120, Hvah.ntmps120
  go_wp2_with (go_at_call 210; refine (HD _ (by (repeat (first | with_reducible exact Ext.refl _ | with_reducible assumption | refine Ext.trans ?_ (by with_reducible assumption) | refine Ext.alloc ?_ _ _ | refine Ext.drew ?_ | refine Ext.drewN ?_ _)))).mono ?_; rintro e w9 ⟨rfl, hq⟩)
  go_end0
  exact ⟨rfl, hq⟩
set_option maxRecDepth 100000 in
set_option maxHeartbeats 6400000 in
theorem mExec_93 {w : World} {g : Nat} {Q : World → Prop} (HC : ∀ W, Ext w W → Calls Hvah.prog 210 #[.pointer (some ⟨g, 0, none⟩)] W fun e w' => e = .returned (.tuple #[]) ∧ Q w') : Calls Hvah.prog 120 #[.pointer (some ⟨g, 0, none⟩), .int .u8 93] w fun e w' => e = .returned (.tuple #[]) ∧ Q w' := by
  have HD := HC
  go_enter Hvah.func120, Hvah.ntmps120
  go_wp2_with (go_at_call 210; refine (HD _ (by (repeat (first | with_reducible exact Ext.refl _ | with_reducible assumption | refine Ext.trans ?_ (by with_reducible assumption) | refine Ext.alloc ?_ _ _ | refine Ext.drew ?_ | refine Ext.drewN ?_ _)))).mono ?_; rintro e w9 ⟨rfl, hq⟩)
  go_end0
  exact ⟨rfl, hq⟩
set_option maxRecDepth 100000 in
set_option maxHeartbeats 6400000 in
theorem mExec_94 {w : World} {g : Nat} {Q : World → Prop} (HC : ∀ W, Ext w W → Calls Hvah.prog 204 #[.pointer (some ⟨g, 0, none⟩)] W fun e w' => e = .returned (.tuple #[]) ∧ Q w') : Calls Hvah.prog 120 #[.pointer (some ⟨g, 0, none⟩), .int .u8 94] w fun e w' => e = .returned (.tuple #[]) ∧ Q w' := by
  have HD := HC
  go_enter Hvah.func120, Hvah.ntmps120
  go_wp2_with (go_at_call 204; refine (HD _ (by (repeat (first | with_reducible exact Ext.refl _ | with_reducible assumption | refine Ext.trans ?_ (by with_reducible assumption) | refine Ext.alloc ?_ _ _ | refine Ext.drew ?_ | refine Ext.drewN ?_ _)))).mono ?_; rintro e w9 ⟨rfl, hq⟩)
  go_end0
  exact ⟨rfl, hq⟩
set_option maxRecDepth 100000 in
set_option maxHeartbeats 6400000 in
theorem mExec_95 {w : World} {g : Nat} {Q : World → Prop} (HC : ∀ W, Ext w W → Calls Hvah.prog 325 #[.pointer (some ⟨g, 0, none⟩)] W fun e w' => e = .returned (.tuple #[]) ∧ Q w') : Calls Hvah.prog 120 #[.pointer (some ⟨g, 0, none⟩), .int .u8 95] w fun e w' => e = .returned (.tuple #[]) ∧ Q w' := by
  have HD := fun W (hW : Ext w W) => mRows_95 (fun W1 h1 => HC W1 (hW.trans h1))
  go_enter Hvah.func120, Hvah.ntmps120
  go_wp2_with (go_at_call 215; refine (HD _ (by (repeat (first | with_reducible exact Ext.refl _ | with_reducible assumption | refine Ext.trans ?_ (by with_reducible assumption) | refine Ext.alloc ?_ _ _ | refine Ext.drew ?_ | refine Ext.drewN ?_ _)))).mono ?_; rintro e w9 ⟨rfl, hq⟩)
  go_end0
  exact ⟨rfl, hq⟩
set_option maxRecDepth 100000 in
set_option maxHeartbeats 6400000 in
theorem mExec_96 {w : World} {g : Nat} {Q : World → Prop} (HC : ∀ W, Ext w W → Calls Hvah.prog 325 #[.pointer (some ⟨g, 0, none⟩)] W fun e w' => e = .returned (.tuple #[]) ∧ Q w') : Calls Hvah.prog 120 #[.pointer (some ⟨g, 0, none⟩), .int .u8 96] w fun e w' => e = .returned (.tuple #[]) ∧ Q w' := by
  have HD := fun W (hW : Ext w W) => mRows_96 (fun W1 h1 => HC W1 (hW.trans h1))
  go_enter Hvah.func120, Hvah.ntmps120
  go_wp2_with (go_at_call 215; refine (HD _ (by (repeat (first | with_reducible exact Ext.refl _ | with_reducible assumption | refine Ext.trans ?_ (by with_reducible assumption) | refine Ext.alloc ?_ _ _ | refine Ext.drew ?_ | refine Ext.drewN ?_ _)))).mono ?_; rintro e w9 ⟨rfl, hq⟩)
  go_end0
  exact ⟨rfl, hq⟩
set_option maxRecDepth 100000 in
set_option maxHeartbeats 6400000 in
theorem mExec_97 {w : World} {g : Nat} {Q : World → Prop} (HC : ∀ W, Ext w W → Calls Hvah.prog 325 #[.pointer (some ⟨g, 0, none⟩)] W fun e w' => e = .returned (.tuple #[]) ∧ Q w') : Calls Hvah.prog 120 #[.pointer (some ⟨g, 0, none⟩), .int .u8 97] w fun e w' => e = .returned (.tuple #[]) ∧ Q w' := by
  have HD := fun W (hW : Ext w W) => mRows_97 (fun W1 h1 => HC W1 (hW.trans h1))
  go_enter Hvah.func120, Hvah.ntmps120
  go_wp2_with (go_at_call 215; refine (HD _ (by (repeat (first | with_reducible exact Ext.refl _ | with_reducible assumption | refine Ext.trans ?_ (by with_reducible assumption) | refine Ext.alloc ?_ _ _ | refine Ext.drew ?_ | refine Ext.drewN ?_ _)))).mono ?_; rintro e w9 ⟨rfl, hq⟩)
  go_end0
  exact ⟨rfl, hq⟩
set_option maxRecDepth 100000 in
set_option maxHeartbeats 6400000 in
theorem mExec_98 {w : World} {g : Nat} {Q : World → Prop} (HC : ∀ W, Ext w W → Calls Hvah.prog 325 #[.pointer (some ⟨g, 0, none⟩)] W fun e w' => e = .returned (.tuple #[]) ∧ Q w') : Calls Hvah.prog 120 #[.pointer (some ⟨g, 0, none⟩), .int .u8 98] w fun e w' => e = .returned (.tuple #[]) ∧ Q w' := by
  have HD := fun W (hW : Ext w W) => mRows_98 (fun W1 h1 => HC W1 (hW.trans h1))
  go_enter Hvah.func120, Hvah.ntmps120
  go_wp2_with (go_at_call 215; refine (HD _ (by (repeat (first | with_reducible exact Ext.refl _ | with_reducible assumption | refine Ext.trans ?_ (by with_reducible assumption) | refine Ext.alloc ?_ _ _ | refine Ext.drew ?_ | refine Ext.drewN ?_ _)))).mono ?_; rintro e w9 ⟨rfl, hq⟩)
  go_end0
  exact ⟨rfl, hq⟩
set_option maxRecDepth 100000 in
set_option maxHeartbeats 6400000 in
theorem mExec_99 {w : World} {g : Nat} {Q : World → Prop} (HC : ∀ W, Ext w W → Calls Hvah.prog 325 #[.pointer (some ⟨g, 0, none⟩)] W fun e w' => e = .returned (.tuple #[]) ∧ Q w') : Calls Hvah.prog 120 #[.pointer (some ⟨g, 0, none⟩), .int .u8 99] w fun e w' => e = .returned (.tuple #[]) ∧ Q w' := by
  have HD := fun W (hW : Ext w W) => mRows_99 (fun W1 h1 => HC W1 (hW.trans h1))
  go_enter Hvah.func120, Hvah.ntmps120
  go_wp2_with (go_at_call 215; refine (HD _ (by (repeat (first | with_reducible exact Ext.refl _ | with_reducible assumption | refine Ext.trans ?_ (by with_reducible assumption) | refine Ext.alloc ?_ _ _ | refine Ext.drew ?_ | refine Ext.drewN ?_ _)))).mono ?_; rintro e w9 ⟨rfl, hq⟩)
  go_end0
  exact ⟨rfl, hq⟩
set_option maxRecDepth 100000 in
set_option maxHeartbeats 6400000 in
theorem mExec_100 {w : World} {g : Nat} {Q : World → Prop} (HC : ∀ W, Ext w W → Calls Hvah.prog 325 #[.pointer (some ⟨g, 0, none⟩)] W fun e w' => e = .returned (.tuple #[]) ∧ Q w') : Calls Hvah.prog 120 #[.pointer (some ⟨g, 0, none⟩), .int .u8 100] w fun e w' => e = .returned (.tuple #[]) ∧ Q w' := by
  have HD := fun W (hW : Ext w W) => mRows_100 (fun W1 h1 => HC W1 (hW.trans h1))
  go_enter Hvah.func120, Hvah.ntmps120
  go_wp2_with (go_at_call 215; refine (HD _ (by (repeat (first | with_reducible exact Ext.refl _ | with_reducible assumption | refine Ext.trans ?_ (by with_reducible assumption) | refine Ext.alloc ?_ _ _ | refine Ext.drew ?_ | refine Ext.drewN ?_ _)))).mono ?_; rintro e w9 ⟨rfl, hq⟩)
  go_end0
  exact ⟨rfl, hq⟩
set_option maxRecDepth 100000 in
set_option maxHeartbeats 6400000 in
theorem mExec_101 {w : World} {g : Nat} {Q : World → Prop} (HC : ∀ W, Ext w W → Calls Hvah.prog 325 #[.pointer (some ⟨g, 0, none⟩)] W fun e w' => e = .returned (.tuple #[]) ∧ Q w') : Calls Hvah.prog 120 #[.pointer (some ⟨g, 0, none⟩), .int .u8 101] w fun e w' => e = .returned (.tuple #[]) ∧ Q w' := by
  have HD := fun W (hW : Ext w W) => mRows_101 (fun W1 h1 => HC W1 (hW.trans h1))
  go_enter Hvah.func120, Hvah.ntmps120
  go_wp2_with (go_at_call 215; refine (HD _ (by (repeat (first | with_reducible exact Ext.refl _ | with_reducible assumption | refine Ext.trans ?_ (by with_reducible assumption) | refine Ext.alloc ?_ _ _ | refine Ext.drew ?_ | refine Ext.drewN ?_ _)))).mono ?_; rintro e w9 ⟨rfl, hq⟩)
  go_end0
  exact ⟨rfl, hq⟩
set_option maxRecDepth 100000 in
set_option maxHeartbeats 6400000 in
theorem mExec_102 {w : World} {g : Nat} {Q : World → Prop} (HC : ∀ W, Ext w W → Calls Hvah.prog 325 #[.pointer (some ⟨g, 0, none⟩)] W fun e w' => e = .returned (.tuple #[]) ∧ Q w') : Calls Hvah.prog 120 #[.pointer (some ⟨g, 0, none⟩), .int .u8 102] w fun e w' => e = .returned (.tuple #[]) ∧ Q w' := by
  have HD := fun W (hW : Ext w W) => mRows_102 (fun W1 h1 => HC W1 (hW.trans h1))
  go_enter Hvah.func120, Hvah.ntmps120
  go_wp2_with (go_at_call 215; refine (HD _ (by (repeat (first | with_reducible exact Ext.refl _ | with_reducible assumption | refine Ext.trans ?_ (by with_reducible assumption) | refine Ext.alloc ?_ _ _ | refine Ext.drew ?_ | refine Ext.drewN ?_ _)))).mono ?_; rintro e w9 ⟨rfl, hq⟩)
  go_end0
  exact ⟨rfl, hq⟩
end Go.Proofs.YgvahwGreat
