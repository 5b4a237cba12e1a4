import Derived.Test.YgvahwGreatMLa
import Derived.Test.YgvahwGreatOe0
namespace Go.Proofs.YgvahwGreat
open Go.RowKit
set_option linter.unusedSimpArgs false
set_option maxRecDepth 100000 in
set_option maxHeartbeats 6400000 in
theorem mExec_103 {w : World} {g : Nat} {Q : World → Prop} (HC : ∀ W, Ext w W → Calls Hvah.prog 325 #[.pointer (some ⟨g, 0, none⟩)] W fun e w' => e = .returned (.tuple #[]) ∧ Q w') : Calls Hvah.prog 120 #[.pointer (some ⟨g, 0, none⟩), .int .u8 103] w fun e w' => e = .returned (.tuple #[]) ∧ Q w' := by
  have HD := fun W (hW : Ext w W) => mRows_103 (fun W1 h1 => HC W1 (hW.trans h1))
  go_enter Hvah.func120, Hvah.ntmps120
  go_wp2_with (go_at_call 215; refine (HD _ (by (repeat (first | with_reducible exact Ext.refl _ | with_reducible assumption | refine Ext.trans ?_ (by with_reducible assumption) | refine Ext.alloc ?_ _ _ | refine Ext.drew ?_ | refine Ext.drewN ?_ _)))).mono ?_; rintro e w9 ⟨rfl, hq⟩)
  go_end0
  exact ⟨rfl, hq⟩
set_option maxRecDepth 100000 in
set_option maxHeartbeats 6400000 in
theorem mExec_104 {w : World} {g : Nat} {Q : World → Prop} (HC : ∀ W, Ext w W → Calls Hvah.prog 325 #[.pointer (some ⟨g, 0, none⟩)] W fun e w' => e = .returned (.tuple #[]) ∧ Q w') : Calls Hvah.prog 120 #[.pointer (some ⟨g, 0, none⟩), .int .u8 104] w fun e w' => e = .returned (.tuple #[]) ∧ Q w' := by
  have HD := fun W (hW : Ext w W) => mRows_104 (fun W1 h1 => HC W1 (hW.trans h1))
  go_enter Hvah.func120, Hvah.ntmps120
  go_wp2_with (go_at_call 215; refine (HD _ (by (repeat (first | with_reducible exact Ext.refl _ | with_reducible assumption | refine Ext.trans ?_ (by with_reducible assumption) | refine Ext.alloc ?_ _ _ | refine Ext.drew ?_ | refine Ext.drewN ?_ _)))).mono ?_; rintro e w9 ⟨rfl, hq⟩)
  go_end0
  exact ⟨rfl, hq⟩
set_option maxRecDepth 100000 in
set_option maxHeartbeats 6400000 in
theorem mExec_105 {w : World} {g : Nat} {Q : World → Prop} (HC : ∀ W, Ext w W → Calls Hvah.prog 325 #[.pointer (some ⟨g, 0, none⟩)] W fun e w' => e = .returned (.tuple #[]) ∧ Q w') : Calls Hvah.prog 120 #[.pointer (some ⟨g, 0, none⟩), .int .u8 105] w fun e w' => e = .returned (.tuple #[]) ∧ Q w' := by
  have HD := fun W (hW : Ext w W) => mRows_105 (fun W1 h1 => HC W1 (hW.trans h1))
  go_enter Hvah.func120, Hvah.ntmps120
  go_wp2_with (go_at_call 215; refine (HD _ (by (repeat (first | with_reducible exact Ext.refl _ | with_reducible assumption | refine Ext.trans ?_ (by with_reducible assumption) | refine Ext.alloc ?_ _ _ | refine Ext.drew ?_ | refine Ext.drewN ?_ _)))).mono ?_; rintro e w9 ⟨rfl, hq⟩)
  go_end0
  exact ⟨rfl, hq⟩
set_option maxRecDepth 100000 in
set_option maxHeartbeats 6400000 in
theorem mExec_106 {w : World} {g : Nat} {Q : World → Prop} (HC : ∀ W, Ext w W → Calls Hvah.prog 325 #[.pointer (some ⟨g, 0, none⟩)] W fun e w' => e = .returned (.tuple #[]) ∧ Q w') : Calls Hvah.prog 120 #[.pointer (some ⟨g, 0, none⟩), .int .u8 106] w fun e w' => e = .returned (.tuple #[]) ∧ Q w' := by
  have HD := fun W (hW : Ext w W) => mRows_106 (fun W1 h1 => HC W1 (hW.trans h1))
  go_enter Hvah.func120, Hvah.ntmps120
  go_wp2_with (go_at_call 215; refine (HD _ (by (repeat (first | with_reducible exact Ext.refl _ | with_reducible assumption | refine Ext.trans ?_ (by with_reducible assumption) | refine Ext.alloc ?_ _ _ | refine Ext.drew ?_ | refine Ext.drewN ?_ _)))).mono ?_; rintro e w9 ⟨rfl, hq⟩)
  go_end0
  exact ⟨rfl, hq⟩
set_option maxRecDepth 100000 in
set_option maxHeartbeats 6400000 in
theorem mExec_107 {w : World} {g : Nat} {Q : World → Prop} (HC : ∀ W, Ext w W → Calls Hvah.prog 325 #[.pointer (some ⟨g, 0, none⟩)] W fun e w' => e = .returned (.tuple #[]) ∧ Q w') : Calls Hvah.prog 120 #[.pointer (some ⟨g, 0, none⟩), .int .u8 107] w fun e w' => e = .returned (.tuple #[]) ∧ Q w' := by
  have HD := fun W (hW : Ext w W) => mRows_107 (fun W1 h1 => HC W1 (hW.trans h1))
  go_enter Hvah.func120, Hvah.ntmps120
  go_wp2_with (go_at_call 215; refine (HD _ (by (repeat (first | with_reducible exact Ext.refl _ | with_reducible assumption | refine Ext.trans ?_ (by with_reducible assumption) | refine Ext.alloc ?_ _ _ | refine Ext.drew ?_ | refine Ext.drewN ?_ _)))).mono ?_; rintro e w9 ⟨rfl, hq⟩)
  go_end0
  exact ⟨rfl, hq⟩
set_option maxRecDepth 100000 in
set_option maxHeartbeats 6400000 in
theorem mExec_108 {w : World} {g : Nat} {Q : World → Prop} (HC : ∀ W, Ext w W → Calls Hvah.prog 325 #[.pointer (some ⟨g, 0, none⟩)] W fun e w' => e = .returned (.tuple #[]) ∧ Q w') : Calls Hvah.prog 120 #[.pointer (some ⟨g, 0, none⟩), .int .u8 108] w fun e w' => e = .returned (.tuple #[]) ∧ Q w' := by
  have HD := fun W (hW : Ext w W) => mRows_108 (fun W1 h1 => HC W1 (hW.trans h1))
  go_enter Hvah.func120, Hvah.ntmps120
  go_wp2_with (go_at_call 215; refine (HD _ (by (repeat (first | with_reducible exact Ext.refl _ | with_reducible assumption | refine Ext.trans ?_ (by with_reducible assumption) | refine Ext.alloc ?_ _ _ | refine Ext.drew ?_ | refine Ext.drewN ?_ _)))).mono ?_; rintro e w9 ⟨rfl, hq⟩)
  go_end0
  exact ⟨rfl, hq⟩
set_option maxRecDepth 100000 in
set_option maxHeartbeats 6400000 in
theorem mExec_109 {w : World} {g : Nat} {Q : World → Prop} (HC : ∀ W, Ext w W → Calls Hvah.prog 325 #[.pointer (some ⟨g, 0, none⟩)] W fun e w' => e = .returned (.tuple #[]) ∧ Q w') : Calls Hvah.prog 120 #[.pointer (some ⟨g, 0, none⟩), .int .u8 109] w fun e w' => e = .returned (.tuple #[]) ∧ Q w' := by
  have HD := fun W (hW : Ext w W) => mRows_109 (fun W1 h1 => HC W1 (hW.trans h1))
  go_enter Hvah.func120, Hvah.ntmps120
  go_wp2_with (go_at_call 215; refine (HD _ (by (repeat (first | with_reducible exact Ext.refl _ | with_reducible assumption | refine Ext.trans ?_ (by with_reducible assumption) | refine Ext.alloc ?_ _ _ | refine Ext.drew ?_ | refine Ext.drewN ?_ _)))).mono ?_; rintro e w9 ⟨rfl, hq⟩)
  go_end0
  exact ⟨rfl, hq⟩
set_option maxRecDepth 100000 in
set_option maxHeartbeats 6400000 in
theorem mExec_110 {w : World} {g : Nat} {Q : World → Prop} (HC : ∀ W, Ext w W → Calls Hvah.prog 325 #[.pointer (some ⟨g, 0, none⟩)] W fun e w' => e = .returned (.tuple #[]) ∧ Q w') : Calls Hvah.prog 120 #[.pointer (some ⟨g, 0, none⟩), .int .u8 110] w fun e w' => e = .returned (.tuple #[]) ∧ Q w' := by
  have HD := fun W (hW : Ext w W) => mRows_110 (fun W1 h1 => HC W1 (hW.trans h1))
  go_enter Hvah.func120, Hvah.ntmps120
  go_wp2_with (go_at_call 215; refine (HD _ (by (repeat (first | with_reducible exact Ext.refl _ | with_reducible assumption | refine Ext.trans ?_ (by with_reducible assumption) | refine Ext.alloc ?_ _ _ | refine Ext.drew ?_ | refine Ext.drewN ?_ _)))).mono ?_; rintro e w9 ⟨rfl, hq⟩)
  go_end0
  exact ⟨rfl, hq⟩
set_option maxRecDepth 100000 in
set_option maxHeartbeats 6400000 in
theorem mExec_111 {w : World} {g : Nat} {Q : World → Prop} (HC : ∀ W, Ext w W → Calls Hvah.prog 325 #[.pointer (some ⟨g, 0, none⟩)] W fun e w' => e = .returned (.tuple #[]) ∧ Q w') : Calls Hvah.prog 120 #[.pointer (some ⟨g, 0, none⟩), .int .u8 111] w fun e w' => e = .returned (.tuple #[]) ∧ Q w' := by
  have HD := fun W (hW : Ext w W) => mRows_111 (fun W1 h1 => HC W1 (hW.trans h1))
  go_enter Hvah.func120, Hvah.ntmps120
  go_wp2_with (go_at_call 215; refine (HD _ (by (repeat (first | with_reducible exact Ext.refl _ | with_reducible assumption | refine Ext.trans ?_ (by with_reducible assumption) | refine Ext.alloc ?_ _ _ | refine Ext.drew ?_ | refine Ext.drewN ?_ _)))).mono ?_; rintro e w9 ⟨rfl, hq⟩)
  go_end0
  exact ⟨rfl, hq⟩
set_option maxRecDepth 100000 in
set_option maxHeartbeats 6400000 in
theorem mExec_112 {w : World} {g : Nat} {Q : World → Prop} (HC : ∀ W, Ext w W → Calls Hvah.prog 325 #[.pointer (some ⟨g, 0, none⟩)] W fun e w' => e = .returned (.tuple #[]) ∧ Q w') : Calls Hvah.prog 120 #[.pointer (some ⟨g, 0, none⟩), .int .u8 112] w fun e w' => e = .returned (.tuple #[]) ∧ Q w' := by
  have HD := fun W (hW : Ext w W) => mRows_112 (fun W1 h1 => HC W1 (hW.trans h1))
  go_enter Hvah.func120, Hvah.ntmps120
  go_wp2_with (go_at_call 215; refine (HD _ (by (repeat (first | with_reducible exact Ext.refl _ | with_reducible assumption | refine Ext.trans ?_ (by with_reducible assumption) | refine Ext.alloc ?_ _ _ | refine Ext.drew ?_ | refine Ext.drewN ?_ _)))).mono ?_; rintro e w9 ⟨rfl, hq⟩)
  go_end0
  exact ⟨rfl, hq⟩
set_option maxRecDepth 100000 in
set_option maxHeartbeats 6400000 in
theorem mExec_113 {w : World} {g : Nat} {Q : World → Prop} (HC : ∀ W, Ext w W → Calls Hvah.prog 325 #[.pointer (some ⟨g, 0, none⟩)] W fun e w' => e = .returned (.tuple #[]) ∧ Q w') : Calls Hvah.prog 120 #[.pointer (some ⟨g, 0, none⟩), .int .u8 113] w fun e w' => e = .returned (.tuple #[]) ∧ Q w' := by
  have HD := fun W (hW : Ext w W) => mRows_113 (fun W1 h1 => HC W1 (hW.trans h1))
  go_enter Hvah.func120, Hvah.ntmps120
  go_wp2_with (go_at_call 215; refine (HD _ (by (repeat (first | with_reducible exact Ext.refl _ | with_reducible assumption | refine Ext.trans ?_ (by with_reducible assumption) | refine Ext.alloc ?_ _ _ | refine Ext.drew ?_ | refine Ext.drewN ?_ _)))).mono ?_; rintro e w9 ⟨rfl, hq⟩)
  go_end0
  exact ⟨rfl, hq⟩
set_option maxRecDepth 100000 in
set_option maxHeartbeats 6400000 in
theorem mExec_114 {w : World} {g : Nat} {Q : World → Prop} (HC : ∀ W, Ext w W → Calls Hvah.prog 325 #[.pointer (some ⟨g, 0, none⟩)] W fun e w' => e = .returned (.tuple #[]) ∧ Q w') : Calls Hvah.prog 120 #[.pointer (some ⟨g, 0, none⟩), .int .u8 114] w fun e w' => e = .returned (.tuple #[]) ∧ Q w' := by
  have HD := fun W (hW : Ext w W) => mRows_114 (fun W1 h1 => HC W1 (hW.trans h1))
  go_enter Hvah.func120, Hvah.ntmps120
  go_wp2_with (go_at_call 215; refine (HD _ (by (repeat (first | with_reducible exact Ext.refl _ | with_reducible assumption | refine Ext.trans ?_ (by with_reducible assumption) | refine Ext.alloc ?_ _ _ | refine Ext.drew ?_ | refine Ext.drewN ?_ _)))).mono ?_; rintro e w9 ⟨rfl, hq⟩)
  go_end0
  exact ⟨rfl, hq⟩
set_option maxRecDepth 100000 in
set_option maxHeartbeats 6400000 in
theorem mExec_115 {w : World} {g : Nat} {Q : World → Prop} (HC : ∀ W, Ext w W → Calls Hvah.prog 325 #[.pointer (some ⟨g, 0, none⟩)] W fun e w' => e = .returned (.tuple #[]) ∧ Q w') : Calls Hvah.prog 120 #[.pointer (some ⟨g, 0, none⟩), .int .u8 115] w fun e w' => e = .returned (.tuple #[]) ∧ Q w' := by
  have HD := fun W (hW : Ext w W) => mRows_115 (fun W1 h1 => HC W1 (hW.trans h1))
  go_enter Hvah.func120, Hvah.ntmps120
  go_wp2_with (go_at_call 215; refine (HD _ (by (repeat (first | with_reducible exact Ext.refl _ | with_reducible assumption | refine Ext.trans ?_ (by with_reducible assumption) | refine Ext.alloc ?_ _ _ | refine Ext.drew ?_ | refine Ext.drewN ?_ _)))).mono ?_; rintro e w9 ⟨rfl, hq⟩)
  go_end0
  exact ⟨rfl, hq⟩
set_option maxRecDepth 100000 in
set_option maxHeartbeats 6400000 in
theorem mExec_116 {w : World} {g : Nat} {Q : World → Prop} (HC : ∀ W, Ext w W → Calls Hvah.prog 325 #[.pointer (some ⟨g, 0, none⟩)] W fun e w' => e = .returned (.tuple #[]) ∧ Q w') : Calls Hvah.prog 120 #[.pointer (some ⟨g, 0, none⟩), .int .u8 116] w fun e w' => e = .returned (.tuple #[]) ∧ Q w' := by
  have HD := fun W (hW : Ext w W) => mRows_116 (fun W1 h1 => HC W1 (hW.trans h1))
  go_enter Hvah.func120, Hvah.ntmps120
  go_wp2_with (go_at_call 215; refine (HD _ (by (repeat (first | with_reducible exact Ext.refl _ | with_reducible assumption | refine Ext.trans ?_ (by with_reducible assumption) | refine Ext.alloc ?_ _ _ | refine Ext.drew ?_ | refine Ext.drewN ?_ _)))).mono ?_; rintro e w9 ⟨rfl, hq⟩)
  go_end0
  exact ⟨rfl, hq⟩
set_option maxRecDepth 100000 in
set_option maxHeartbeats 6400000 in
theorem mExec_117 {w : World} {g : Nat} {Q : World → Prop} (HC : ∀ W, Ext w W → Calls Hvah.prog 325 #[.pointer (some ⟨g, 0, none⟩)] W fun e w' => e = .returned (.tuple #[]) ∧ Q w') : Calls Hvah.prog 120 #[.pointer (some ⟨g, 0, none⟩), .int .u8 117] w fun e w' => e = .returned (.tuple #[]) ∧ Q w' := by
  have HD := fun W (hW : Ext w W) => mRows_117 (fun W1 h1 => HC W1 (hW.trans h1))
  go_enter Hvah.func120, Hvah.ntmps120
  go_wp2_with (go_at_call 215; refine (HD _ (by (repeat (first | with_reducible exact Ext.refl _ | with_reducible assumption | refine Ext.trans ?_ (by with_reducible assumption) | refine Ext.alloc ?_ _ _ | refine Ext.drew ?_ | refine Ext.drewN ?_ _)))).mono ?_; rintro e w9 ⟨rfl, hq⟩)
  go_end0
  exact ⟨rfl, hq⟩
set_option maxRecDepth 100000 in
set_option maxHeartbeats 6400000 in
theorem mExec_118 {w : World} {g : Nat} {Q : World → Prop} (HC : ∀ W, Ext w W → Calls Hvah.prog 325 #[.pointer (some ⟨g, 0, none⟩)] W fun e w' => e = .returned (.tuple #[]) ∧ Q w') : Calls Hvah.prog 120 #[.pointer (some ⟨g, 0, none⟩), .int .u8 118] w fun e w' => e = .returned (.tuple #[]) ∧ Q w' := by
  have HD := fun W (hW : Ext w W) => mRows_118 (fun W1 h1 => HC W1 (hW.trans h1))
  go_enter Hvah.func120, Hvah.ntmps120
  go_wp2_with (go_at_call 215; refine (HD _ (by (repeat (first | with_reducible exact Ext.refl _ | with_reducible assumption | refine Ext.trans ?_ (by with_reducible assumption) | refine Ext.alloc ?_ _ _ | refine Ext.drew ?_ | refine Ext.drewN ?_ _)))).mono ?_; rintro e w9 ⟨rfl, hq⟩)
  go_end0
  exact ⟨rfl, hq⟩
set_option maxRecDepth 100000 in
set_option maxHeartbeats 6400000 in
theorem mExec_119 {w : World} {g : Nat} {Q : World → Prop} (HC : ∀ W, Ext w W → Calls Hvah.prog 325 #[.pointer (some ⟨g, 0, none⟩)] W fun e w' => e = .returned (.tuple #[]) ∧ Q w') : Calls Hvah.prog 120 #[.pointer (some ⟨g, 0, none⟩), .int .u8 119] w fun e w' => e = .returned (.tuple #[]) ∧ Q w' := by
  have HD := fun W (hW : Ext w W) => mRows_119 (fun W1 h1 => HC W1 (hW.trans h1))
  go_enter Hvah.func120, Hvah.ntmps120
  go_wp2_with (go_at_call 215; refine (HD _ (by (repeat (first | with_reducible exact Ext.refl _ | with_reducible assumption | refine Ext.trans ?_ (by with_reducible assumption) | refine Ext.alloc ?_ _ _ | refine Ext.drew ?_ | refine Ext.drewN ?_ _)))).mono ?_; rintro e w9 ⟨rfl, hq⟩)
  go_end0
  exact ⟨rfl, hq⟩
set_option maxRecDepth 100000 in
set_option maxHeartbeats 6400000 in
theorem mExec_120 {w : World} {g : Nat} {Q : World → Prop} (HC : ∀ W, Ext w W → Calls Hvah.prog 325 #[.pointer (some ⟨g, 0, none⟩)] W fun e w' => e = .returned (.tuple #[]) ∧ Q w') : Calls Hvah.prog 120 #[.pointer (some ⟨g, 0, none⟩), .int .u8 120] w fun e w' => e = .returned (.tuple #[]) ∧ Q w' := by
  have HD := fun W (hW : Ext w W) => mRows_120 (fun W1 h1 => HC W1 (hW.trans h1))
  go_enter Hvah.func120, Hvah.ntmps120
  go_wp2_with (go_at_call 215; refine (HD _ (by (repeat (first | with_reducible exact Ext.refl _ | with_reducible assumption | refine Ext.trans ?_ (by with_reducible assumption) | refine Ext.alloc ?_ _ _ | refine Ext.drew ?_ | refine Ext.drewN ?_ _)))).mono ?_; rintro e w9 ⟨rfl, hq⟩)
  go_end0
  exact ⟨rfl, hq⟩
set_option maxRecDepth 100000 in
set_option maxHeartbeats 6400000 in
theorem mExec_121 {w : World} {g : Nat} {Q : World → Prop} (HC : ∀ W, Ext w W → Calls Hvah.prog 325 #[.pointer (some ⟨g, 0, none⟩)] W fun e w' => e = .returned (.tuple #[]) ∧ Q w') : Calls Hvah.prog 120 #[.pointer (some ⟨g, 0, none⟩), .int .u8 121] w fun e w' => e = .returned (.tuple #[]) ∧ Q w' := by
  have HD := fun W (hW : Ext w W) => mRows_121 (fun W1 h1 => HC W1 (hW.trans h1))
  go_enter Hvah.func120, Hvah.ntmps120
  go_wp2_with (go_at_call 215; refine (HD _ (by (repeat (first | with_reducible exact Ext.refl _ | with_reducible assumption | refine Ext.trans ?_ (by with_reducible assumption) | refine Ext.alloc ?_ _ _ | refine Ext.drew ?_ | refine Ext.drewN ?_ _)))).mono ?_; rintro e w9 ⟨rfl, hq⟩)
  go_end0
  exact ⟨rfl, hq⟩
set_option maxRecDepth 100000 in
set_option maxHeartbeats 6400000 in
theorem mExec_122 {w : World} {g : Nat} {Q : World → Prop} (HC : ∀ W, Ext w W → Calls Hvah.prog 325 #[.pointer (some ⟨g, 0, none⟩)] W fun e w' => e = .returned (.tuple #[]) ∧ Q w') : Calls Hvah.prog 120 #[.pointer (some ⟨g, 0, none⟩), .int .u8 122] w fun e w' => e = .returned (.tuple #[]) ∧ Q w' := by
  have HD := fun W (hW : Ext w W) => mRows_122 (fun W1 h1 => HC W1 (hW.trans h1))
  go_enter Hvah.func120, Hvah.ntmps120
  go_wp2_with (go_at_call 215; refine (HD _ (by (repeat (first | with_reducible exact Ext.refl _ | with_reducible assumption | refine Ext.trans ?_ (by with_reducible assumption) | refine Ext.alloc ?_ _ _ | refine Ext.drew ?_ | refine Ext.drewN ?_ _)))).mono ?_; rintro e w9 ⟨rfl, hq⟩)
  go_end0
  exact ⟨rfl, hq⟩
set_option maxRecDepth 100000 in
set_option maxHeartbeats 6400000 in
theorem mExec_123 {w : World} {g : Nat} {Q : World → Prop} (HC : ∀ W, Ext w W → Calls Hvah.prog 325 #[.pointer (some ⟨g, 0, none⟩)] W fun e w' => e = .returned (.tuple #[]) ∧ Q w') : Calls Hvah.prog 120 #[.pointer (some ⟨g, 0, none⟩), .int .u8 123] w fun e w' => e = .returned (.tuple #[]) ∧ Q w' := by
  have HD := fun W (hW : Ext w W) => mRows_123 (fun W1 h1 => HC W1 (hW.trans h1))
  go_enter Hvah.func120, Hvah.ntmps120
  go_wp2_with (go_at_call 215; refine (HD _ (by (repeat (first | with_reducible exact Ext.refl _ | with_reducible assumption | refine Ext.trans ?_ (by with_reducible assumption) | refine Ext.alloc ?_ _ _ | refine Ext.drew ?_ | refine Ext.drewN ?_ _)))).mono ?_; rintro e w9 ⟨rfl, hq⟩)
  go_end0
  exact ⟨rfl, hq⟩
set_option maxRecDepth 100000 in
set_option maxHeartbeats 6400000 in
theorem mExec_124 {w : World} {g : Nat} {Q : World → Prop} (HC : ∀ W, Ext w W → Calls Hvah.prog 325 #[.pointer (some ⟨g, 0, none⟩)] W fun e w' => e = .returned (.tuple #[]) ∧ Q w') : Calls Hvah.prog 120 #[.pointer (some ⟨g, 0, none⟩), .int .u8 124] w fun e w' => e = .returned (.tuple #[]) ∧ Q w' := by
  have HD := fun W (hW : Ext w W) => mRows_124 (fun W1 h1 => HC W1 (hW.trans h1))
  go_enter Hvah.func120, Hvah.ntmps120
  go_wp2_with (go_at_call 215; refine (HD _ (by (repeat (first | with_reducible exact Ext.refl _ | with_reducible assumption | refine Ext.trans ?_ (by with_reducible assumption) | refine Ext.alloc ?_ _ _ | refine Ext.drew ?_ | refine Ext.drewN ?_ _)))).mono ?_; rintro e w9 ⟨rfl, hq⟩)
  go_end0
  exact ⟨rfl, hq⟩
set_option maxRecDepth 100000 in
set_option maxHeartbeats 6400000 in
theorem mExec_125 {w : World} {g : Nat} {Q : World → Prop} (HC : ∀ W, Ext w W → Calls Hvah.prog 325 #[.pointer (some ⟨g, 0, none⟩)] W fun e w' => e = .returned (.tuple #[]) ∧ Q w') : Calls Hvah.prog 120 #[.pointer (some ⟨g, 0, none⟩), .int .u8 125] w fun e w' => e = .returned (.tuple #[]) ∧ Q w' := by
  have HD := fun W (hW : Ext w W) => mRows_125 (fun W1 h1 => HC W1 (hW.trans h1))
  go_enter Hvah.func120, Hvah.ntmps120
  go_wp2_with (go_at_call 215; refine (HD _ (by (repeat (first | with_reducible exact Ext.refl _ | with_reducible assumption | refine Ext.trans ?_ (by with_reducible assumption) | refine Ext.alloc ?_ _ _ | refine Ext.drew ?_ | refine Ext.drewN ?_ _)))).mono ?_; rintro e w9 ⟨rfl, hq⟩)
  go_end0
  exact ⟨rfl, hq⟩
set_option maxRecDepth 100000 in
set_option maxHeartbeats 6400000 in
theorem mExec_126 {w : World} {g : Nat} {Q : World → Prop} (HC : ∀ W, Ext w W → Calls Hvah.prog 325 #[.pointer (some ⟨g, 0, none⟩)] W fun e w' => e = .returned (.tuple #[]) ∧ Q w') : Calls Hvah.prog 120 #[.pointer (some ⟨g, 0, none⟩), .int .u8 126] w fun e w' => e = .returned (.tuple #[]) ∧ Q w' := by
  have HD := fun W (hW : Ext w W) => mRows_126 (fun W1 h1 => HC W1 (hW.trans h1))
  go_enter Hvah.func120, Hvah.ntmps120
  go_wp2_with (go_at_call 215; refine (HD _ (by (repeat (first | with_reducible exact Ext.refl _ | with_reducible assumption | refine Ext.trans ?_ (by with_reducible assumption) | refine Ext.alloc ?_ _ _ | refine Ext.drew ?_ | refine Ext.drewN ?_ _)))).mono ?_; rintro e w9 ⟨rfl, hq⟩)
  go_end0
  exact ⟨rfl, hq⟩
set_option maxRecDepth 100000 in
set_option maxHeartbeats 6400000 in
theorem mExec_127 {w : World} {g : Nat} {Q : World → Prop} (HC : ∀ W, Ext w W → Calls Hvah.prog 325 #[.pointer (some ⟨g, 0, none⟩)] W fun e w' => e = .returned (.tuple #[]) ∧ Q w') : Calls Hvah.prog 120 #[.pointer (some ⟨g, 0, none⟩), .int .u8 127] w fun e w' => e = .returned (.tuple #[]) ∧ Q w' := by
  have HD := fun W (hW : Ext w W) => mRows_127 (fun W1 h1 => HC W1 (hW.trans h1))
  go_enter Hvah.func120, Hvah.ntmps120
  go_wp2_with (go_at_call 215; refine (HD _ (by (repeat (first | with_reducible exact Ext.refl _ | with_reducible assumption | refine Ext.trans ?_ (by with_reducible assumption) | refine Ext.alloc ?_ _ _ | refine Ext.drew ?_ | refine Ext.drewN ?_ _)))).mono ?_; rintro e w9 ⟨rfl, hq⟩)
  go_end0
  exact ⟨rfl, hq⟩
end Go.Proofs.YgvahwGreat
