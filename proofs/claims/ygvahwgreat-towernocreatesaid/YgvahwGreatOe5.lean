import Derived.Test.YgvahwGreatMLa
import Derived.Test.YgvahwGreatOe0
namespace Go.Proofs.YgvahwGreat
open Go.RowKit
set_option linter.unusedSimpArgs false
set_option maxRecDepth 100000 in
set_option maxHeartbeats 6400000 in
theorem mExec_128 {w : World} {g : Nat} {Q : World → Prop} (HC : ∀ W, Ext w W → Calls Hvah.prog 326 #[.pointer (some ⟨g, 0, none⟩)] W fun e w' => e = .returned (.tuple #[]) ∧ Q w') : Calls Hvah.prog 120 #[.pointer (some ⟨g, 0, none⟩), .int .u8 128] w fun e w' => e = .returned (.tuple #[]) ∧ Q w' := by
  have HD := fun W (hW : Ext w W) => mRows_128 (fun W1 h1 => HC W1 (hW.trans h1))
  go_enter Hvah.func120, Hvah.ntmps120
  go_wp2_with (go_at_call 215; refine (HD _ (by (repeat (first | with_reducible exact Ext.refl _ | with_reducible assumption | refine Ext.trans ?_ (by with_reducible assumption) | refine Ext.alloc ?_ _ _ | refine Ext.drew ?_ | refine Ext.drewN ?_ _)))).mono ?_; rintro e w9 ⟨rfl, hq⟩)
  go_end0
  exact ⟨rfl, hq⟩
set_option maxRecDepth 100000 in
set_option maxHeartbeats 6400000 in
theorem mExec_129 {w : World} {g : Nat} {Q : World → Prop} (HC : ∀ W, Ext w W → Calls Hvah.prog 326 #[.pointer (some ⟨g, 0, none⟩)] W fun e w' => e = .returned (.tuple #[]) ∧ Q w') : Calls Hvah.prog 120 #[.pointer (some ⟨g, 0, none⟩), .int .u8 129] w fun e w' => e = .returned (.tuple #[]) ∧ Q w' := by
  have HD := fun W (hW : Ext w W) => mRows_129 (fun W1 h1 => HC W1 (hW.trans h1))
  go_enter Hvah.func120, Hvah.ntmps120
  go_wp2_with (go_at_call 215; refine (HD _ (by (repeat (first | with_reducible exact Ext.refl _ | with_reducible assumption | refine Ext.trans ?_ (by with_reducible assumption) | refine Ext.alloc ?_ _ _ | refine Ext.drew ?_ | refine Ext.drewN ?_ _)))).mono ?_; rintro e w9 ⟨rfl, hq⟩)
  go_end0
  exact ⟨rfl, hq⟩
set_option maxRecDepth 100000 in
set_option maxHeartbeats 6400000 in
theorem mExec_130 {w : World} {g : Nat} {Q : World → Prop} (HC : ∀ W, Ext w W → Calls Hvah.prog 326 #[.pointer (some ⟨g, 0, none⟩)] W fun e w' => e = .returned (.tuple #[]) ∧ Q w') : Calls Hvah.prog 120 #[.pointer (some ⟨g, 0, none⟩), .int .u8 130] w fun e w' => e = .returned (.tuple #[]) ∧ Q w' := by
  have HD := fun W (hW : Ext w W) => mRows_130 (fun W1 h1 => HC W1 (hW.trans h1))
  go_enter Hvah.func120, Hvah.ntmps120
  go_wp2_with (go_at_call 215; refine (HD _ (by (repeat (first | with_reducible exact Ext.refl _ | with_reducible assumption | refine Ext.trans ?_ (by with_reducible assumption) | refine Ext.alloc ?_ _ _ | refine Ext.drew ?_ | refine Ext.drewN ?_ _)))).mono ?_; rintro e w9 ⟨rfl, hq⟩)
  go_end0
  exact ⟨rfl, hq⟩
set_option maxRecDepth 100000 in
set_option maxHeartbeats 6400000 in
theorem mExec_131 {w : World} {g : Nat} {Q : World → Prop} (HC : ∀ W, Ext w W → Calls Hvah.prog 326 #[.pointer (some ⟨g, 0, none⟩)] W fun e w' => e = .returned (.tuple #[]) ∧ Q w') : Calls Hvah.prog 120 #[.pointer (some ⟨g, 0, none⟩), .int .u8 131] w fun e w' => e = .returned (.tuple #[]) ∧ Q w' := by
  have HD := fun W (hW : Ext w W) => mRows_131 (fun W1 h1 => HC W1 (hW.trans h1))
  go_enter Hvah.func120, Hvah.ntmps120
  go_wp2_with (go_at_call 215; refine (HD _ (by (repeat (first | with_reducible exact Ext.refl _ | with_reducible assumption | refine Ext.trans ?_ (by with_reducible assumption) | refine Ext.alloc ?_ _ _ | refine Ext.drew ?_ | refine Ext.drewN ?_ _)))).mono ?_; rintro e w9 ⟨rfl, hq⟩)
  go_end0
  exact ⟨rfl, hq⟩
set_option maxRecDepth 100000 in
set_option maxHeartbeats 6400000 in
theorem mExec_132 {w : World} {g : Nat} {Q : World → Prop} (HC : ∀ W, Ext w W → Calls Hvah.prog 326 #[.pointer (some ⟨g, 0, none⟩)] W fun e w' => e = .returned (.tuple #[]) ∧ Q w') : Calls Hvah.prog 120 #[.pointer (some ⟨g, 0, none⟩), .int .u8 132] w fun e w' => e = .returned (.tuple #[]) ∧ Q w' := by
  have HD := fun W (hW : Ext w W) => mRows_132 (fun W1 h1 => HC W1 (hW.trans h1))
  go_enter Hvah.func120, Hvah.ntmps120
  go_wp2_with (go_at_call 215; refine (HD _ (by (repeat (first | with_reducible exact Ext.refl _ | with_reducible assumption | refine Ext.trans ?_ (by with_reducible assumption) | refine Ext.alloc ?_ _ _ | refine Ext.drew ?_ | refine Ext.drewN ?_ _)))).mono ?_; rintro e w9 ⟨rfl, hq⟩)
  go_end0
  exact ⟨rfl, hq⟩
set_option maxRecDepth 100000 in
set_option maxHeartbeats 6400000 in
theorem mExec_133 {w : World} {g : Nat} {Q : World → Prop} (HC : ∀ W, Ext w W → Calls Hvah.prog 326 #[.pointer (some ⟨g, 0, none⟩)] W fun e w' => e = .returned (.tuple #[]) ∧ Q w') : Calls Hvah.prog 120 #[.pointer (some ⟨g, 0, none⟩), .int .u8 133] w fun e w' => e = .returned (.tuple #[]) ∧ Q w' := by
  have HD := fun W (hW : Ext w W) => mRows_133 (fun W1 h1 => HC W1 (hW.trans h1))
  go_enter Hvah.func120, Hvah.ntmps120
  go_wp2_with (go_at_call 215; refine (HD _ (by (repeat (first | with_reducible exact Ext.refl _ | with_reducible assumption | refine Ext.trans ?_ (by with_reducible assumption) | refine Ext.alloc ?_ _ _ | refine Ext.drew ?_ | refine Ext.drewN ?_ _)))).mono ?_; rintro e w9 ⟨rfl, hq⟩)
  go_end0
  exact ⟨rfl, hq⟩
set_option maxRecDepth 100000 in
set_option maxHeartbeats 6400000 in
theorem mExec_134 {w : World} {g : Nat} {Q : World → Prop} (HC : ∀ W, Ext w W → Calls Hvah.prog 326 #[.pointer (some ⟨g, 0, none⟩)] W fun e w' => e = .returned (.tuple #[]) ∧ Q w') : Calls Hvah.prog 120 #[.pointer (some ⟨g, 0, none⟩), .int .u8 134] w fun e w' => e = .returned (.tuple #[]) ∧ Q w' := by
  have HD := fun W (hW : Ext w W) => mRows_134 (fun W1 h1 => HC W1 (hW.trans h1))
  go_enter Hvah.func120, Hvah.ntmps120
  go_wp2_with (go_at_call 215; refine (HD _ (by (repeat (first | with_reducible exact Ext.refl _ | with_reducible assumption | refine Ext.trans ?_ (by with_reducible assumption) | refine Ext.alloc ?_ _ _ | refine Ext.drew ?_ | refine Ext.drewN ?_ _)))).mono ?_; rintro e w9 ⟨rfl, hq⟩)
  go_end0
  exact ⟨rfl, hq⟩
set_option maxRecDepth 100000 in
set_option maxHeartbeats 6400000 in
theorem mExec_135 {w : World} {g : Nat} {Q : World → Prop} (HC : ∀ W, Ext w W → Calls Hvah.prog 326 #[.pointer (some ⟨g, 0, none⟩)] W fun e w' => e = .returned (.tuple #[]) ∧ Q w') : Calls Hvah.prog 120 #[.pointer (some ⟨g, 0, none⟩), .int .u8 135] w fun e w' => e = .returned (.tuple #[]) ∧ Q w' := by
  have HD := fun W (hW : Ext w W) => mRows_135 (fun W1 h1 => HC W1 (hW.trans h1))
  go_enter Hvah.func120, Hvah.ntmps120
  go_wp2_with (go_at_call 215; refine (HD _ (by (repeat (first | with_reducible exact Ext.refl _ | with_reducible assumption | refine Ext.trans ?_ (by with_reducible assumption) | refine Ext.alloc ?_ _ _ | refine Ext.drew ?_ | refine Ext.drewN ?_ _)))).mono ?_; rintro e w9 ⟨rfl, hq⟩)
  go_end0
  exact ⟨rfl, hq⟩
set_option maxRecDepth 100000 in
set_option maxHeartbeats 6400000 in
theorem mExec_136 {w : World} {g : Nat} {Q : World → Prop} (HC : ∀ W, Ext w W → Calls Hvah.prog 326 #[.pointer (some ⟨g, 0, none⟩)] W fun e w' => e = .returned (.tuple #[]) ∧ Q w') : Calls Hvah.prog 120 #[.pointer (some ⟨g, 0, none⟩), .int .u8 136] w fun e w' => e = .returned (.tuple #[]) ∧ Q w' := by
  have HD := fun W (hW : Ext w W) => mRows_136 (fun W1 h1 => HC W1 (hW.trans h1))
  go_enter Hvah.func120, Hvah.ntmps120
  go_wp2_with (go_at_call 215; refine (HD _ (by (repeat (first | with_reducible exact Ext.refl _ | with_reducible assumption | refine Ext.trans ?_ (by with_reducible assumption) | refine Ext.alloc ?_ _ _ | refine Ext.drew ?_ | refine Ext.drewN ?_ _)))).mono ?_; rintro e w9 ⟨rfl, hq⟩)
  go_end0
  exact ⟨rfl, hq⟩
set_option maxRecDepth 100000 in
set_option maxHeartbeats 6400000 in
theorem mExec_137 {w : World} {g : Nat} {Q : World → Prop} (HC : ∀ W, Ext w W → Calls Hvah.prog 326 #[.pointer (some ⟨g, 0, none⟩)] W fun e w' => e = .returned (.tuple #[]) ∧ Q w') : Calls Hvah.prog 120 #[.pointer (some ⟨g, 0, none⟩), .int .u8 137] w fun e w' => e = .returned (.tuple #[]) ∧ Q w' := by
  have HD := fun W (hW : Ext w W) => mRows_137 (fun W1 h1 => HC W1 (hW.trans h1))
  go_enter Hvah.func120, Hvah.ntmps120
  go_wp2_with (go_at_call 215; refine (HD _ (by (repeat (first | with_reducible exact Ext.refl _ | with_reducible assumption | refine Ext.trans ?_ (by with_reducible assumption) | refine Ext.alloc ?_ _ _ | refine Ext.drew ?_ | refine Ext.drewN ?_ _)))).mono ?_; rintro e w9 ⟨rfl, hq⟩)
  go_end0
  exact ⟨rfl, hq⟩
set_option maxRecDepth 100000 in
set_option maxHeartbeats 6400000 in
theorem mExec_138 {w : World} {g : Nat} {Q : World → Prop} (HC : ∀ W, Ext w W → Calls Hvah.prog 326 #[.pointer (some ⟨g, 0, none⟩)] W fun e w' => e = .returned (.tuple #[]) ∧ Q w') : Calls Hvah.prog 120 #[.pointer (some ⟨g, 0, none⟩), .int .u8 138] w fun e w' => e = .returned (.tuple #[]) ∧ Q w' := by
  have HD := fun W (hW : Ext w W) => mRows_138 (fun W1 h1 => HC W1 (hW.trans h1))
  go_enter Hvah.func120, Hvah.ntmps120
  go_wp2_with (go_at_call 215; refine (HD _ (by (repeat (first | with_reducible exact Ext.refl _ | with_reducible assumption | refine Ext.trans ?_ (by with_reducible assumption) | refine Ext.alloc ?_ _ _ | refine Ext.drew ?_ | refine Ext.drewN ?_ _)))).mono ?_; rintro e w9 ⟨rfl, hq⟩)
  go_end0
  exact ⟨rfl, hq⟩
set_option maxRecDepth 100000 in
set_option maxHeartbeats 6400000 in
theorem mExec_139 {w : World} {g : Nat} {Q : World → Prop} (HC : ∀ W, Ext w W → Calls Hvah.prog 326 #[.pointer (some ⟨g, 0, none⟩)] W fun e w' => e = .returned (.tuple #[]) ∧ Q w') : Calls Hvah.prog 120 #[.pointer (some ⟨g, 0, none⟩), .int .u8 139] w fun e w' => e = .returned (.tuple #[]) ∧ Q w' := by
  have HD := fun W (hW : Ext w W) => mRows_139 (fun W1 h1 => HC W1 (hW.trans h1))
  go_enter Hvah.func120, Hvah.ntmps120
  go_wp2_with (go_at_call 215; refine (HD _ (by (repeat (first | with_reducible exact Ext.refl _ | with_reducible assumption | refine Ext.trans ?_ (by with_reducible assumption) | refine Ext.alloc ?_ _ _ | refine Ext.drew ?_ | refine Ext.drewN ?_ _)))).mono ?_; rintro e w9 ⟨rfl, hq⟩)
  go_end0
  exact ⟨rfl, hq⟩
set_option maxRecDepth 100000 in
set_option maxHeartbeats 6400000 in
theorem mExec_140 {w : World} {g : Nat} {Q : World → Prop} (HC : ∀ W, Ext w W → Calls Hvah.prog 326 #[.pointer (some ⟨g, 0, none⟩)] W fun e w' => e = .returned (.tuple #[]) ∧ Q w') : Calls Hvah.prog 120 #[.pointer (some ⟨g, 0, none⟩), .int .u8 140] w fun e w' => e = .returned (.tuple #[]) ∧ Q w' := by
  have HD := fun W (hW : Ext w W) => mRows_140 (fun W1 h1 => HC W1 (hW.trans h1))
  go_enter Hvah.func120, Hvah.ntmps120
  go_wp2_with (go_at_call 215; refine (HD _ (by (repeat (first | with_reducible exact Ext.refl _ | with_reducible assumption | refine Ext.trans ?_ (by with_reducible assumption) | refine Ext.alloc ?_ _ _ | refine Ext.drew ?_ | refine Ext.drewN ?_ _)))).mono ?_; rintro e w9 ⟨rfl, hq⟩)
  go_end0
  exact ⟨rfl, hq⟩
set_option maxRecDepth 100000 in
set_option maxHeartbeats 6400000 in
theorem mExec_141 {w : World} {g : Nat} {Q : World → Prop} (HC : ∀ W, Ext w W → Calls Hvah.prog 326 #[.pointer (some ⟨g, 0, none⟩)] W fun e w' => e = .returned (.tuple #[]) ∧ Q w') : Calls Hvah.prog 120 #[.pointer (some ⟨g, 0, none⟩), .int .u8 141] w fun e w' => e = .returned (.tuple #[]) ∧ Q w' := by
  have HD := fun W (hW : Ext w W) => mRows_141 (fun W1 h1 => HC W1 (hW.trans h1))
  go_enter Hvah.func120, Hvah.ntmps120
  go_wp2_with (go_at_call 215; refine (HD _ (by (repeat (first | with_reducible exact Ext.refl _ | with_reducible assumption | refine Ext.trans ?_ (by with_reducible assumption) | refine Ext.alloc ?_ _ _ | refine Ext.drew ?_ | refine Ext.drewN ?_ _)))).mono ?_; rintro e w9 ⟨rfl, hq⟩)
  go_end0
  exact ⟨rfl, hq⟩
set_option maxRecDepth 100000 in
set_option maxHeartbeats 6400000 in
theorem mExec_142 {w : World} {g : Nat} {Q : World → Prop} (HC : ∀ W, Ext w W → Calls Hvah.prog 326 #[.pointer (some ⟨g, 0, none⟩)] W fun e w' => e = .returned (.tuple #[]) ∧ Q w') : Calls Hvah.prog 120 #[.pointer (some ⟨g, 0, none⟩), .int .u8 142] w fun e w' => e = .returned (.tuple #[]) ∧ Q w' := by
  have HD := fun W (hW : Ext w W) => mRows_142 (fun W1 h1 => HC W1 (hW.trans h1))
  go_enter Hvah.func120, Hvah.ntmps120
  go_wp2_with (go_at_call 215; refine (HD _ (by (repeat (first | with_reducible exact Ext.refl _ | with_reducible assumption | refine Ext.trans ?_ (by with_reducible assumption) | refine Ext.alloc ?_ _ _ | refine Ext.drew ?_ | refine Ext.drewN ?_ _)))).mono ?_; rintro e w9 ⟨rfl, hq⟩)
  go_end0
  exact ⟨rfl, hq⟩
set_option maxRecDepth 100000 in
set_option maxHeartbeats 6400000 in
theorem mExec_143 {w : World} {g : Nat} {Q : World → Prop} (HC : ∀ W, Ext w W → Calls Hvah.prog 326 #[.pointer (some ⟨g, 0, none⟩)] W fun e w' => e = .returned (.tuple #[]) ∧ Q w') : Calls Hvah.prog 120 #[.pointer (some ⟨g, 0, none⟩), .int .u8 143] w fun e w' => e = .returned (.tuple #[]) ∧ Q w' := by
  have HD := fun W (hW : Ext w W) => mRows_143 (fun W1 h1 => HC W1 (hW.trans h1))
  go_enter Hvah.func120, Hvah.ntmps120
  go_wp2_with (go_at_call 215; refine (HD _ (by (repeat (first | with_reducible exact Ext.refl _ | with_reducible assumption | refine Ext.trans ?_ (by with_reducible assumption) | refine Ext.alloc ?_ _ _ | refine Ext.drew ?_ | refine Ext.drewN ?_ _)))).mono ?_; rintro e w9 ⟨rfl, hq⟩)
  go_end0
  exact ⟨rfl, hq⟩
set_option maxRecDepth 100000 in
set_option maxHeartbeats 6400000 in
theorem mExec_144 {w : World} {g : Nat} {Q : World → Prop} (HC : ∀ W, Ext w W → Calls Hvah.prog 327 #[.pointer (some ⟨g, 0, none⟩)] W fun e w' => e = .returned (.tuple #[]) ∧ Q w') : Calls Hvah.prog 120 #[.pointer (some ⟨g, 0, none⟩), .int .u8 144] w fun e w' => e = .returned (.tuple #[]) ∧ Q w' := by
  have HD := fun W (hW : Ext w W) => mRows_144 (fun W1 h1 => HC W1 (hW.trans h1))
  go_enter Hvah.func120, Hvah.ntmps120
  go_wp2_with (go_at_call 215; refine (HD _ (by (repeat (first | with_reducible exact Ext.refl _ | with_reducible assumption | refine Ext.trans ?_ (by with_reducible assumption) | refine Ext.alloc ?_ _ _ | refine Ext.drew ?_ | refine Ext.drewN ?_ _)))).mono ?_; rintro e w9 ⟨rfl, hq⟩)
  go_end0
  exact ⟨rfl, hq⟩
set_option maxRecDepth 100000 in
set_option maxHeartbeats 6400000 in
theorem mExec_145 {w : World} {g : Nat} {Q : World → Prop} (HC : ∀ W, Ext w W → Calls Hvah.prog 327 #[.pointer (some ⟨g, 0, none⟩)] W fun e w' => e = .returned (.tuple #[]) ∧ Q w') : Calls Hvah.prog 120 #[.pointer (some ⟨g, 0, none⟩), .int .u8 145] w fun e w' => e = .returned (.tuple #[]) ∧ Q w' := by
  have HD := fun W (hW : Ext w W) => mRows_145 (fun W1 h1 => HC W1 (hW.trans h1))
  go_enter Hvah.func120, Hvah.ntmps120
  go_wp2_with (go_at_call 215; refine (HD _ (by (repeat (first | with_reducible exact Ext.refl _ | with_reducible assumption | refine Ext.trans ?_ (by with_reducible assumption) | refine Ext.alloc ?_ _ _ | refine Ext.drew ?_ | refine Ext.drewN ?_ _)))).mono ?_; rintro e w9 ⟨rfl, hq⟩)
  go_end0
  exact ⟨rfl, hq⟩
set_option maxRecDepth 100000 in
set_option maxHeartbeats 6400000 in
theorem mExec_146 {w : World} {g : Nat} {Q : World → Prop} (HC : ∀ W, Ext w W → Calls Hvah.prog 327 #[.pointer (some ⟨g, 0, none⟩)] W fun e w' => e = .returned (.tuple #[]) ∧ Q w') : Calls Hvah.prog 120 #[.pointer (some ⟨g, 0, none⟩), .int .u8 146] w fun e w' => e = .returned (.tuple #[]) ∧ Q w' := by
  have HD := fun W (hW : Ext w W) => mRows_146 (fun W1 h1 => HC W1 (hW.trans h1))
  go_enter Hvah.func120, Hvah.ntmps120
  go_wp2_with (go_at_call 215; refine (HD _ (by (repeat (first | with_reducible exact Ext.refl _ | with_reducible assumption | refine Ext.trans ?_ (by with_reducible assumption) | refine Ext.alloc ?_ _ _ | refine Ext.drew ?_ | refine Ext.drewN ?_ _)))).mono ?_; rintro e w9 ⟨rfl, hq⟩)
  go_end0
  exact ⟨rfl, hq⟩
set_option maxRecDepth 100000 in
set_option maxHeartbeats 6400000 in
theorem mExec_147 {w : World} {g : Nat} {Q : World → Prop} (HC : ∀ W, Ext w W → Calls Hvah.prog 327 #[.pointer (some ⟨g, 0, none⟩)] W fun e w' => e = .returned (.tuple #[]) ∧ Q w') : Calls Hvah.prog 120 #[.pointer (some ⟨g, 0, none⟩), .int .u8 147] w fun e w' => e = .returned (.tuple #[]) ∧ Q w' := by
  have HD := fun W (hW : Ext w W) => mRows_147 (fun W1 h1 => HC W1 (hW.trans h1))
  go_enter Hvah.func120, Hvah.ntmps120
  go_wp2_with (go_at_call 215; refine (HD _ (by (repeat (first | with_reducible exact Ext.refl _ | with_reducible assumption | refine Ext.trans ?_ (by with_reducible assumption) | refine Ext.alloc ?_ _ _ | refine Ext.drew ?_ | refine Ext.drewN ?_ _)))).mono ?_; rintro e w9 ⟨rfl, hq⟩)
  go_end0
  exact ⟨rfl, hq⟩
set_option maxRecDepth 100000 in
set_option maxHeartbeats 6400000 in
theorem mExec_148 {w : World} {g : Nat} {Q : World → Prop} (HC : ∀ W, Ext w W → Calls Hvah.prog 327 #[.pointer (some ⟨g, 0, none⟩)] W fun e w' => e = .returned (.tuple #[]) ∧ Q w') : Calls Hvah.prog 120 #[.pointer (some ⟨g, 0, none⟩), .int .u8 148] w fun e w' => e = .returned (.tuple #[]) ∧ Q w' := by
  have HD := fun W (hW : Ext w W) => mRows_148 (fun W1 h1 => HC W1 (hW.trans h1))
  go_enter Hvah.func120, Hvah.ntmps120
  go_wp2_with (go_at_call 215; refine (HD _ (by (repeat (first | with_reducible exact Ext.refl _ | with_reducible assumption | refine Ext.trans ?_ (by with_reducible assumption) | refine Ext.alloc ?_ _ _ | refine Ext.drew ?_ | refine Ext.drewN ?_ _)))).mono ?_; rintro e w9 ⟨rfl, hq⟩)
  go_end0
  exact ⟨rfl, hq⟩
set_option maxRecDepth 100000 in
set_option maxHeartbeats 6400000 in
theorem mExec_149 {w : World} {g : Nat} {Q : World → Prop} (HC : ∀ W, Ext w W → Calls Hvah.prog 327 #[.pointer (some ⟨g, 0, none⟩)] W fun e w' => e = .returned (.tuple #[]) ∧ Q w') : Calls Hvah.prog 120 #[.pointer (some ⟨g, 0, none⟩), .int .u8 149] w fun e w' => e = .returned (.tuple #[]) ∧ Q w' := by
  have HD := fun W (hW : Ext w W) => mRows_149 (fun W1 h1 => HC W1 (hW.trans h1))
  go_enter Hvah.func120, Hvah.ntmps120
  go_wp2_with (go_at_call 215; refine (HD _ (by (repeat (first | with_reducible exact Ext.refl _ | with_reducible assumption | refine Ext.trans ?_ (by with_reducible assumption) | refine Ext.alloc ?_ _ _ | refine Ext.drew ?_ | refine Ext.drewN ?_ _)))).mono ?_; rintro e w9 ⟨rfl, hq⟩)
  go_end0
  exact ⟨rfl, hq⟩
set_option maxRecDepth 100000 in
set_option maxHeartbeats 6400000 in
theorem mExec_150 {w : World} {g : Nat} {Q : World → Prop} (HC : ∀ W, Ext w W → Calls Hvah.prog 327 #[.pointer (some ⟨g, 0, none⟩)] W fun e w' => e = .returned (.tuple #[]) ∧ Q w') : Calls Hvah.prog 120 #[.pointer (some ⟨g, 0, none⟩), .int .u8 150] w fun e w' => e = .returned (.tuple #[]) ∧ Q w' := by
  have HD := fun W (hW : Ext w W) => mRows_150 (fun W1 h1 => HC W1 (hW.trans h1))
  go_enter Hvah.func120, Hvah.ntmps120
  go_wp2_with (go_at_call 215; refine (HD _ (by (repeat (first | with_reducible exact Ext.refl _ | with_reducible assumption | refine Ext.trans ?_ (by with_reducible assumption) | refine Ext.alloc ?_ _ _ | refine Ext.drew ?_ | refine Ext.drewN ?_ _)))).mono ?_; rintro e w9 ⟨rfl, hq⟩)
  go_end0
  exact ⟨rfl, hq⟩
set_option maxRecDepth 100000 in
set_option maxHeartbeats 6400000 in
theorem mExec_151 {w : World} {g : Nat} {Q : World → Prop} (HC : ∀ W, Ext w W → Calls Hvah.prog 327 #[.pointer (some ⟨g, 0, none⟩)] W fun e w' => e = .returned (.tuple #[]) ∧ Q w') : Calls Hvah.prog 120 #[.pointer (some ⟨g, 0, none⟩), .int .u8 151] w fun e w' => e = .returned (.tuple #[]) ∧ Q w' := by
  have HD := fun W (hW : Ext w W) => mRows_151 (fun W1 h1 => HC W1 (hW.trans h1))
  go_enter Hvah.func120, Hvah.ntmps120
  go_wp2_with (go_at_call 215; refine (HD _ (by (repeat (first | with_reducible exact Ext.refl _ | with_reducible assumption | refine Ext.trans ?_ (by with_reducible assumption) | refine Ext.alloc ?_ _ _ | refine Ext.drew ?_ | refine Ext.drewN ?_ _)))).mono ?_; rintro e w9 ⟨rfl, hq⟩)
  go_end0
  exact ⟨rfl, hq⟩
set_option maxRecDepth 100000 in
set_option maxHeartbeats 6400000 in
theorem mExec_152 {w : World} {g : Nat} {Q : World → Prop} (HC : ∀ W, Ext w W → Calls Hvah.prog 327 #[.pointer (some ⟨g, 0, none⟩)] W fun e w' => e = .returned (.tuple #[]) ∧ Q w') : Calls Hvah.prog 120 #[.pointer (some ⟨g, 0, none⟩), .int .u8 152] w fun e w' => e = .returned (.tuple #[]) ∧ Q w' := by
  have HD := fun W (hW : Ext w W) => mRows_152 (fun W1 h1 => HC W1 (hW.trans h1))
  go_enter Hvah.func120, Hvah.ntmps120
  go_wp2_with (go_at_call 215; refine (HD _ (by (repeat (first | with_reducible exact Ext.refl _ | with_reducible assumption | refine Ext.trans ?_ (by with_reducible assumption) | refine Ext.alloc ?_ _ _ | refine Ext.drew ?_ | refine Ext.drewN ?_ _)))).mono ?_; rintro e w9 ⟨rfl, hq⟩)
  go_end0
  exact ⟨rfl, hq⟩
end Go.Proofs.YgvahwGreat
