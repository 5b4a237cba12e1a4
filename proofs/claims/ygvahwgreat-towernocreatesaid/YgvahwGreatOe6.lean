import Derived.Test.YgvahwGreatMLa
import Derived.Test.YgvahwGreatOe0
namespace Go.Proofs.YgvahwGreat
open Go.RowKit
set_option linter.unusedSimpArgs false
set_option maxRecDepth 100000 in
set_option maxHeartbeats 6400000 in
theorem mExec_153 {w : World} {g : Nat} {Q : World → Prop} (HC : ∀ W, Ext w W → Calls Hvah.prog 327 #[.pointer (some ⟨g, 0, none⟩)] W fun e w' => e = .returned (.tuple #[]) ∧ Q w') : Calls Hvah.prog 120 #[.pointer (some ⟨g, 0, none⟩), .int .u8 153] w fun e w' => e = .returned (.tuple #[]) ∧ Q w' := by
  have HD := fun W (hW : Ext w W) => mRows_153 (fun W1 h1 => HC W1 (hW.trans h1))
  go_enter Hvah.func120, Hvah.ntmps120
  go_wp2_with (go_at_call 215; refine (HD _ (by (repeat (first | with_reducible exact Ext.refl _ | with_reducible assumption | refine Ext.trans ?_ (by with_reducible assumption) | refine Ext.alloc ?_ _ _ | refine Ext.drew ?_ | refine Ext.drewN ?_ _)))).mono ?_; rintro e w9 ⟨rfl, hq⟩)
  go_end0
  exact ⟨rfl, hq⟩
set_option maxRecDepth 100000 in
set_option maxHeartbeats 6400000 in
theorem mExec_154 {w : World} {g : Nat} {Q : World → Prop} (HC : ∀ W, Ext w W → Calls Hvah.prog 327 #[.pointer (some ⟨g, 0, none⟩)] W fun e w' => e = .returned (.tuple #[]) ∧ Q w') : Calls Hvah.prog 120 #[.pointer (some ⟨g, 0, none⟩), .int .u8 154] w fun e w' => e = .returned (.tuple #[]) ∧ Q w' := by
  have HD := fun W (hW : Ext w W) => mRows_154 (fun W1 h1 => HC W1 (hW.trans h1))
  go_enter Hvah.func120, Hvah.ntmps120
  go_wp2_with (go_at_call 215; refine (HD _ (by (repeat (first | with_reducible exact Ext.refl _ | with_reducible assumption | refine Ext.trans ?_ (by with_reducible assumption) | refine Ext.alloc ?_ _ _ | refine Ext.drew ?_ | refine Ext.drewN ?_ _)))).mono ?_; rintro e w9 ⟨rfl, hq⟩)
  go_end0
  exact ⟨rfl, hq⟩
set_option maxRecDepth 100000 in
set_option maxHeartbeats 6400000 in
theorem mExec_155 {w : World} {g : Nat} {Q : World → Prop} (HC : ∀ W, Ext w W → Calls Hvah.prog 327 #[.pointer (some ⟨g, 0, none⟩)] W fun e w' => e = .returned (.tuple #[]) ∧ Q w') : Calls Hvah.prog 120 #[.pointer (some ⟨g, 0, none⟩), .int .u8 155] w fun e w' => e = .returned (.tuple #[]) ∧ Q w' := by
  have HD := fun W (hW : Ext w W) => mRows_155 (fun W1 h1 => HC W1 (hW.trans h1))
  go_enter Hvah.func120, Hvah.ntmps120
  go_wp2_with (go_at_call 215; refine (HD _ (by (repeat (first | with_reducible exact Ext.refl _ | with_reducible assumption | refine Ext.trans ?_ (by with_reducible assumption) | refine Ext.alloc ?_ _ _ | refine Ext.drew ?_ | refine Ext.drewN ?_ _)))).mono ?_; rintro e w9 ⟨rfl, hq⟩)
  go_end0
  exact ⟨rfl, hq⟩
set_option maxRecDepth 100000 in
set_option maxHeartbeats 6400000 in
theorem mExec_156 {w : World} {g : Nat} {Q : World → Prop} (HC : ∀ W, Ext w W → Calls Hvah.prog 327 #[.pointer (some ⟨g, 0, none⟩)] W fun e w' => e = .returned (.tuple #[]) ∧ Q w') : Calls Hvah.prog 120 #[.pointer (some ⟨g, 0, none⟩), .int .u8 156] w fun e w' => e = .returned (.tuple #[]) ∧ Q w' := by
  have HD := fun W (hW : Ext w W) => mRows_156 (fun W1 h1 => HC W1 (hW.trans h1))
  go_enter Hvah.func120, Hvah.ntmps120
  go_wp2_with (go_at_call 215; refine (HD _ (by (repeat (first | with_reducible exact Ext.refl _ | with_reducible assumption | refine Ext.trans ?_ (by with_reducible assumption) | refine Ext.alloc ?_ _ _ | refine Ext.drew ?_ | refine Ext.drewN ?_ _)))).mono ?_; rintro e w9 ⟨rfl, hq⟩)
  go_end0
  exact ⟨rfl, hq⟩
set_option maxRecDepth 100000 in
set_option maxHeartbeats 6400000 in
theorem mExec_157 {w : World} {g : Nat} {Q : World → Prop} (HC : ∀ W, Ext w W → Calls Hvah.prog 327 #[.pointer (some ⟨g, 0, none⟩)] W fun e w' => e = .returned (.tuple #[]) ∧ Q w') : Calls Hvah.prog 120 #[.pointer (some ⟨g, 0, none⟩), .int .u8 157] w fun e w' => e = .returned (.tuple #[]) ∧ Q w' := by
  have HD := fun W (hW : Ext w W) => mRows_157 (fun W1 h1 => HC W1 (hW.trans h1))
  go_enter Hvah.func120, Hvah.ntmps120
  go_wp2_with (go_at_call 215; refine (HD _ (by (repeat (first | with_reducible exact Ext.refl _ | with_reducible assumption | refine Ext.trans ?_ (by with_reducible assumption) | refine Ext.alloc ?_ _ _ | refine Ext.drew ?_ | refine Ext.drewN ?_ _)))).mono ?_; rintro e w9 ⟨rfl, hq⟩)
  go_end0
  exact ⟨rfl, hq⟩
set_option maxRecDepth 100000 in
set_option maxHeartbeats 6400000 in
theorem mExec_158 {w : World} {g : Nat} {Q : World → Prop} (HC : ∀ W, Ext w W → Calls Hvah.prog 327 #[.pointer (some ⟨g, 0, none⟩)] W fun e w' => e = .returned (.tuple #[]) ∧ Q w') : Calls Hvah.prog 120 #[.pointer (some ⟨g, 0, none⟩), .int .u8 158] w fun e w' => e = .returned (.tuple #[]) ∧ Q w' := by
  have HD := fun W (hW : Ext w W) => mRows_158 (fun W1 h1 => HC W1 (hW.trans h1))
  go_enter Hvah.func120, Hvah.ntmps120
  go_wp2_with (go_at_call 215; refine (HD _ (by (repeat (first | with_reducible exact Ext.refl _ | with_reducible assumption | refine Ext.trans ?_ (by with_reducible assumption) | refine Ext.alloc ?_ _ _ | refine Ext.drew ?_ | refine Ext.drewN ?_ _)))).mono ?_; rintro e w9 ⟨rfl, hq⟩)
  go_end0
  exact ⟨rfl, hq⟩
set_option maxRecDepth 100000 in
set_option maxHeartbeats 6400000 in
theorem mExec_159 {w : World} {g : Nat} {Q : World → Prop} (HC : ∀ W, Ext w W → Calls Hvah.prog 327 #[.pointer (some ⟨g, 0, none⟩)] W fun e w' => e = .returned (.tuple #[]) ∧ Q w') : Calls Hvah.prog 120 #[.pointer (some ⟨g, 0, none⟩), .int .u8 159] w fun e w' => e = .returned (.tuple #[]) ∧ Q w' := by
  have HD := fun W (hW : Ext w W) => mRows_159 (fun W1 h1 => HC W1 (hW.trans h1))
  go_enter Hvah.func120, Hvah.ntmps120
  go_wp2_with (go_at_call 215; refine (HD _ (by (repeat (first | with_reducible exact Ext.refl _ | with_reducible assumption | refine Ext.trans ?_ (by with_reducible assumption) | refine Ext.alloc ?_ _ _ | refine Ext.drew ?_ | refine Ext.drewN ?_ _)))).mono ?_; rintro e w9 ⟨rfl, hq⟩)
  go_end0
  exact ⟨rfl, hq⟩
set_option maxRecDepth 100000 in
set_option maxHeartbeats 6400000 in
theorem mExec_160 {w : World} {g : Nat} {Q : World → Prop} (HC : ∀ W, Ext w W → Calls Hvah.prog 328 #[.pointer (some ⟨g, 0, none⟩)] W fun e w' => e = .returned (.tuple #[]) ∧ Q w') : Calls Hvah.prog 120 #[.pointer (some ⟨g, 0, none⟩), .int .u8 160] w fun e w' => e = .returned (.tuple #[]) ∧ Q w' := by
  have HD := fun W (hW : Ext w W) => mRows_160 (fun W1 h1 => HC W1 (hW.trans h1))
  go_enter Hvah.func120, Hvah.ntmps120
  go_wp2_with (go_at_call 215; refine (HD _ (by (repeat (first | with_reducible exact Ext.refl _ | with_reducible assumption | refine Ext.trans ?_ (by with_reducible assumption) | refine Ext.alloc ?_ _ _ | refine Ext.drew ?_ | refine Ext.drewN ?_ _)))).mono ?_; rintro e w9 ⟨rfl, hq⟩)
  go_end0
  exact ⟨rfl, hq⟩
set_option maxRecDepth 100000 in
set_option maxHeartbeats 6400000 in
theorem mExec_161 {w : World} {g : Nat} {Q : World → Prop} (HC : ∀ W, Ext w W → Calls Hvah.prog 328 #[.pointer (some ⟨g, 0, none⟩)] W fun e w' => e = .returned (.tuple #[]) ∧ Q w') : Calls Hvah.prog 120 #[.pointer (some ⟨g, 0, none⟩), .int .u8 161] w fun e w' => e = .returned (.tuple #[]) ∧ Q w' := by
  have HD := fun W (hW : Ext w W) => mRows_161 (fun W1 h1 => HC W1 (hW.trans h1))
  go_enter Hvah.func120, Hvah.ntmps120
  go_wp2_with (go_at_call 215; refine (HD _ (by (repeat (first | with_reducible exact Ext.refl _ | with_reducible assumption | refine Ext.trans ?_ (by with_reducible assumption) | refine Ext.alloc ?_ _ _ | refine Ext.drew ?_ | refine Ext.drewN ?_ _)))).mono ?_; rintro e w9 ⟨rfl, hq⟩)
  go_end0
  exact ⟨rfl, hq⟩
set_option maxRecDepth 100000 in
set_option maxHeartbeats 6400000 in
theorem mExec_162 {w : World} {g : Nat} {Q : World → Prop} (HC : ∀ W, Ext w W → Calls Hvah.prog 328 #[.pointer (some ⟨g, 0, none⟩)] W fun e w' => e = .returned (.tuple #[]) ∧ Q w') : Calls Hvah.prog 120 #[.pointer (some ⟨g, 0, none⟩), .int .u8 162] w fun e w' => e = .returned (.tuple #[]) ∧ Q w' := by
  have HD := fun W (hW : Ext w W) => mRows_162 (fun W1 h1 => HC W1 (hW.trans h1))
  go_enter Hvah.func120, Hvah.ntmps120
  go_wp2_with (go_at_call 215; refine (HD _ (by (repeat (first | with_reducible exact Ext.refl _ | with_reducible assumption | refine Ext.trans ?_ (by with_reducible assumption) | refine Ext.alloc ?_ _ _ | refine Ext.drew ?_ | refine Ext.drewN ?_ _)))).mono ?_; rintro e w9 ⟨rfl, hq⟩)
  go_end0
  exact ⟨rfl, hq⟩
set_option maxRecDepth 100000 in
set_option maxHeartbeats 6400000 in
theorem mExec_163 {w : World} {g : Nat} {Q : World → Prop} (HC : ∀ W, Ext w W → Calls Hvah.prog 328 #[.pointer (some ⟨g, 0, none⟩)] W fun e w' => e = .returned (.tuple #[]) ∧ Q w') : Calls Hvah.prog 120 #[.pointer (some ⟨g, 0, none⟩), .int .u8 163] w fun e w' => e = .returned (.tuple #[]) ∧ Q w' := by
  have HD := fun W (hW : Ext w W) => mRows_163 (fun W1 h1 => HC W1 (hW.trans h1))
  go_enter Hvah.func120, Hvah.ntmps120
  go_wp2_with (go_at_call 215; refine (HD _ (by (repeat (first | with_reducible exact Ext.refl _ | with_reducible assumption | refine Ext.trans ?_ (by with_reducible assumption) | refine Ext.alloc ?_ _ _ | refine Ext.drew ?_ | refine Ext.drewN ?_ _)))).mono ?_; rintro e w9 ⟨rfl, hq⟩)
  go_end0
  exact ⟨rfl, hq⟩
set_option maxRecDepth 100000 in
set_option maxHeartbeats 6400000 in
theorem mExec_164 {w : World} {g : Nat} {Q : World → Prop} (HC : ∀ W, Ext w W → Calls Hvah.prog 328 #[.pointer (some ⟨g, 0, none⟩)] W fun e w' => e = .returned (.tuple #[]) ∧ Q w') : Calls Hvah.prog 120 #[.pointer (some ⟨g, 0, none⟩), .int .u8 164] w fun e w' => e = .returned (.tuple #[]) ∧ Q w' := by
  have HD := fun W (hW : Ext w W) => mRows_164 (fun W1 h1 => HC W1 (hW.trans h1))
  go_enter Hvah.func120, Hvah.ntmps120
  go_wp2_with (go_at_call 215; refine (HD _ (by (repeat (first | with_reducible exact Ext.refl _ | with_reducible assumption | refine Ext.trans ?_ (by with_reducible assumption) | refine Ext.alloc ?_ _ _ | refine Ext.drew ?_ | refine Ext.drewN ?_ _)))).mono ?_; rintro e w9 ⟨rfl, hq⟩)
  go_end0
  exact ⟨rfl, hq⟩
set_option maxRecDepth 100000 in
set_option maxHeartbeats 6400000 in
theorem mExec_240 {w : World} {g : Nat} {Q : World → Prop} (HC : ∀ W, Ext w W → Calls Hvah.prog 209 #[.pointer (some ⟨g, 0, none⟩)] W fun e w' => e = .returned (.tuple #[]) ∧ Q w') : Calls Hvah.prog 120 #[.pointer (some ⟨g, 0, none⟩), .int .u8 240] w fun e w' => e = .returned (.tuple #[]) ∧ Q w' := by
  have HD := HC
  go_enter Hvah.func120, Hvah.ntmps120
  go_wp2_with (go_at_call 209; refine (HD _ (by (repeat (first | with_reducible exact Ext.refl _ | with_reducible assumption | refine Ext.trans ?_ (by with_reducible assumption) | refine Ext.alloc ?_ _ _ | refine Ext.drew ?_ | refine Ext.drewN ?_ _)))).mono ?_; rintro e w9 ⟨rfl, hq⟩)
  go_end0
  exact ⟨rfl, hq⟩
set_option maxRecDepth 100000 in
set_option maxHeartbeats 6400000 in
theorem mExec_241 {w : World} {g : Nat} {Q : World → Prop} (HC : ∀ W, Ext w W → Calls Hvah.prog 212 #[.pointer (some ⟨g, 0, none⟩)] W fun e w' => e = .returned (.tuple #[]) ∧ Q w') : Calls Hvah.prog 120 #[.pointer (some ⟨g, 0, none⟩), .int .u8 241] w fun e w' => e = .returned (.tuple #[]) ∧ Q w' := by
  have HD := HC
  go_enter Hvah.func120, Hvah.ntmps120
  go_wp2_with (go_at_call 212; refine (HD _ (by (repeat (first | with_reducible exact Ext.refl _ | with_reducible assumption | refine Ext.trans ?_ (by with_reducible assumption) | refine Ext.alloc ?_ _ _ | refine Ext.drew ?_ | refine Ext.drewN ?_ _)))).mono ?_; rintro e w9 ⟨rfl, hq⟩)
  go_end0
  exact ⟨rfl, hq⟩
set_option maxRecDepth 100000 in
set_option maxHeartbeats 6400000 in
theorem mExec_242 {w : World} {g : Nat} {Q : World → Prop} (HC : ∀ W, Ext w W → Calls Hvah.prog 212 #[.pointer (some ⟨g, 0, none⟩)] W fun e w' => e = .returned (.tuple #[]) ∧ Q w') : Calls Hvah.prog 120 #[.pointer (some ⟨g, 0, none⟩), .int .u8 242] w fun e w' => e = .returned (.tuple #[]) ∧ Q w' := by
  have HD := HC
  go_enter Hvah.func120, Hvah.ntmps120
  go_wp2_with (go_at_call 212; refine (HD _ (by (repeat (first | with_reducible exact Ext.refl _ | with_reducible assumption | refine Ext.trans ?_ (by with_reducible assumption) | refine Ext.alloc ?_ _ _ | refine Ext.drew ?_ | refine Ext.drewN ?_ _)))).mono ?_; rintro e w9 ⟨rfl, hq⟩)
  go_end0
  exact ⟨rfl, hq⟩
set_option maxRecDepth 100000 in
set_option maxHeartbeats 6400000 in
theorem mExec_243 {w : World} {g : Nat} {Q : World → Prop} (HC : ∀ W, Ext w W → Calls Hvah.prog 213 #[.pointer (some ⟨g, 0, none⟩)] W fun e w' => e = .returned (.tuple #[]) ∧ Q w') : Calls Hvah.prog 120 #[.pointer (some ⟨g, 0, none⟩), .int .u8 243] w fun e w' => e = .returned (.tuple #[]) ∧ Q w' := by
  have HD := HC
  go_enter Hvah.func120, Hvah.ntmps120
  go_wp2_with (go_at_call 213; refine (HD _ (by (repeat (first | with_reducible exact Ext.refl _ | with_reducible assumption | refine Ext.trans ?_ (by with_reducible assumption) | refine Ext.alloc ?_ _ _ | refine Ext.drew ?_ | refine Ext.drewN ?_ _)))).mono ?_; rintro e w9 ⟨rfl, hq⟩)
  go_end0
  exact ⟨rfl, hq⟩
set_option maxRecDepth 100000 in
set_option maxHeartbeats 6400000 in
theorem mExec_244 {w : World} {g : Nat} {Q : World → Prop} (HC : ∀ W, Ext w W → Calls Hvah.prog 212 #[.pointer (some ⟨g, 0, none⟩)] W fun e w' => e = .returned (.tuple #[]) ∧ Q w') : Calls Hvah.prog 120 #[.pointer (some ⟨g, 0, none⟩), .int .u8 244] w fun e w' => e = .returned (.tuple #[]) ∧ Q w' := by
  have HD := HC
  go_enter Hvah.func120, Hvah.ntmps120
  go_wp2_with (go_at_call 212; refine (HD _ (by (repeat (first | with_reducible exact Ext.refl _ | with_reducible assumption | refine Ext.trans ?_ (by with_reducible assumption) | refine Ext.alloc ?_ _ _ | refine Ext.drew ?_ | refine Ext.drewN ?_ _)))).mono ?_; rintro e w9 ⟨rfl, hq⟩)
  go_end0
  exact ⟨rfl, hq⟩
set_option maxRecDepth 100000 in
set_option maxHeartbeats 6400000 in
theorem mExec_245 {w : World} {g : Nat} {Q : World → Prop} (HC : ∀ W, Ext w W → Calls Hvah.prog 209 #[.pointer (some ⟨g, 0, none⟩)] W fun e w' => e = .returned (.tuple #[]) ∧ Q w') : Calls Hvah.prog 120 #[.pointer (some ⟨g, 0, none⟩), .int .u8 245] w fun e w' => e = .returned (.tuple #[]) ∧ Q w' := by
  have HD := HC
  go_enter Hvah.func120, Hvah.ntmps120
  go_wp2_with (go_at_call 209; refine (HD _ (by (repeat (first | with_reducible exact Ext.refl _ | with_reducible assumption | refine Ext.trans ?_ (by with_reducible assumption) | refine Ext.alloc ?_ _ _ | refine Ext.drew ?_ | refine Ext.drewN ?_ _)))).mono ?_; rintro e w9 ⟨rfl, hq⟩)
  go_end0
  exact ⟨rfl, hq⟩
set_option maxRecDepth 100000 in
set_option maxHeartbeats 6400000 in
theorem mExec_250 {w : World} {g : Nat} {Q : World → Prop} (HC : ∀ W, Ext w W → Calls Hvah.prog 212 #[.pointer (some ⟨g, 0, none⟩)] W fun e w' => e = .returned (.tuple #[]) ∧ Q w') : Calls Hvah.prog 120 #[.pointer (some ⟨g, 0, none⟩), .int .u8 250] w fun e w' => e = .returned (.tuple #[]) ∧ Q w' := by
  have HD := HC
  go_enter Hvah.func120, Hvah.ntmps120
  go_wp2_with (go_at_call 212; refine (HD _ (by (repeat (first | with_reducible exact Ext.refl _ | with_reducible assumption | refine Ext.trans ?_ (by with_reducible assumption) | refine Ext.alloc ?_ _ _ | refine Ext.drew ?_ | refine Ext.drewN ?_ _)))).mono ?_; rintro e w9 ⟨rfl, hq⟩)
  go_end0
  exact ⟨rfl, hq⟩
set_option maxRecDepth 100000 in
set_option maxHeartbeats 6400000 in
theorem mExec_253 {w : World} {g : Nat} {Q : World → Prop} (HC : ∀ W, Ext w W → Calls Hvah.prog 213 #[.pointer (some ⟨g, 0, none⟩)] W fun e w' => e = .returned (.tuple #[]) ∧ Q w') : Calls Hvah.prog 120 #[.pointer (some ⟨g, 0, none⟩), .int .u8 253] w fun e w' => e = .returned (.tuple #[]) ∧ Q w' := by
  have HD := HC
  go_enter Hvah.func120, Hvah.ntmps120
  go_wp2_with (go_at_call 213; refine (HD _ (by (repeat (first | with_reducible exact Ext.refl _ | with_reducible assumption | refine Ext.trans ?_ (by with_reducible assumption) | refine Ext.alloc ?_ _ _ | refine Ext.drew ?_ | refine Ext.drewN ?_ _)))).mono ?_; rintro e w9 ⟨rfl, hq⟩)
  go_end0
  exact ⟨rfl, hq⟩
set_option maxRecDepth 100000 in
set_option maxHeartbeats 6400000 in
theorem mExec_255 {w : World} {g : Nat} {Q : World → Prop} (HC : ∀ W, Ext w W → Calls Hvah.prog 211 #[.pointer (some ⟨g, 0, none⟩)] W fun e w' => e = .returned (.tuple #[]) ∧ Q w') : Calls Hvah.prog 120 #[.pointer (some ⟨g, 0, none⟩), .int .u8 255] w fun e w' => e = .returned (.tuple #[]) ∧ Q w' := by
  have HD := HC
  go_enter Hvah.func120, Hvah.ntmps120
  go_wp2_with (go_at_call 211; refine (HD _ (by (repeat (first | with_reducible exact Ext.refl _ | with_reducible assumption | refine Ext.trans ?_ (by with_reducible assumption) | refine Ext.alloc ?_ _ _ | refine Ext.drew ?_ | refine Ext.drewN ?_ _)))).mono ?_; rintro e w9 ⟨rfl, hq⟩)
  go_end0
  exact ⟨rfl, hq⟩
end Go.Proofs.YgvahwGreat
