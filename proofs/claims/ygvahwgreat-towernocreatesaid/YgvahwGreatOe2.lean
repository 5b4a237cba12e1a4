import Derived.Test.YgvahwGreatMLa
import Derived.Test.YgvahwGreatOe0
namespace Go.Proofs.YgvahwGreat
open Go.RowKit
set_option linter.unusedSimpArgs false
set_option maxRecDepth 100000 in
set_option maxHeartbeats 6400000 in
theorem mExec_29 {w : World} {g : Nat} {Q : World → Prop} (HC : ∀ W, Ext w W → Calls Hvah.prog 200 #[.pointer (some ⟨g, 0, none⟩)] W fun e w' => e = .returned (.tuple #[]) ∧ Q w') : Calls Hvah.prog 120 #[.pointer (some ⟨g, 0, none⟩), .int .u8 29] w fun e w' => e = .returned (.tuple #[]) ∧ Q w' := by
  have HD := HC
  go_enter Hvah.func120, Hvah.ntmps120
  go_wp2_with (go_at_call 200; refine (HD _ (by (repeat (first | with_reducible exact Ext.refl _ | with_reducible assumption | refine Ext.trans ?_ (by with_reducible assumption) | refine Ext.alloc ?_ _ _ | refine Ext.drew ?_ | refine Ext.drewN ?_ _)))).mono ?_; rintro e w9 ⟨rfl, hq⟩)
  go_end0
  exact ⟨rfl, hq⟩
set_option maxRecDepth 100000 in
set_option maxHeartbeats 6400000 in
theorem mExec_32 {w : World} {g : Nat} {Q : World → Prop} (HC : ∀ W, Ext w W → Calls Hvah.prog 201 #[.pointer (some ⟨g, 0, none⟩)] W fun e w' => e = .returned (.tuple #[]) ∧ Q w') : Calls Hvah.prog 120 #[.pointer (some ⟨g, 0, none⟩), .int .u8 32] w fun e w' => e = .returned (.tuple #[]) ∧ Q w' := by
  have HD := HC
  go_enter Hvah.func120, Hvah.ntmps120
  go_wp2_with (go_at_call 201; refine (HD _ (by (repeat (first | with_reducible exact Ext.refl _ | with_reducible assumption | refine Ext.trans ?_ (by with_reducible assumption) | refine Ext.alloc ?_ _ _ | refine Ext.drew ?_ | refine Ext.drewN ?_ _)))).mono ?_; rintro e w9 ⟨rfl, hq⟩)
  go_end0
  exact ⟨rfl, hq⟩
set_option maxRecDepth 100000 in
set_option maxHeartbeats 6400000 in
theorem mExec_48 {w : World} {g : Nat} {Q : World → Prop} (HC : ∀ W, Ext w W → Calls Hvah.prog 203 #[.pointer (some ⟨g, 0, none⟩)] W fun e w' => e = .returned (.tuple #[]) ∧ Q w') : Calls Hvah.prog 120 #[.pointer (some ⟨g, 0, none⟩), .int .u8 48] w fun e w' => e = .returned (.tuple #[]) ∧ Q w' := by
  have HD := HC
  go_enter Hvah.func120, Hvah.ntmps120
  go_wp2_with (go_at_call 203; refine (HD _ (by (repeat (first | with_reducible exact Ext.refl _ | with_reducible assumption | refine Ext.trans ?_ (by with_reducible assumption) | refine Ext.alloc ?_ _ _ | refine Ext.drew ?_ | refine Ext.drewN ?_ _)))).mono ?_; rintro e w9 ⟨rfl, hq⟩)
  go_end0
  exact ⟨rfl, hq⟩
set_option maxRecDepth 100000 in
set_option maxHeartbeats 6400000 in
theorem mExec_49 {w : World} {g : Nat} {Q : World → Prop} (HC : ∀ W, Ext w W → Calls Hvah.prog 202 #[.pointer (some ⟨g, 0, none⟩)] W fun e w' => e = .returned (.tuple #[]) ∧ Q w') : Calls Hvah.prog 120 #[.pointer (some ⟨g, 0, none⟩), .int .u8 49] w fun e w' => e = .returned (.tuple #[]) ∧ Q w' := by
  have HD := HC
  go_enter Hvah.func120, Hvah.ntmps120
  go_wp2_with (go_at_call 202; refine (HD _ (by (repeat (first | with_reducible exact Ext.refl _ | with_reducible assumption | refine Ext.trans ?_ (by with_reducible assumption) | refine Ext.alloc ?_ _ _ | refine Ext.drew ?_ | refine Ext.drewN ?_ _)))).mono ?_; rintro e w9 ⟨rfl, hq⟩)
  go_end0
  exact ⟨rfl, hq⟩
set_option maxRecDepth 100000 in
set_option maxHeartbeats 6400000 in
theorem mExec_50 {w : World} {g : Nat} {Q : World → Prop} (HC : ∀ W, Ext w W → Calls Hvah.prog 203 #[.pointer (some ⟨g, 0, none⟩)] W fun e w' => e = .returned (.tuple #[]) ∧ Q w') : Calls Hvah.prog 120 #[.pointer (some ⟨g, 0, none⟩), .int .u8 50] w fun e w' => e = .returned (.tuple #[]) ∧ Q w' := by
  have HD := HC
  go_enter Hvah.func120, Hvah.ntmps120
  go_wp2_with (go_at_call 203; refine (HD _ (by (repeat (first | with_reducible exact Ext.refl _ | with_reducible assumption | refine Ext.trans ?_ (by with_reducible assumption) | refine Ext.alloc ?_ _ _ | refine Ext.drew ?_ | refine Ext.drewN ?_ _)))).mono ?_; rintro e w9 ⟨rfl, hq⟩)
  go_end0
  exact ⟨rfl, hq⟩
set_option maxRecDepth 100000 in
set_option maxHeartbeats 6400000 in
theorem mExec_51 {w : World} {g : Nat} {Q : World → Prop} (HC : ∀ W, Ext w W → Calls Hvah.prog 203 #[.pointer (some ⟨g, 0, none⟩)] W fun e w' => e = .returned (.tuple #[]) ∧ Q w') : Calls Hvah.prog 120 #[.pointer (some ⟨g, 0, none⟩), .int .u8 51] w fun e w' => e = .returned (.tuple #[]) ∧ Q w' := by
  have HD := HC
  go_enter Hvah.func120, Hvah.ntmps120
  go_wp2_with (go_at_call 203; refine (HD _ (by (repeat (first | with_reducible exact Ext.refl _ | with_reducible assumption | refine Ext.trans ?_ (by with_reducible assumption) | refine Ext.alloc ?_ _ _ | refine Ext.drew ?_ | refine Ext.drewN ?_ _)))).mono ?_; rintro e w9 ⟨rfl, hq⟩)
  go_end0
  exact ⟨rfl, hq⟩
set_option maxRecDepth 100000 in
set_option maxHeartbeats 6400000 in
theorem mExec_52 {w : World} {g : Nat} {Q : World → Prop} (HC : ∀ W, Ext w W → Calls Hvah.prog 203 #[.pointer (some ⟨g, 0, none⟩)] W fun e w' => e = .returned (.tuple #[]) ∧ Q w') : Calls Hvah.prog 120 #[.pointer (some ⟨g, 0, none⟩), .int .u8 52] w fun e w' => e = .returned (.tuple #[]) ∧ Q w' := by
  have HD := HC
  go_enter Hvah.func120, Hvah.ntmps120
  go_wp2_with (go_at_call 203; refine (HD _ (by (repeat (first | with_reducible exact Ext.refl _ | with_reducible assumption | refine Ext.trans ?_ (by with_reducible assumption) | refine Ext.alloc ?_ _ _ | refine Ext.drew ?_ | refine Ext.drewN ?_ _)))).mono ?_; rintro e w9 ⟨rfl, hq⟩)
  go_end0
  exact ⟨rfl, hq⟩
set_option maxRecDepth 100000 in
set_option maxHeartbeats 6400000 in
theorem mExec_53 {w : World} {g : Nat} {Q : World → Prop} (HC : ∀ W, Ext w W → Calls Hvah.prog 203 #[.pointer (some ⟨g, 0, none⟩)] W fun e w' => e = .returned (.tuple #[]) ∧ Q w') : Calls Hvah.prog 120 #[.pointer (some ⟨g, 0, none⟩), .int .u8 53] w fun e w' => e = .returned (.tuple #[]) ∧ Q w' := by
  have HD := HC
  go_enter Hvah.func120, Hvah.ntmps120
  go_wp2_with (go_at_call 203; refine (HD _ (by (repeat (first | with_reducible exact Ext.refl _ | with_reducible assumption | refine Ext.trans ?_ (by with_reducible assumption) | refine Ext.alloc ?_ _ _ | refine Ext.drew ?_ | refine Ext.drewN ?_ _)))).mono ?_; rintro e w9 ⟨rfl, hq⟩)
  go_end0
  exact ⟨rfl, hq⟩
set_option maxRecDepth 100000 in
set_option maxHeartbeats 6400000 in
theorem mExec_54 {w : World} {g : Nat} {Q : World → Prop} (HC : ∀ W, Ext w W → Calls Hvah.prog 203 #[.pointer (some ⟨g, 0, none⟩)] W fun e w' => e = .returned (.tuple #[]) ∧ Q w') : Calls Hvah.prog 120 #[.pointer (some ⟨g, 0, none⟩), .int .u8 54] w fun e w' => e = .returned (.tuple #[]) ∧ Q w' := by
  have HD := HC
  go_enter Hvah.func120, Hvah.ntmps120
  go_wp2_with (go_at_call 203; refine (HD _ (by (repeat (first | with_reducible exact Ext.refl _ | with_reducible assumption | refine Ext.trans ?_ (by with_reducible assumption) | refine Ext.alloc ?_ _ _ | refine Ext.drew ?_ | refine Ext.drewN ?_ _)))).mono ?_; rintro e w9 ⟨rfl, hq⟩)
  go_end0
  exact ⟨rfl, hq⟩
set_option maxRecDepth 100000 in
set_option maxHeartbeats 6400000 in
theorem mExec_55 {w : World} {g : Nat} {Q : World → Prop} (HC : ∀ W, Ext w W → Calls Hvah.prog 204 #[.pointer (some ⟨g, 0, none⟩)] W fun e w' => e = .returned (.tuple #[]) ∧ Q w') : Calls Hvah.prog 120 #[.pointer (some ⟨g, 0, none⟩), .int .u8 55] w fun e w' => e = .returned (.tuple #[]) ∧ Q w' := by
  have HD := HC
  go_enter Hvah.func120, Hvah.ntmps120
  go_wp2_with (go_at_call 204; refine (HD _ (by (repeat (first | with_reducible exact Ext.refl _ | with_reducible assumption | refine Ext.trans ?_ (by with_reducible assumption) | refine Ext.alloc ?_ _ _ | refine Ext.drew ?_ | refine Ext.drewN ?_ _)))).mono ?_; rintro e w9 ⟨rfl, hq⟩)
  go_end0
  exact ⟨rfl, hq⟩
set_option maxRecDepth 100000 in
set_option maxHeartbeats 6400000 in
theorem mExec_56 {w : World} {g : Nat} {Q : World → Prop} (HC : ∀ W, Ext w W → Calls Hvah.prog 203 #[.pointer (some ⟨g, 0, none⟩)] W fun e w' => e = .returned (.tuple #[]) ∧ Q w') : Calls Hvah.prog 120 #[.pointer (some ⟨g, 0, none⟩), .int .u8 56] w fun e w' => e = .returned (.tuple #[]) ∧ Q w' := by
  have HD := HC
  go_enter Hvah.func120, Hvah.ntmps120
  go_wp2_with (go_at_call 203; refine (HD _ (by (repeat (first | with_reducible exact Ext.refl _ | with_reducible assumption | refine Ext.trans ?_ (by with_reducible assumption) | refine Ext.alloc ?_ _ _ | refine Ext.drew ?_ | refine Ext.drewN ?_ _)))).mono ?_; rintro e w9 ⟨rfl, hq⟩)
  go_end0
  exact ⟨rfl, hq⟩
set_option maxRecDepth 100000 in
set_option maxHeartbeats 6400000 in
theorem mExec_57 {w : World} {g : Nat} {Q : World → Prop} (HC : ∀ W, Ext w W → Calls Hvah.prog 204 #[.pointer (some ⟨g, 0, none⟩)] W fun e w' => e = .returned (.tuple #[]) ∧ Q w') : Calls Hvah.prog 120 #[.pointer (some ⟨g, 0, none⟩), .int .u8 57] w fun e w' => e = .returned (.tuple #[]) ∧ Q w' := by
  have HD := HC
  go_enter Hvah.func120, Hvah.ntmps120
  go_wp2_with (go_at_call 204; refine (HD _ (by (repeat (first | with_reducible exact Ext.refl _ | with_reducible assumption | refine Ext.trans ?_ (by with_reducible assumption) | refine Ext.alloc ?_ _ _ | refine Ext.drew ?_ | refine Ext.drewN ?_ _)))).mono ?_; rintro e w9 ⟨rfl, hq⟩)
  go_end0
  exact ⟨rfl, hq⟩
set_option maxRecDepth 100000 in
set_option maxHeartbeats 6400000 in
theorem mExec_58 {w : World} {g : Nat} {Q : World → Prop} (HC : ∀ W, Ext w W → Calls Hvah.prog 203 #[.pointer (some ⟨g, 0, none⟩)] W fun e w' => e = .returned (.tuple #[]) ∧ Q w') : Calls Hvah.prog 120 #[.pointer (some ⟨g, 0, none⟩), .int .u8 58] w fun e w' => e = .returned (.tuple #[]) ∧ Q w' := by
  have HD := HC
  go_enter Hvah.func120, Hvah.ntmps120
  go_wp2_with (go_at_call 203; refine (HD _ (by (repeat (first | with_reducible exact Ext.refl _ | with_reducible assumption | refine Ext.trans ?_ (by with_reducible assumption) | refine Ext.alloc ?_ _ _ | refine Ext.drew ?_ | refine Ext.drewN ?_ _)))).mono ?_; rintro e w9 ⟨rfl, hq⟩)
  go_end0
  exact ⟨rfl, hq⟩
set_option maxRecDepth 100000 in
set_option maxHeartbeats 6400000 in
theorem mExec_59 {w : World} {g : Nat} {Q : World → Prop} (HC : ∀ W, Ext w W → Calls Hvah.prog 202 #[.pointer (some ⟨g, 0, none⟩)] W fun e w' => e = .returned (.tuple #[]) ∧ Q w') : Calls Hvah.prog 120 #[.pointer (some ⟨g, 0, none⟩), .int .u8 59] w fun e w' => e = .returned (.tuple #[]) ∧ Q w' := by
  have HD := HC
  go_enter Hvah.func120, Hvah.ntmps120
  go_wp2_with (go_at_call 202; refine (HD _ (by (repeat (first | with_reducible exact Ext.refl _ | with_reducible assumption | refine Ext.trans ?_ (by with_reducible assumption) | refine Ext.alloc ?_ _ _ | refine Ext.drew ?_ | refine Ext.drewN ?_ _)))).mono ?_; rintro e w9 ⟨rfl, hq⟩)
  go_end0
  exact ⟨rfl, hq⟩
set_option maxRecDepth 100000 in
set_option maxHeartbeats 6400000 in
theorem mExec_60 {w : World} {g : Nat} {Q : World → Prop} (HC : ∀ W, Ext w W → Calls Hvah.prog 204 #[.pointer (some ⟨g, 0, none⟩)] W fun e w' => e = .returned (.tuple #[]) ∧ Q w') : Calls Hvah.prog 120 #[.pointer (some ⟨g, 0, none⟩), .int .u8 60] w fun e w' => e = .returned (.tuple #[]) ∧ Q w' := by
  have HD := HC
  go_enter Hvah.func120, Hvah.ntmps120
  go_wp2_with (go_at_call 204; refine (HD _ (by (repeat (first | with_reducible exact Ext.refl _ | with_reducible assumption | refine Ext.trans ?_ (by with_reducible assumption) | refine Ext.alloc ?_ _ _ | refine Ext.drew ?_ | refine Ext.drewN ?_ _)))).mono ?_; rintro e w9 ⟨rfl, hq⟩)
  go_end0
  exact ⟨rfl, hq⟩
set_option maxRecDepth 100000 in
set_option maxHeartbeats 6400000 in
theorem mExec_61 {w : World} {g : Nat} {Q : World → Prop} (HC : ∀ W, Ext w W → Calls Hvah.prog 203 #[.pointer (some ⟨g, 0, none⟩)] W fun e w' => e = .returned (.tuple #[]) ∧ Q w') : Calls Hvah.prog 120 #[.pointer (some ⟨g, 0, none⟩), .int .u8 61] w fun e w' => e = .returned (.tuple #[]) ∧ Q w' := by
  have HD := HC
  go_enter Hvah.func120, Hvah.ntmps120
  go_wp2_with (go_at_call 203; refine (HD _ (by (repeat (first | with_reducible exact Ext.refl _ | with_reducible assumption | refine Ext.trans ?_ (by with_reducible assumption) | refine Ext.alloc ?_ _ _ | refine Ext.drew ?_ | refine Ext.drewN ?_ _)))).mono ?_; rintro e w9 ⟨rfl, hq⟩)
  go_end0
  exact ⟨rfl, hq⟩
set_option maxRecDepth 100000 in
set_option maxHeartbeats 6400000 in
theorem mExec_62 {w : World} {g : Nat} {Q : World → Prop} (HC : ∀ W, Ext w W → Calls Hvah.prog 204 #[.pointer (some ⟨g, 0, none⟩)] W fun e w' => e = .returned (.tuple #[]) ∧ Q w') : Calls Hvah.prog 120 #[.pointer (some ⟨g, 0, none⟩), .int .u8 62] w fun e w' => e = .returned (.tuple #[]) ∧ Q w' := by
  have HD := HC
  go_enter Hvah.func120, Hvah.ntmps120
  go_wp2_with (go_at_call 204; refine (HD _ (by (repeat (first | with_reducible exact Ext.refl _ | with_reducible assumption | refine Ext.trans ?_ (by with_reducible assumption) | refine Ext.alloc ?_ _ _ | refine Ext.drew ?_ | refine Ext.drewN ?_ _)))).mono ?_; rintro e w9 ⟨rfl, hq⟩)
  go_end0
  exact ⟨rfl, hq⟩
set_option maxRecDepth 100000 in
set_option maxHeartbeats 6400000 in
theorem mExec_63 {w : World} {g : Nat} {Q : World → Prop} (HC : ∀ W, Ext w W → Calls Hvah.prog 202 #[.pointer (some ⟨g, 0, none⟩)] W fun e w' => e = .returned (.tuple #[]) ∧ Q w') : Calls Hvah.prog 120 #[.pointer (some ⟨g, 0, none⟩), .int .u8 63] w fun e w' => e = .returned (.tuple #[]) ∧ Q w' := by
  have HD := HC
  go_enter Hvah.func120, Hvah.ntmps120
  go_wp2_with (go_at_call 202; refine (HD _ (by (repeat (first | with_reducible exact Ext.refl _ | with_reducible assumption | refine Ext.trans ?_ (by with_reducible assumption) | refine Ext.alloc ?_ _ _ | refine Ext.drew ?_ | refine Ext.drewN ?_ _)))).mono ?_; rintro e w9 ⟨rfl, hq⟩)
  go_end0
  exact ⟨rfl, hq⟩
set_option maxRecDepth 100000 in
set_option maxHeartbeats 6400000 in
theorem mExec_64 {w : World} {g : Nat} {Q : World → Prop} (HC : ∀ W, Ext w W → Calls Hvah.prog 205 #[.pointer (some ⟨g, 0, none⟩)] W fun e w' => e = .returned (.tuple #[]) ∧ Q w') : Calls Hvah.prog 120 #[.pointer (some ⟨g, 0, none⟩), .int .u8 64] w fun e w' => e = .returned (.tuple #[]) ∧ Q w' := by
  have HD := HC
  go_enter Hvah.func120, Hvah.ntmps120
  go_wp2_with (go_at_call 205; refine (HD _ (by (repeat (first | with_reducible exact Ext.refl _ | with_reducible assumption | refine Ext.trans ?_ (by with_reducible assumption) | refine Ext.alloc ?_ _ _ | refine Ext.drew ?_ | refine Ext.drewN ?_ _)))).mono ?_; rintro e w9 ⟨rfl, hq⟩)
  go_end0
  exact ⟨rfl, hq⟩
set_option maxRecDepth 100000 in
set_option maxHeartbeats 6400000 in
theorem mExec_65 {w : World} {g : Nat} {Q : World → Prop} (HC : ∀ W, Ext w W → Calls Hvah.prog 205 #[.pointer (some ⟨g, 0, none⟩)] W fun e w' => e = .returned (.tuple #[]) ∧ Q w') : Calls Hvah.prog 120 #[.pointer (some ⟨g, 0, none⟩), .int .u8 65] w fun e w' => e = .returned (.tuple #[]) ∧ Q w' := by
  have HD := HC
  go_enter Hvah.func120, Hvah.ntmps120
  go_wp2_with (go_at_call 205; refine (HD _ (by (repeat (first | with_reducible exact Ext.refl _ | with_reducible assumption | refine Ext.trans ?_ (by with_reducible assumption) | refine Ext.alloc ?_ _ _ | refine Ext.drew ?_ | refine Ext.drewN ?_ _)))).mono ?_; rintro e w9 ⟨rfl, hq⟩)
  go_end0
  exact ⟨rfl, hq⟩
set_option maxRecDepth 100000 in
set_option maxHeartbeats 6400000 in
theorem mExec_66 {w : World} {g : Nat} {Q : World → Prop} (HC : ∀ W, Ext w W → Calls Hvah.prog 205 #[.pointer (some ⟨g, 0, none⟩)] W fun e w' => e = .returned (.tuple #[]) ∧ Q w') : Calls Hvah.prog 120 #[.pointer (some ⟨g, 0, none⟩), .int .u8 66] w fun e w' => e = .returned (.tuple #[]) ∧ Q w' := by
  have HD := HC
  go_enter Hvah.func120, Hvah.ntmps120
  go_wp2_with (go_at_call 205; refine (HD _ (by (repeat (first | with_reducible exact Ext.refl _ | with_reducible assumption | refine Ext.trans ?_ (by with_reducible assumption) | refine Ext.alloc ?_ _ _ | refine Ext.drew ?_ | refine Ext.drewN ?_ _)))).mono ?_; rintro e w9 ⟨rfl, hq⟩)
  go_end0
  exact ⟨rfl, hq⟩
set_option maxRecDepth 100000 in
set_option maxHeartbeats 6400000 in
theorem mExec_67 {w : World} {g : Nat} {Q : World → Prop} (HC : ∀ W, Ext w W → Calls Hvah.prog 205 #[.pointer (some ⟨g, 0, none⟩)] W fun e w' => e = .returned (.tuple #[]) ∧ Q w') : Calls Hvah.prog 120 #[.pointer (some ⟨g, 0, none⟩), .int .u8 67] w fun e w' => e = .returned (.tuple #[]) ∧ Q w' := by
  have HD := HC
  go_enter Hvah.func120, Hvah.ntmps120
  go_wp2_with (go_at_call 205; refine (HD _ (by (repeat (first | with_reducible exact Ext.refl _ | with_reducible assumption | refine Ext.trans ?_ (by with_reducible assumption) | refine Ext.alloc ?_ _ _ | refine Ext.drew ?_ | refine Ext.drewN ?_ _)))).mono ?_; rintro e w9 ⟨rfl, hq⟩)
  go_end0
  exact ⟨rfl, hq⟩
set_option maxRecDepth 100000 in
set_option maxHeartbeats 6400000 in
theorem mExec_68 {w : World} {g : Nat} {Q : World → Prop} (HC : ∀ W, Ext w W → Calls Hvah.prog 205 #[.pointer (some ⟨g, 0, none⟩)] W fun e w' => e = .returned (.tuple #[]) ∧ Q w') : Calls Hvah.prog 120 #[.pointer (some ⟨g, 0, none⟩), .int .u8 68] w fun e w' => e = .returned (.tuple #[]) ∧ Q w' := by
  have HD := HC
  go_enter Hvah.func120, Hvah.ntmps120
  go_wp2_with (go_at_call 205; refine (HD _ (by (repeat (first | with_reducible exact Ext.refl _ | with_reducible assumption | refine Ext.trans ?_ (by with_reducible assumption) | refine Ext.alloc ?_ _ _ | refine Ext.drew ?_ | refine Ext.drewN ?_ _)))).mono ?_; rintro e w9 ⟨rfl, hq⟩)
  go_end0
  exact ⟨rfl, hq⟩
set_option maxRecDepth 100000 in
set_option maxHeartbeats 6400000 in
theorem mExec_69 {w : World} {g : Nat} {Q : World → Prop} (HC : ∀ W, Ext w W → Calls Hvah.prog 205 #[.pointer (some ⟨g, 0, none⟩)] W fun e w' => e = .returned (.tuple #[]) ∧ Q w') : Calls Hvah.prog 120 #[.pointer (some ⟨g, 0, none⟩), .int .u8 69] w fun e w' => e = .returned (.tuple #[]) ∧ Q w' := by
  have HD := HC
  go_enter Hvah.func120, Hvah.ntmps120
  go_wp2_with (go_at_call 205; refine (HD _ (by (repeat (first | with_reducible exact Ext.refl _ | with_reducible assumption | refine Ext.trans ?_ (by with_reducible assumption) | refine Ext.alloc ?_ _ _ | refine Ext.drew ?_ | refine Ext.drewN ?_ _)))).mono ?_; rintro e w9 ⟨rfl, hq⟩)
  go_end0
  exact ⟨rfl, hq⟩
set_option maxRecDepth 100000 in
set_option maxHeartbeats 6400000 in
theorem mExec_70 {w : World} {g : Nat} {Q : World → Prop} (HC : ∀ W, Ext w W → Calls Hvah.prog 205 #[.pointer (some ⟨g, 0, none⟩)] W fun e w' => e = .returned (.tuple #[]) ∧ Q w') : Calls Hvah.prog 120 #[.pointer (some ⟨g, 0, none⟩), .int .u8 70] w fun e w' => e = .returned (.tuple #[]) ∧ Q w' := by
  have HD := HC
  go_enter Hvah.func120, Hvah.ntmps120
  go_wp2_with (go_at_call 205; refine (HD _ (by (repeat (first | with_reducible exact Ext.refl _ | with_reducible assumption | refine Ext.trans ?_ (by with_reducible assumption) | refine Ext.alloc ?_ _ _ | refine Ext.drew ?_ | refine Ext.drewN ?_ _)))).mono ?_; rintro e w9 ⟨rfl, hq⟩)
  go_end0
  exact ⟨rfl, hq⟩
end Go.Proofs.YgvahwGreat
