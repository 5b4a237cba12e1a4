import Derived.Test.YgvahwGreatMLa
import Derived.Test.YgvahwGreatRowsJ
namespace Go.Proofs.YgvahwGreat
open Go.RowKit
set_option linter.unusedSimpArgs false
set_option maxRecDepth 100000 in
set_option maxHeartbeats 6400000 in
theorem mRows_95 {w : World} {g : Nat} {Q : World → Prop} (HC : ∀ W, Ext w W → Calls Hvah.prog 325 #[.pointer (some ⟨g, 0, none⟩)] W fun e w' => e = .returned (.tuple #[]) ∧ Q w') : Calls Hvah.prog 215 #[.pointer (some ⟨g, 0, none⟩), .int .u8 95] w fun e w' => e = .returned (.tuple #[]) ∧ Q w' := by
  have HD := HC
  go_enter Hvah.func215, Hvah.ntmps215
  go_wp2_with (go_at_call 325; refine (HD _ (by (repeat (first | with_reducible exact Ext.refl _ | with_reducible assumption | refine Ext.trans ?_ (by with_reducible assumption) | refine Ext.alloc ?_ _ _ | refine Ext.drew ?_ | refine Ext.drewN ?_ _)))).mono ?_; rintro e w9 ⟨rfl, hq⟩)
  go_end0
  exact ⟨rfl, hq⟩
set_option maxRecDepth 100000 in
set_option maxHeartbeats 6400000 in
theorem mRows_96 {w : World} {g : Nat} {Q : World → Prop} (HC : ∀ W, Ext w W → Calls Hvah.prog 325 #[.pointer (some ⟨g, 0, none⟩)] W fun e w' => e = .returned (.tuple #[]) ∧ Q w') : Calls Hvah.prog 215 #[.pointer (some ⟨g, 0, none⟩), .int .u8 96] w fun e w' => e = .returned (.tuple #[]) ∧ Q w' := by
  have HD := HC
  go_enter Hvah.func215, Hvah.ntmps215
  go_wp2_with (go_at_call 325; refine (HD _ (by (repeat (first | with_reducible exact Ext.refl _ | with_reducible assumption | refine Ext.trans ?_ (by with_reducible assumption) | refine Ext.alloc ?_ _ _ | refine Ext.drew ?_ | refine Ext.drewN ?_ _)))).mono ?_; rintro e w9 ⟨rfl, hq⟩)
  go_end0
  exact ⟨rfl, hq⟩
set_option maxRecDepth 100000 in
set_option maxHeartbeats 6400000 in
theorem mRows_97 {w : World} {g : Nat} {Q : World → Prop} (HC : ∀ W, Ext w W → Calls Hvah.prog 325 #[.pointer (some ⟨g, 0, none⟩)] W fun e w' => e = .returned (.tuple #[]) ∧ Q w') : Calls Hvah.prog 215 #[.pointer (some ⟨g, 0, none⟩), .int .u8 97] w fun e w' => e = .returned (.tuple #[]) ∧ Q w' := by
  have HD := HC
  go_enter Hvah.func215, Hvah.ntmps215
  go_wp2_with (go_at_call 325; refine (HD _ (by (repeat (first | with_reducible exact Ext.refl _ | with_reducible assumption | refine Ext.trans ?_ (by with_reducible assumption) | refine Ext.alloc ?_ _ _ | refine Ext.drew ?_ | refine Ext.drewN ?_ _)))).mono ?_; rintro e w9 ⟨rfl, hq⟩)
  go_end0
  exact ⟨rfl, hq⟩
set_option maxRecDepth 100000 in
set_option maxHeartbeats 6400000 in
theorem mRows_98 {w : World} {g : Nat} {Q : World → Prop} (HC : ∀ W, Ext w W → Calls Hvah.prog 325 #[.pointer (some ⟨g, 0, none⟩)] W fun e w' => e = .returned (.tuple #[]) ∧ Q w') : Calls Hvah.prog 215 #[.pointer (some ⟨g, 0, none⟩), .int .u8 98] w fun e w' => e = .returned (.tuple #[]) ∧ Q w' := by
  have HD := HC
  go_enter Hvah.func215, Hvah.ntmps215
  go_wp2_with (go_at_call 325; refine (HD _ (by (repeat (first | with_reducible exact Ext.refl _ | with_reducible assumption | refine Ext.trans ?_ (by with_reducible assumption) | refine Ext.alloc ?_ _ _ | refine Ext.drew ?_ | refine Ext.drewN ?_ _)))).mono ?_; rintro e w9 ⟨rfl, hq⟩)
  go_end0
  exact ⟨rfl, hq⟩
set_option maxRecDepth 100000 in
set_option maxHeartbeats 6400000 in
theorem mRows_99 {w : World} {g : Nat} {Q : World → Prop} (HC : ∀ W, Ext w W → Calls Hvah.prog 325 #[.pointer (some ⟨g, 0, none⟩)] W fun e w' => e = .returned (.tuple #[]) ∧ Q w') : Calls Hvah.prog 215 #[.pointer (some ⟨g, 0, none⟩), .int .u8 99] w fun e w' => e = .returned (.tuple #[]) ∧ Q w' := by
  have HD := HC
  go_enter Hvah.func215, Hvah.ntmps215
  go_wp2_with (go_at_call 325; refine (HD _ (by (repeat (first | with_reducible exact Ext.refl _ | with_reducible assumption | refine Ext.trans ?_ (by with_reducible assumption) | refine Ext.alloc ?_ _ _ | refine Ext.drew ?_ | refine Ext.drewN ?_ _)))).mono ?_; rintro e w9 ⟨rfl, hq⟩)
  go_end0
  exact ⟨rfl, hq⟩
set_option maxRecDepth 100000 in
set_option maxHeartbeats 6400000 in
theorem mRows_100 {w : World} {g : Nat} {Q : World → Prop} (HC : ∀ W, Ext w W → Calls Hvah.prog 325 #[.pointer (some ⟨g, 0, none⟩)] W fun e w' => e = .returned (.tuple #[]) ∧ Q w') : Calls Hvah.prog 215 #[.pointer (some ⟨g, 0, none⟩), .int .u8 100] w fun e w' => e = .returned (.tuple #[]) ∧ Q w' := by
  have HD := HC
  go_enter Hvah.func215, Hvah.ntmps215
  go_wp2_with (go_at_call 325; refine (HD _ (by (repeat (first | with_reducible exact Ext.refl _ | with_reducible assumption | refine Ext.trans ?_ (by with_reducible assumption) | refine Ext.alloc ?_ _ _ | refine Ext.drew ?_ | refine Ext.drewN ?_ _)))).mono ?_; rintro e w9 ⟨rfl, hq⟩)
  go_end0
  exact ⟨rfl, hq⟩
set_option maxRecDepth 100000 in
set_option maxHeartbeats 6400000 in
theorem mRows_101 {w : World} {g : Nat} {Q : World → Prop} (HC : ∀ W, Ext w W → Calls Hvah.prog 325 #[.pointer (some ⟨g, 0, none⟩)] W fun e w' => e = .returned (.tuple #[]) ∧ Q w') : Calls Hvah.prog 215 #[.pointer (some ⟨g, 0, none⟩), .int .u8 101] w fun e w' => e = .returned (.tuple #[]) ∧ Q w' := by
  have HD := HC
  go_enter Hvah.func215, Hvah.ntmps215
  go_wp2_with (go_at_call 325; refine (HD _ (by (repeat (first | with_reducible exact Ext.refl _ | with_reducible assumption | refine Ext.trans ?_ (by with_reducible assumption) | refine Ext.alloc ?_ _ _ | refine Ext.drew ?_ | refine Ext.drewN ?_ _)))).mono ?_; rintro e w9 ⟨rfl, hq⟩)
  go_end0
  exact ⟨rfl, hq⟩
set_option maxRecDepth 100000 in
set_option maxHeartbeats 6400000 in
theorem mRows_102 {w : World} {g : Nat} {Q : World → Prop} (HC : ∀ W, Ext w W → Calls Hvah.prog 325 #[.pointer (some ⟨g, 0, none⟩)] W fun e w' => e = .returned (.tuple #[]) ∧ Q w') : Calls Hvah.prog 215 #[.pointer (some ⟨g, 0, none⟩), .int .u8 102] w fun e w' => e = .returned (.tuple #[]) ∧ Q w' := by
  have HD := HC
  go_enter Hvah.func215, Hvah.ntmps215
  go_wp2_with (go_at_call 325; refine (HD _ (by (repeat (first | with_reducible exact Ext.refl _ | with_reducible assumption | refine Ext.trans ?_ (by with_reducible assumption) | refine Ext.alloc ?_ _ _ | refine Ext.drew ?_ | refine Ext.drewN ?_ _)))).mono ?_; rintro e w9 ⟨rfl, hq⟩)
  go_end0
  exact ⟨rfl, hq⟩
set_option maxRecDepth 100000 in
set_option maxHeartbeats 6400000 in
theorem mRows_103 {w : World} {g : Nat} {Q : World → Prop} (HC : ∀ W, Ext w W → Calls Hvah.prog 325 #[.pointer (some ⟨g, 0, none⟩)] W fun e w' => e = .returned (.tuple #[]) ∧ Q w') : Calls Hvah.prog 215 #[.pointer (some ⟨g, 0, none⟩), .int .u8 103] w fun e w' => e = .returned (.tuple #[]) ∧ Q w' := by
  have HD := HC
  go_enter Hvah.func215, Hvah.ntmps215
  go_wp2_with (go_at_call 325; refine (HD _ (by (repeat (first | with_reducible exact Ext.refl _ | with_reducible assumption | refine Ext.trans ?_ (by with_reducible assumption) | refine Ext.alloc ?_ _ _ | refine Ext.drew ?_ | refine Ext.drewN ?_ _)))).mono ?_; rintro e w9 ⟨rfl, hq⟩)
  go_end0
  exact ⟨rfl, hq⟩
set_option maxRecDepth 100000 in
set_option maxHeartbeats 6400000 in
theorem mRows_104 {w : World} {g : Nat} {Q : World → Prop} (HC : ∀ W, Ext w W → Calls Hvah.prog 325 #[.pointer (some ⟨g, 0, none⟩)] W fun e w' => e = .returned (.tuple #[]) ∧ Q w') : Calls Hvah.prog 215 #[.pointer (some ⟨g, 0, none⟩), .int .u8 104] w fun e w' => e = .returned (.tuple #[]) ∧ Q w' := by
  have HD := HC
  go_enter Hvah.func215, Hvah.ntmps215
  go_wp2_with (go_at_call 325; refine (HD _ (by (repeat (first | with_reducible exact Ext.refl _ | with_reducible assumption | refine Ext.trans ?_ (by with_reducible assumption) | refine Ext.alloc ?_ _ _ | refine Ext.drew ?_ | refine Ext.drewN ?_ _)))).mono ?_; rintro e w9 ⟨rfl, hq⟩)
  go_end0
  exact ⟨rfl, hq⟩
set_option maxRecDepth 100000 in
set_option maxHeartbeats 6400000 in
theorem mRows_105 {w : World} {g : Nat} {Q : World → Prop} (HC : ∀ W, Ext w W → Calls Hvah.prog 325 #[.pointer (some ⟨g, 0, none⟩)] W fun e w' => e = .returned (.tuple #[]) ∧ Q w') : Calls Hvah.prog 215 #[.pointer (some ⟨g, 0, none⟩), .int .u8 105] w fun e w' => e = .returned (.tuple #[]) ∧ Q w' := by
  have HD := HC
  go_enter Hvah.func215, Hvah.ntmps215
  go_wp2_with (go_at_call 325; refine (HD _ (by (repeat (first | with_reducible exact Ext.refl _ | with_reducible assumption | refine Ext.trans ?_ (by with_reducible assumption) | refine Ext.alloc ?_ _ _ | refine Ext.drew ?_ | refine Ext.drewN ?_ _)))).mono ?_; rintro e w9 ⟨rfl, hq⟩)
  go_end0
  exact ⟨rfl, hq⟩
set_option maxRecDepth 100000 in
set_option maxHeartbeats 6400000 in
theorem mRows_106 {w : World} {g : Nat} {Q : World → Prop} (HC : ∀ W, Ext w W → Calls Hvah.prog 325 #[.pointer (some ⟨g, 0, none⟩)] W fun e w' => e = .returned (.tuple #[]) ∧ Q w') : Calls Hvah.prog 215 #[.pointer (some ⟨g, 0, none⟩), .int .u8 106] w fun e w' => e = .returned (.tuple #[]) ∧ Q w' := by
  have HD := HC
  go_enter Hvah.func215, Hvah.ntmps215
  go_wp2_with (go_at_call 325; refine (HD _ (by (repeat (first | with_reducible exact Ext.refl _ | with_reducible assumption | refine Ext.trans ?_ (by with_reducible assumption) | refine Ext.alloc ?_ _ _ | refine Ext.drew ?_ | refine Ext.drewN ?_ _)))).mono ?_; rintro e w9 ⟨rfl, hq⟩)
  go_end0
  exact ⟨rfl, hq⟩
set_option maxRecDepth 100000 in
set_option maxHeartbeats 6400000 in
theorem mRows_107 {w : World} {g : Nat} {Q : World → Prop} (HC : ∀ W, Ext w W → Calls Hvah.prog 325 #[.pointer (some ⟨g, 0, none⟩)] W fun e w' => e = .returned (.tuple #[]) ∧ Q w') : Calls Hvah.prog 215 #[.pointer (some ⟨g, 0, none⟩), .int .u8 107] w fun e w' => e = .returned (.tuple #[]) ∧ Q w' := by
  have HD := HC
  go_enter Hvah.func215, Hvah.ntmps215
  go_wp2_with (go_at_call 325; refine (HD _ (by (repeat (first | with_reducible exact Ext.refl _ | with_reducible assumption | refine Ext.trans ?_ (by with_reducible assumption) | refine Ext.alloc ?_ _ _ | refine Ext.drew ?_ | refine Ext.drewN ?_ _)))).mono ?_; rintro e w9 ⟨rfl, hq⟩)
  go_end0
  exact ⟨rfl, hq⟩
set_option maxRecDepth 100000 in
set_option maxHeartbeats 6400000 in
theorem mRows_108 {w : World} {g : Nat} {Q : World → Prop} (HC : ∀ W, Ext w W → Calls Hvah.prog 325 #[.pointer (some ⟨g, 0, none⟩)] W fun e w' => e = .returned (.tuple #[]) ∧ Q w') : Calls Hvah.prog 215 #[.pointer (some ⟨g, 0, none⟩), .int .u8 108] w fun e w' => e = .returned (.tuple #[]) ∧ Q w' := by
  have HD := HC
  go_enter Hvah.func215, Hvah.ntmps215
  go_wp2_with (go_at_call 325; refine (HD _ (by (repeat (first | with_reducible exact Ext.refl _ | with_reducible assumption | refine Ext.trans ?_ (by with_reducible assumption) | refine Ext.alloc ?_ _ _ | refine Ext.drew ?_ | refine Ext.drewN ?_ _)))).mono ?_; rintro e w9 ⟨rfl, hq⟩)
  go_end0
  exact ⟨rfl, hq⟩
set_option maxRecDepth 100000 in
set_option maxHeartbeats 6400000 in
theorem mRows_109 {w : World} {g : Nat} {Q : World → Prop} (HC : ∀ W, Ext w W → Calls Hvah.prog 325 #[.pointer (some ⟨g, 0, none⟩)] W fun e w' => e = .returned (.tuple #[]) ∧ Q w') : Calls Hvah.prog 215 #[.pointer (some ⟨g, 0, none⟩), .int .u8 109] w fun e w' => e = .returned (.tuple #[]) ∧ Q w' := by
  have HD := HC
  go_enter Hvah.func215, Hvah.ntmps215
  go_wp2_with (go_at_call 325; refine (HD _ (by (repeat (first | with_reducible exact Ext.refl _ | with_reducible assumption | refine Ext.trans ?_ (by with_reducible assumption) | refine Ext.alloc ?_ _ _ | refine Ext.drew ?_ | refine Ext.drewN ?_ _)))).mono ?_; rintro e w9 ⟨rfl, hq⟩)
  go_end0
  exact ⟨rfl, hq⟩
set_option maxRecDepth 100000 in
set_option maxHeartbeats 6400000 in
theorem mRows_110 {w : World} {g : Nat} {Q : World → Prop} (HC : ∀ W, Ext w W → Calls Hvah.prog 325 #[.pointer (some ⟨g, 0, none⟩)] W fun e w' => e = .returned (.tuple #[]) ∧ Q w') : Calls Hvah.prog 215 #[.pointer (some ⟨g, 0, none⟩), .int .u8 110] w fun e w' => e = .returned (.tuple #[]) ∧ Q w' := by
  have HD := HC
  go_enter Hvah.func215, Hvah.ntmps215
  go_wp2_with (go_at_call 325; refine (HD _ (by (repeat (first | with_reducible exact Ext.refl _ | with_reducible assumption | refine Ext.trans ?_ (by with_reducible assumption) | refine Ext.alloc ?_ _ _ | refine Ext.drew ?_ | refine Ext.drewN ?_ _)))).mono ?_; rintro e w9 ⟨rfl, hq⟩)
  go_end0
  exact ⟨rfl, hq⟩
set_option maxRecDepth 100000 in
set_option maxHeartbeats 6400000 in
theorem mRows_111 {w : World} {g : Nat} {Q : World → Prop} (HC : ∀ W, Ext w W → Calls Hvah.prog 325 #[.pointer (some ⟨g, 0, none⟩)] W fun e w' => e = .returned (.tuple #[]) ∧ Q w') : Calls Hvah.prog 215 #[.pointer (some ⟨g, 0, none⟩), .int .u8 111] w fun e w' => e = .returned (.tuple #[]) ∧ Q w' := by
  have HD := HC
  go_enter Hvah.func215, Hvah.ntmps215
  go_wp2_with (go_at_call 325; refine (HD _ (by (repeat (first | with_reducible exact Ext.refl _ | with_reducible assumption | refine Ext.trans ?_ (by with_reducible assumption) | refine Ext.alloc ?_ _ _ | refine Ext.drew ?_ | refine Ext.drewN ?_ _)))).mono ?_; rintro e w9 ⟨rfl, hq⟩)
  go_end0
  exact ⟨rfl, hq⟩
set_option maxRecDepth 100000 in
set_option maxHeartbeats 6400000 in
theorem mRows_112 {w : World} {g : Nat} {Q : World → Prop} (HC : ∀ W, Ext w W → Calls Hvah.prog 325 #[.pointer (some ⟨g, 0, none⟩)] W fun e w' => e = .returned (.tuple #[]) ∧ Q w') : Calls Hvah.prog 215 #[.pointer (some ⟨g, 0, none⟩), .int .u8 112] w fun e w' => e = .returned (.tuple #[]) ∧ Q w' := by
  have HD := HC
  go_enter Hvah.func215, Hvah.ntmps215
  go_wp2_with (go_at_call 325; refine (HD _ (by (repeat (first | with_reducible exact Ext.refl _ | with_reducible assumption | refine Ext.trans ?_ (by with_reducible assumption) | refine Ext.alloc ?_ _ _ | refine Ext.drew ?_ | refine Ext.drewN ?_ _)))).mono ?_; rintro e w9 ⟨rfl, hq⟩)
  go_end0
  exact ⟨rfl, hq⟩
set_option maxRecDepth 100000 in
set_option maxHeartbeats 6400000 in
theorem mRows_113 {w : World} {g : Nat} {Q : World → Prop} (HC : ∀ W, Ext w W → Calls Hvah.prog 325 #[.pointer (some ⟨g, 0, none⟩)] W fun e w' => e = .returned (.tuple #[]) ∧ Q w') : Calls Hvah.prog 215 #[.pointer (some ⟨g, 0, none⟩), .int .u8 113] w fun e w' => e = .returned (.tuple #[]) ∧ Q w' := by
  have HD := HC
  go_enter Hvah.func215, Hvah.ntmps215
  go_wp2_with (go_at_call 325; refine (HD _ (by (repeat (first | with_reducible exact Ext.refl _ | with_reducible assumption | refine Ext.trans ?_ (by with_reducible assumption) | refine Ext.alloc ?_ _ _ | refine Ext.drew ?_ | refine Ext.drewN ?_ _)))).mono ?_; rintro e w9 ⟨rfl, hq⟩)
  go_end0
  exact ⟨rfl, hq⟩
set_option maxRecDepth 100000 in
set_option maxHeartbeats 6400000 in
theorem mRows_114 {w : World} {g : Nat} {Q : World → Prop} (HC : ∀ W, Ext w W → Calls Hvah.prog 325 #[.pointer (some ⟨g, 0, none⟩)] W fun e w' => e = .returned (.tuple #[]) ∧ Q w') : Calls Hvah.prog 215 #[.pointer (some ⟨g, 0, none⟩), .int .u8 114] w fun e w' => e = .returned (.tuple #[]) ∧ Q w' := by
  have HD := HC
  go_enter Hvah.func215, Hvah.ntmps215
  go_wp2_with (go_at_call 325; refine (HD _ (by (repeat (first | with_reducible exact Ext.refl _ | with_reducible assumption | refine Ext.trans ?_ (by with_reducible assumption) | refine Ext.alloc ?_ _ _ | refine Ext.drew ?_ | refine Ext.drewN ?_ _)))).mono ?_; rintro e w9 ⟨rfl, hq⟩)
  go_end0
  exact ⟨rfl, hq⟩
set_option maxRecDepth 100000 in
set_option maxHeartbeats 6400000 in
theorem mRows_115 {w : World} {g : Nat} {Q : World → Prop} (HC : ∀ W, Ext w W → Calls Hvah.prog 325 #[.pointer (some ⟨g, 0, none⟩)] W fun e w' => e = .returned (.tuple #[]) ∧ Q w') : Calls Hvah.prog 215 #[.pointer (some ⟨g, 0, none⟩), .int .u8 115] w fun e w' => e = .returned (.tuple #[]) ∧ Q w' := by
  have HD := HC
  go_enter Hvah.func215, Hvah.ntmps215
  go_wp2_with (go_at_call 325; refine (HD _ (by (repeat (first | with_reducible exact Ext.refl _ | with_reducible assumption | refine Ext.trans ?_ (by with_reducible assumption) | refine Ext.alloc ?_ _ _ | refine Ext.drew ?_ | refine Ext.drewN ?_ _)))).mono ?_; rintro e w9 ⟨rfl, hq⟩)
  go_end0
  exact ⟨rfl, hq⟩
set_option maxRecDepth 100000 in
set_option maxHeartbeats 6400000 in
theorem mRows_116 {w : World} {g : Nat} {Q : World → Prop} (HC : ∀ W, Ext w W → Calls Hvah.prog 325 #[.pointer (some ⟨g, 0, none⟩)] W fun e w' => e = .returned (.tuple #[]) ∧ Q w') : Calls Hvah.prog 215 #[.pointer (some ⟨g, 0, none⟩), .int .u8 116] w fun e w' => e = .returned (.tuple #[]) ∧ Q w' := by
  have HD := HC
  go_enter Hvah.func215, Hvah.ntmps215
  go_wp2_with (go_at_call 325; refine (HD _ (by (repeat (first | with_reducible exact Ext.refl _ | with_reducible assumption | refine Ext.trans ?_ (by with_reducible assumption) | refine Ext.alloc ?_ _ _ | refine Ext.drew ?_ | refine Ext.drewN ?_ _)))).mono ?_; rintro e w9 ⟨rfl, hq⟩)
  go_end0
  exact ⟨rfl, hq⟩
set_option maxRecDepth 100000 in
set_option maxHeartbeats 6400000 in
theorem mRows_117 {w : World} {g : Nat} {Q : World → Prop} (HC : ∀ W, Ext w W → Calls Hvah.prog 325 #[.pointer (some ⟨g, 0, none⟩)] W fun e w' => e = .returned (.tuple #[]) ∧ Q w') : Calls Hvah.prog 215 #[.pointer (some ⟨g, 0, none⟩), .int .u8 117] w fun e w' => e = .returned (.tuple #[]) ∧ Q w' := by
  have HD := HC
  go_enter Hvah.func215, Hvah.ntmps215
  go_wp2_with (go_at_call 325; refine (HD _ (by (repeat (first | with_reducible exact Ext.refl _ | with_reducible assumption | refine Ext.trans ?_ (by with_reducible assumption) | refine Ext.alloc ?_ _ _ | refine Ext.drew ?_ | refine Ext.drewN ?_ _)))).mono ?_; rintro e w9 ⟨rfl, hq⟩)
  go_end0
  exact ⟨rfl, hq⟩
set_option maxRecDepth 100000 in
set_option maxHeartbeats 6400000 in
theorem mRows_118 {w : World} {g : Nat} {Q : World → Prop} (HC : ∀ W, Ext w W → Calls Hvah.prog 325 #[.pointer (some ⟨g, 0, none⟩)] W fun e w' => e = .returned (.tuple #[]) ∧ Q w') : Calls Hvah.prog 215 #[.pointer (some ⟨g, 0, none⟩), .int .u8 118] w fun e w' => e = .returned (.tuple #[]) ∧ Q w' := by
  have HD := HC
  go_enter Hvah.func215, Hvah.ntmps215
  go_wp2_with (go_at_call 325; refine (HD _ (by (repeat (first | with_reducible exact Ext.refl _ | with_reducible assumption | refine Ext.trans ?_ (by with_reducible assumption) | refine Ext.alloc ?_ _ _ | refine Ext.drew ?_ | refine Ext.drewN ?_ _)))).mono ?_; rintro e w9 ⟨rfl, hq⟩)
  go_end0
  exact ⟨rfl, hq⟩
set_option maxRecDepth 100000 in
set_option maxHeartbeats 6400000 in
theorem mRows_119 {w : World} {g : Nat} {Q : World → Prop} (HC : ∀ W, Ext w W → Calls Hvah.prog 325 #[.pointer (some ⟨g, 0, none⟩)] W fun e w' => e = .returned (.tuple #[]) ∧ Q w') : Calls Hvah.prog 215 #[.pointer (some ⟨g, 0, none⟩), .int .u8 119] w fun e w' => e = .returned (.tuple #[]) ∧ Q w' := by
  have HD := HC
  go_enter Hvah.func215, Hvah.ntmps215
  go_wp2_with (go_at_call 325; refine (HD _ (by (repeat (first | with_reducible exact Ext.refl _ | with_reducible assumption | refine Ext.trans ?_ (by with_reducible assumption) | refine Ext.alloc ?_ _ _ | refine Ext.drew ?_ | refine Ext.drewN ?_ _)))).mono ?_; rintro e w9 ⟨rfl, hq⟩)
  go_end0
  exact ⟨rfl, hq⟩
set_option maxRecDepth 100000 in
set_option maxHeartbeats 6400000 in
theorem mRows_120 {w : World} {g : Nat} {Q : World → Prop} (HC : ∀ W, Ext w W → Calls Hvah.prog 325 #[.pointer (some ⟨g, 0, none⟩)] W fun e w' => e = .returned (.tuple #[]) ∧ Q w') : Calls Hvah.prog 215 #[.pointer (some ⟨g, 0, none⟩), .int .u8 120] w fun e w' => e = .returned (.tuple #[]) ∧ Q w' := by
  have HD := HC
  go_enter Hvah.func215, Hvah.ntmps215
  go_wp2_with (go_at_call 325; refine (HD _ (by (repeat (first | with_reducible exact Ext.refl _ | with_reducible assumption | refine Ext.trans ?_ (by with_reducible assumption) | refine Ext.alloc ?_ _ _ | refine Ext.drew ?_ | refine Ext.drewN ?_ _)))).mono ?_; rintro e w9 ⟨rfl, hq⟩)
  go_end0
  exact ⟨rfl, hq⟩
set_option maxRecDepth 100000 in
set_option maxHeartbeats 6400000 in
theorem mRows_121 {w : World} {g : Nat} {Q : World → Prop} (HC : ∀ W, Ext w W → Calls Hvah.prog 325 #[.pointer (some ⟨g, 0, none⟩)] W fun e w' => e = .returned (.tuple #[]) ∧ Q w') : Calls Hvah.prog 215 #[.pointer (some ⟨g, 0, none⟩), .int .u8 121] w fun e w' => e = .returned (.tuple #[]) ∧ Q w' := by
  have HD := HC
  go_enter Hvah.func215, Hvah.ntmps215
  go_wp2_with (go_at_call 325; refine (HD _ (by (repeat (first | with_reducible exact Ext.refl _ | with_reducible assumption | refine Ext.trans ?_ (by with_reducible assumption) | refine Ext.alloc ?_ _ _ | refine Ext.drew ?_ | refine Ext.drewN ?_ _)))).mono ?_; rintro e w9 ⟨rfl, hq⟩)
  go_end0
  exact ⟨rfl, hq⟩
set_option maxRecDepth 100000 in
set_option maxHeartbeats 6400000 in
theorem mRows_122 {w : World} {g : Nat} {Q : World → Prop} (HC : ∀ W, Ext w W → Calls Hvah.prog 325 #[.pointer (some ⟨g, 0, none⟩)] W fun e w' => e = .returned (.tuple #[]) ∧ Q w') : Calls Hvah.prog 215 #[.pointer (some ⟨g, 0, none⟩), .int .u8 122] w fun e w' => e = .returned (.tuple #[]) ∧ Q w' := by
  have HD := HC
  go_enter Hvah.func215, Hvah.ntmps215
  go_wp2_with (go_at_call 325; refine (HD _ (by (repeat (first | with_reducible exact Ext.refl _ | with_reducible assumption | refine Ext.trans ?_ (by with_reducible assumption) | refine Ext.alloc ?_ _ _ | refine Ext.drew ?_ | refine Ext.drewN ?_ _)))).mono ?_; rintro e w9 ⟨rfl, hq⟩)
  go_end0
  exact ⟨rfl, hq⟩
set_option maxRecDepth 100000 in
set_option maxHeartbeats 6400000 in
theorem mRows_123 {w : World} {g : Nat} {Q : World → Prop} (HC : ∀ W, Ext w W → Calls Hvah.prog 325 #[.pointer (some ⟨g, 0, none⟩)] W fun e w' => e = .returned (.tuple #[]) ∧ Q w') : Calls Hvah.prog 215 #[.pointer (some ⟨g, 0, none⟩), .int .u8 123] w fun e w' => e = .returned (.tuple #[]) ∧ Q w' := by
  have HD := HC
  go_enter Hvah.func215, Hvah.ntmps215
  go_wp2_with (go_at_call 325; refine (HD _ (by (repeat (first | with_reducible exact Ext.refl _ | with_reducible assumption | refine Ext.trans ?_ (by with_reducible assumption) | refine Ext.alloc ?_ _ _ | refine Ext.drew ?_ | refine Ext.drewN ?_ _)))).mono ?_; rintro e w9 ⟨rfl, hq⟩)
  go_end0
  exact ⟨rfl, hq⟩
set_option maxRecDepth 100000 in
set_option maxHeartbeats 6400000 in
theorem mRows_124 {w : World} {g : Nat} {Q : World → Prop} (HC : ∀ W, Ext w W → Calls Hvah.prog 325 #[.pointer (some ⟨g, 0, none⟩)] W fun e w' => e = .returned (.tuple #[]) ∧ Q w') : Calls Hvah.prog 215 #[.pointer (some ⟨g, 0, none⟩), .int .u8 124] w fun e w' => e = .returned (.tuple #[]) ∧ Q w' := by
  have HD := HC
  go_enter Hvah.func215, Hvah.ntmps215
  go_wp2_with (go_at_call 325; refine (HD _ (by (repeat (first | with_reducible exact Ext.refl _ | with_reducible assumption | refine Ext.trans ?_ (by with_reducible assumption) | refine Ext.alloc ?_ _ _ | refine Ext.drew ?_ | refine Ext.drewN ?_ _)))).mono ?_; rintro e w9 ⟨rfl, hq⟩)
  go_end0
  exact ⟨rfl, hq⟩
set_option maxRecDepth 100000 in
set_option maxHeartbeats 6400000 in
theorem mRows_125 {w : World} {g : Nat} {Q : World → Prop} (HC : ∀ W, Ext w W → Calls Hvah.prog 325 #[.pointer (some ⟨g, 0, none⟩)] W fun e w' => e = .returned (.tuple #[]) ∧ Q w') : Calls Hvah.prog 215 #[.pointer (some ⟨g, 0, none⟩), .int .u8 125] w fun e w' => e = .returned (.tuple #[]) ∧ Q w' := by
  have HD := HC
  go_enter Hvah.func215, Hvah.ntmps215
  go_wp2_with (go_at_call 325; refine (HD _ (by (repeat (first | with_reducible exact Ext.refl _ | with_reducible assumption | refine Ext.trans ?_ (by with_reducible assumption) | refine Ext.alloc ?_ _ _ | refine Ext.drew ?_ | refine Ext.drewN ?_ _)))).mono ?_; rintro e w9 ⟨rfl, hq⟩)
  go_end0
  exact ⟨rfl, hq⟩
set_option maxRecDepth 100000 in
set_option maxHeartbeats 6400000 in
theorem mRows_126 {w : World} {g : Nat} {Q : World → Prop} (HC : ∀ W, Ext w W → Calls Hvah.prog 325 #[.pointer (some ⟨g, 0, none⟩)] W fun e w' => e = .returned (.tuple #[]) ∧ Q w') : Calls Hvah.prog 215 #[.pointer (some ⟨g, 0, none⟩), .int .u8 126] w fun e w' => e = .returned (.tuple #[]) ∧ Q w' := by
  have HD := HC
  go_enter Hvah.func215, Hvah.ntmps215
  go_wp2_with (go_at_call 325; refine (HD _ (by (repeat (first | with_reducible exact Ext.refl _ | with_reducible assumption | refine Ext.trans ?_ (by with_reducible assumption) | refine Ext.alloc ?_ _ _ | refine Ext.drew ?_ | refine Ext.drewN ?_ _)))).mono ?_; rintro e w9 ⟨rfl, hq⟩)
  go_end0
  exact ⟨rfl, hq⟩
set_option maxRecDepth 100000 in
set_option maxHeartbeats 6400000 in
theorem mRows_127 {w : World} {g : Nat} {Q : World → Prop} (HC : ∀ W, Ext w W → Calls Hvah.prog 325 #[.pointer (some ⟨g, 0, none⟩)] W fun e w' => e = .returned (.tuple #[]) ∧ Q w') : Calls Hvah.prog 215 #[.pointer (some ⟨g, 0, none⟩), .int .u8 127] w fun e w' => e = .returned (.tuple #[]) ∧ Q w' := by
  have HD := HC
  go_enter Hvah.func215, Hvah.ntmps215
  go_wp2_with (go_at_call 325; refine (HD _ (by (repeat (first | with_reducible exact Ext.refl _ | with_reducible assumption | refine Ext.trans ?_ (by with_reducible assumption) | refine Ext.alloc ?_ _ _ | refine Ext.drew ?_ | refine Ext.drewN ?_ _)))).mono ?_; rintro e w9 ⟨rfl, hq⟩)
  go_end0
  exact ⟨rfl, hq⟩
set_option maxRecDepth 100000 in
set_option maxHeartbeats 6400000 in
theorem mRows_128 {w : World} {g : Nat} {Q : World → Prop} (HC : ∀ W, Ext w W → Calls Hvah.prog 326 #[.pointer (some ⟨g, 0, none⟩)] W fun e w' => e = .returned (.tuple #[]) ∧ Q w') : Calls Hvah.prog 215 #[.pointer (some ⟨g, 0, none⟩), .int .u8 128] w fun e w' => e = .returned (.tuple #[]) ∧ Q w' := by
  have HD := HC
  go_enter Hvah.func215, Hvah.ntmps215
  go_wp2_with (go_at_call 326; refine (HD _ (by (repeat (first | with_reducible exact Ext.refl _ | with_reducible assumption | refine Ext.trans ?_ (by with_reducible assumption) | refine Ext.alloc ?_ _ _ | refine Ext.drew ?_ | refine Ext.drewN ?_ _)))).mono ?_; rintro e w9 ⟨rfl, hq⟩)
  go_end0
  exact ⟨rfl, hq⟩
set_option maxRecDepth 100000 in
set_option maxHeartbeats 6400000 in
theorem mRows_129 {w : World} {g : Nat} {Q : World → Prop} (HC : ∀ W, Ext w W → Calls Hvah.prog 326 #[.pointer (some ⟨g, 0, none⟩)] W fun e w' => e = .returned (.tuple #[]) ∧ Q w') : Calls Hvah.prog 215 #[.pointer (some ⟨g, 0, none⟩), .int .u8 129] w fun e w' => e = .returned (.tuple #[]) ∧ Q w' := by
  have HD := HC
  go_enter Hvah.func215, Hvah.ntmps215
  go_wp2_with (go_at_call 326; refine (HD _ (by (repeat (first | with_reducible exact Ext.refl _ | with_reducible assumption | refine Ext.trans ?_ (by with_reducible assumption) | refine Ext.alloc ?_ _ _ | refine Ext.drew ?_ | refine Ext.drewN ?_ _)))).mono ?_; rintro e w9 ⟨rfl, hq⟩)
  go_end0
  exact ⟨rfl, hq⟩
set_option maxRecDepth 100000 in
set_option maxHeartbeats 6400000 in
theorem mRows_130 {w : World} {g : Nat} {Q : World → Prop} (HC : ∀ W, Ext w W → Calls Hvah.prog 326 #[.pointer (some ⟨g, 0, none⟩)] W fun e w' => e = .returned (.tuple #[]) ∧ Q w') : Calls Hvah.prog 215 #[.pointer (some ⟨g, 0, none⟩), .int .u8 130] w fun e w' => e = .returned (.tuple #[]) ∧ Q w' := by
  have HD := HC
  go_enter Hvah.func215, Hvah.ntmps215
  go_wp2_with (go_at_call 326; refine (HD _ (by (repeat (first | with_reducible exact Ext.refl _ | with_reducible assumption | refine Ext.trans ?_ (by with_reducible assumption) | refine Ext.alloc ?_ _ _ | refine Ext.drew ?_ | refine Ext.drewN ?_ _)))).mono ?_; rintro e w9 ⟨rfl, hq⟩)
  go_end0
  exact ⟨rfl, hq⟩
set_option maxRecDepth 100000 in
set_option maxHeartbeats 6400000 in
theorem mRows_131 {w : World} {g : Nat} {Q : World → Prop} (HC : ∀ W, Ext w W → Calls Hvah.prog 326 #[.pointer (some ⟨g, 0, none⟩)] W fun e w' => e = .returned (.tuple #[]) ∧ Q w') : Calls Hvah.prog 215 #[.pointer (some ⟨g, 0, none⟩), .int .u8 131] w fun e w' => e = .returned (.tuple #[]) ∧ Q w' := by
  have HD := HC
  go_enter Hvah.func215, Hvah.ntmps215
  go_wp2_with (go_at_call 326; refine (HD _ (by (repeat (first | with_reducible exact Ext.refl _ | with_reducible assumption | refine Ext.trans ?_ (by with_reducible assumption) | refine Ext.alloc ?_ _ _ | refine Ext.drew ?_ | refine Ext.drewN ?_ _)))).mono ?_; rintro e w9 ⟨rfl, hq⟩)
  go_end0
  exact ⟨rfl, hq⟩
set_option maxRecDepth 100000 in
set_option maxHeartbeats 6400000 in
theorem mRows_132 {w : World} {g : Nat} {Q : World → Prop} (HC : ∀ W, Ext w W → Calls Hvah.prog 326 #[.pointer (some ⟨g, 0, none⟩)] W fun e w' => e = .returned (.tuple #[]) ∧ Q w') : Calls Hvah.prog 215 #[.pointer (some ⟨g, 0, none⟩), .int .u8 132] w fun e w' => e = .returned (.tuple #[]) ∧ Q w' := by
  have HD := HC
  go_enter Hvah.func215, Hvah.ntmps215
  go_wp2_with (go_at_call 326; refine (HD _ (by (repeat (first | with_reducible exact Ext.refl _ | with_reducible assumption | refine Ext.trans ?_ (by with_reducible assumption) | refine Ext.alloc ?_ _ _ | refine Ext.drew ?_ | refine Ext.drewN ?_ _)))).mono ?_; rintro e w9 ⟨rfl, hq⟩)
  go_end0
  exact ⟨rfl, hq⟩
set_option maxRecDepth 100000 in
set_option maxHeartbeats 6400000 in
theorem mRows_133 {w : World} {g : Nat} {Q : World → Prop} (HC : ∀ W, Ext w W → Calls Hvah.prog 326 #[.pointer (some ⟨g, 0, none⟩)] W fun e w' => e = .returned (.tuple #[]) ∧ Q w') : Calls Hvah.prog 215 #[.pointer (some ⟨g, 0, none⟩), .int .u8 133] w fun e w' => e = .returned (.tuple #[]) ∧ Q w' := by
  have HD := HC
  go_enter Hvah.func215, Hvah.ntmps215
  go_wp2_with (go_at_call 326; refine (HD _ (by (repeat (first | with_reducible exact Ext.refl _ | with_reducible assumption | refine Ext.trans ?_ (by with_reducible assumption) | refine Ext.alloc ?_ _ _ | refine Ext.drew ?_ | refine Ext.drewN ?_ _)))).mono ?_; rintro e w9 ⟨rfl, hq⟩)
  go_end0
  exact ⟨rfl, hq⟩
set_option maxRecDepth 100000 in
set_option maxHeartbeats 6400000 in
theorem mRows_134 {w : World} {g : Nat} {Q : World → Prop} (HC : ∀ W, Ext w W → Calls Hvah.prog 326 #[.pointer (some ⟨g, 0, none⟩)] W fun e w' => e = .returned (.tuple #[]) ∧ Q w') : Calls Hvah.prog 215 #[.pointer (some ⟨g, 0, none⟩), .int .u8 134] w fun e w' => e = .returned (.tuple #[]) ∧ Q w' := by
  have HD := HC
  go_enter Hvah.func215, Hvah.ntmps215
  go_wp2_with (go_at_call 326; refine (HD _ (by (repeat (first | with_reducible exact Ext.refl _ | with_reducible assumption | refine Ext.trans ?_ (by with_reducible assumption) | refine Ext.alloc ?_ _ _ | refine Ext.drew ?_ | refine Ext.drewN ?_ _)))).mono ?_; rintro e w9 ⟨rfl, hq⟩)
  go_end0
  exact ⟨rfl, hq⟩
set_option maxRecDepth 100000 in
set_option maxHeartbeats 6400000 in
theorem mRows_135 {w : World} {g : Nat} {Q : World → Prop} (HC : ∀ W, Ext w W → Calls Hvah.prog 326 #[.pointer (some ⟨g, 0, none⟩)] W fun e w' => e = .returned (.tuple #[]) ∧ Q w') : Calls Hvah.prog 215 #[.pointer (some ⟨g, 0, none⟩), .int .u8 135] w fun e w' => e = .returned (.tuple #[]) ∧ Q w' := by
  have HD := HC
  go_enter Hvah.func215, Hvah.ntmps215
  go_wp2_with (go_at_call 326; refine (HD _ (by (repeat (first | with_reducible exact Ext.refl _ | with_reducible assumption | refine Ext.trans ?_ (by with_reducible assumption) | refine Ext.alloc ?_ _ _ | refine Ext.drew ?_ | refine Ext.drewN ?_ _)))).mono ?_; rintro e w9 ⟨rfl, hq⟩)
  go_end0
  exact ⟨rfl, hq⟩
set_option maxRecDepth 100000 in
set_option maxHeartbeats 6400000 in
theorem mRows_136 {w : World} {g : Nat} {Q : World → Prop} (HC : ∀ W, Ext w W → Calls Hvah.prog 326 #[.pointer (some ⟨g, 0, none⟩)] W fun e w' => e = .returned (.tuple #[]) ∧ Q w') : Calls Hvah.prog 215 #[.pointer (some ⟨g, 0, none⟩), .int .u8 136] w fun e w' => e = .returned (.tuple #[]) ∧ Q w' := by
  have HD := HC
  go_enter Hvah.func215, Hvah.ntmps215
  go_wp2_with (go_at_call 326; refine (HD _ (by (repeat (first | with_reducible exact Ext.refl _ | with_reducible assumption | refine Ext.trans ?_ (by with_reducible assumption) | refine Ext.alloc ?_ _ _ | refine Ext.drew ?_ | refine Ext.drewN ?_ _)))).mono ?_; rintro e w9 ⟨rfl, hq⟩)
  go_end0
  exact ⟨rfl, hq⟩
set_option maxRecDepth 100000 in
set_option maxHeartbeats 6400000 in
theorem mRows_137 {w : World} {g : Nat} {Q : World → Prop} (HC : ∀ W, Ext w W → Calls Hvah.prog 326 #[.pointer (some ⟨g, 0, none⟩)] W fun e w' => e = .returned (.tuple #[]) ∧ Q w') : Calls Hvah.prog 215 #[.pointer (some ⟨g, 0, none⟩), .int .u8 137] w fun e w' => e = .returned (.tuple #[]) ∧ Q w' := by
  have HD := HC
  go_enter Hvah.func215, Hvah.ntmps215
  go_wp2_with (go_at_call 326; refine (HD _ (by (repeat (first | with_reducible exact Ext.refl _ | with_reducible assumption | refine Ext.trans ?_ (by with_reducible assumption) | refine Ext.alloc ?_ _ _ | refine Ext.drew ?_ | refine Ext.drewN ?_ _)))).mono ?_; rintro e w9 ⟨rfl, hq⟩)
  go_end0
  exact ⟨rfl, hq⟩
set_option maxRecDepth 100000 in
set_option maxHeartbeats 6400000 in
theorem mRows_138 {w : World} {g : Nat} {Q : World → Prop} (HC : ∀ W, Ext w W → Calls Hvah.prog 326 #[.pointer (some ⟨g, 0, none⟩)] W fun e w' => e = .returned (.tuple #[]) ∧ Q w') : Calls Hvah.prog 215 #[.pointer (some ⟨g, 0, none⟩), .int .u8 138] w fun e w' => e = .returned (.tuple #[]) ∧ Q w' := by
  have HD := HC
  go_enter Hvah.func215, Hvah.ntmps215
  go_wp2_with (go_at_call 326; refine (HD _ (by (repeat (first | with_reducible exact Ext.refl _ | with_reducible assumption | refine Ext.trans ?_ (by with_reducible assumption) | refine Ext.alloc ?_ _ _ | refine Ext.drew ?_ | refine Ext.drewN ?_ _)))).mono ?_; rintro e w9 ⟨rfl, hq⟩)
  go_end0
  exact ⟨rfl, hq⟩
set_option maxRecDepth 100000 in
set_option maxHeartbeats 6400000 in
theorem mRows_139 {w : World} {g : Nat} {Q : World → Prop} (HC : ∀ W, Ext w W → Calls Hvah.prog 326 #[.pointer (some ⟨g, 0, none⟩)] W fun e w' => e = .returned (.tuple #[]) ∧ Q w') : Calls Hvah.prog 215 #[.pointer (some ⟨g, 0, none⟩), .int .u8 139] w fun e w' => e = .returned (.tuple #[]) ∧ Q w' := by
  have HD := HC
  go_enter Hvah.func215, Hvah.ntmps215
  go_wp2_with (go_at_call 326; refine (HD _ (by (repeat (first | with_reducible exact Ext.refl _ | with_reducible assumption | refine Ext.trans ?_ (by with_reducible assumption) | refine Ext.alloc ?_ _ _ | refine Ext.drew ?_ | refine Ext.drewN ?_ _)))).mono ?_; rintro e w9 ⟨rfl, hq⟩)
  go_end0
  exact ⟨rfl, hq⟩
set_option maxRecDepth 100000 in
set_option maxHeartbeats 6400000 in
theorem mRows_140 {w : World} {g : Nat} {Q : World → Prop} (HC : ∀ W, Ext w W → Calls Hvah.prog 326 #[.pointer (some ⟨g, 0, none⟩)] W fun e w' => e = .returned (.tuple #[]) ∧ Q w') : Calls Hvah.prog 215 #[.pointer (some ⟨g, 0, none⟩), .int .u8 140] w fun e w' => e = .returned (.tuple #[]) ∧ Q w' := by
  have HD := HC
  go_enter Hvah.func215, Hvah.ntmps215
  go_wp2_with (go_at_call 326; refine (HD _ (by (repeat (first | with_reducible exact Ext.refl _ | with_reducible assumption | refine Ext.trans ?_ (by with_reducible assumption) | refine Ext.alloc ?_ _ _ | refine Ext.drew ?_ | refine Ext.drewN ?_ _)))).mono ?_; rintro e w9 ⟨rfl, hq⟩)
  go_end0
  exact ⟨rfl, hq⟩
set_option maxRecDepth 100000 in
set_option maxHeartbeats 6400000 in
theorem mRows_141 {w : World} {g : Nat} {Q : World → Prop} (HC : ∀ W, Ext w W → Calls Hvah.prog 326 #[.pointer (some ⟨g, 0, none⟩)] W fun e w' => e = .returned (.tuple #[]) ∧ Q w') : Calls Hvah.prog 215 #[.pointer (some ⟨g, 0, none⟩), .int .u8 141] w fun e w' => e = .returned (.tuple #[]) ∧ Q w' := by
  have HD := HC
  go_enter Hvah.func215, Hvah.ntmps215
  go_wp2_with (go_at_call 326; refine (HD _ (by (repeat (first | with_reducible exact Ext.refl _ | with_reducible assumption | refine Ext.trans ?_ (by with_reducible assumption) | refine Ext.alloc ?_ _ _ | refine Ext.drew ?_ | refine Ext.drewN ?_ _)))).mono ?_; rintro e w9 ⟨rfl, hq⟩)
  go_end0
  exact ⟨rfl, hq⟩
set_option maxRecDepth 100000 in
set_option maxHeartbeats 6400000 in
theorem mRows_142 {w : World} {g : Nat} {Q : World → Prop} (HC : ∀ W, Ext w W → Calls Hvah.prog 326 #[.pointer (some ⟨g, 0, none⟩)] W fun e w' => e = .returned (.tuple #[]) ∧ Q w') : Calls Hvah.prog 215 #[.pointer (some ⟨g, 0, none⟩), .int .u8 142] w fun e w' => e = .returned (.tuple #[]) ∧ Q w' := by
  have HD := HC
  go_enter Hvah.func215, Hvah.ntmps215
  go_wp2_with (go_at_call 326; refine (HD _ (by (repeat (first | with_reducible exact Ext.refl _ | with_reducible assumption | refine Ext.trans ?_ (by with_reducible assumption) | refine Ext.alloc ?_ _ _ | refine Ext.drew ?_ | refine Ext.drewN ?_ _)))).mono ?_; rintro e w9 ⟨rfl, hq⟩)
  go_end0
  exact ⟨rfl, hq⟩
set_option maxRecDepth 100000 in
set_option maxHeartbeats 6400000 in
theorem mRows_143 {w : World} {g : Nat} {Q : World → Prop} (HC : ∀ W, Ext w W → Calls Hvah.prog 326 #[.pointer (some ⟨g, 0, none⟩)] W fun e w' => e = .returned (.tuple #[]) ∧ Q w') : Calls Hvah.prog 215 #[.pointer (some ⟨g, 0, none⟩), .int .u8 143] w fun e w' => e = .returned (.tuple #[]) ∧ Q w' := by
  have HD := HC
  go_enter Hvah.func215, Hvah.ntmps215
  go_wp2_with (go_at_call 326; refine (HD _ (by (repeat (first | with_reducible exact Ext.refl _ | with_reducible assumption | refine Ext.trans ?_ (by with_reducible assumption) | refine Ext.alloc ?_ _ _ | refine Ext.drew ?_ | refine Ext.drewN ?_ _)))).mono ?_; rintro e w9 ⟨rfl, hq⟩)
  go_end0
  exact ⟨rfl, hq⟩
set_option maxRecDepth 100000 in
set_option maxHeartbeats 6400000 in
theorem mRows_144 {w : World} {g : Nat} {Q : World → Prop} (HC : ∀ W, Ext w W → Calls Hvah.prog 327 #[.pointer (some ⟨g, 0, none⟩)] W fun e w' => e = .returned (.tuple #[]) ∧ Q w') : Calls Hvah.prog 215 #[.pointer (some ⟨g, 0, none⟩), .int .u8 144] w fun e w' => e = .returned (.tuple #[]) ∧ Q w' := by
  have HD := HC
  go_enter Hvah.func215, Hvah.ntmps215
  go_wp2_with (go_at_call 327; refine (HD _ (by (repeat (first | with_reducible exact Ext.refl _ | with_reducible assumption | refine Ext.trans ?_ (by with_reducible assumption) | refine Ext.alloc ?_ _ _ | refine Ext.drew ?_ | refine Ext.drewN ?_ _)))).mono ?_; rintro e w9 ⟨rfl, hq⟩)
  go_end0
  exact ⟨rfl, hq⟩
set_option maxRecDepth 100000 in
set_option maxHeartbeats 6400000 in
theorem mRows_145 {w : World} {g : Nat} {Q : World → Prop} (HC : ∀ W, Ext w W → Calls Hvah.prog 327 #[.pointer (some ⟨g, 0, none⟩)] W fun e w' => e = .returned (.tuple #[]) ∧ Q w') : Calls Hvah.prog 215 #[.pointer (some ⟨g, 0, none⟩), .int .u8 145] w fun e w' => e = .returned (.tuple #[]) ∧ Q w' := by
  have HD := HC
  go_enter Hvah.func215, Hvah.ntmps215
  go_wp2_with (go_at_call 327; refine (HD _ (by (repeat (first | with_reducible exact Ext.refl _ | with_reducible assumption | refine Ext.trans ?_ (by with_reducible assumption) | refine Ext.alloc ?_ _ _ | refine Ext.drew ?_ | refine Ext.drewN ?_ _)))).mono ?_; rintro e w9 ⟨rfl, hq⟩)
  go_end0
  exact ⟨rfl, hq⟩
set_option maxRecDepth 100000 in
set_option maxHeartbeats 6400000 in
theorem mRows_146 {w : World} {g : Nat} {Q : World → Prop} (HC : ∀ W, Ext w W → Calls Hvah.prog 327 #[.pointer (some ⟨g, 0, none⟩)] W fun e w' => e = .returned (.tuple #[]) ∧ Q w') : Calls Hvah.prog 215 #[.pointer (some ⟨g, 0, none⟩), .int .u8 146] w fun e w' => e = .returned (.tuple #[]) ∧ Q w' := by
  have HD := HC
  go_enter Hvah.func215, Hvah.ntmps215
  go_wp2_with (go_at_call 327; refine (HD _ (by (repeat (first | with_reducible exact Ext.refl _ | with_reducible assumption | refine Ext.trans ?_ (by with_reducible assumption) | refine Ext.alloc ?_ _ _ | refine Ext.drew ?_ | refine Ext.drewN ?_ _)))).mono ?_; rintro e w9 ⟨rfl, hq⟩)
  go_end0
  exact ⟨rfl, hq⟩
set_option maxRecDepth 100000 in
set_option maxHeartbeats 6400000 in
theorem mRows_147 {w : World} {g : Nat} {Q : World → Prop} (HC : ∀ W, Ext w W → Calls Hvah.prog 327 #[.pointer (some ⟨g, 0, none⟩)] W fun e w' => e = .returned (.tuple #[]) ∧ Q w') : Calls Hvah.prog 215 #[.pointer (some ⟨g, 0, none⟩), .int .u8 147] w fun e w' => e = .returned (.tuple #[]) ∧ Q w' := by
  have HD := HC
  go_enter Hvah.func215, Hvah.ntmps215
  go_wp2_with (go_at_call 327; refine (HD _ (by (repeat (first | with_reducible exact Ext.refl _ | with_reducible assumption | refine Ext.trans ?_ (by with_reducible assumption) | refine Ext.alloc ?_ _ _ | refine Ext.drew ?_ | refine Ext.drewN ?_ _)))).mono ?_; rintro e w9 ⟨rfl, hq⟩)
  go_end0
  exact ⟨rfl, hq⟩
set_option maxRecDepth 100000 in
set_option maxHeartbeats 6400000 in
theorem mRows_148 {w : World} {g : Nat} {Q : World → Prop} (HC : ∀ W, Ext w W → Calls Hvah.prog 327 #[.pointer (some ⟨g, 0, none⟩)] W fun e w' => e = .returned (.tuple #[]) ∧ Q w') : Calls Hvah.prog 215 #[.pointer (some ⟨g, 0, none⟩), .int .u8 148] w fun e w' => e = .returned (.tuple #[]) ∧ Q w' := by
  have HD := HC
  go_enter Hvah.func215, Hvah.ntmps215
  go_wp2_with (go_at_call 327; refine (HD _ (by (repeat (first | with_reducible exact Ext.refl _ | with_reducible assumption | refine Ext.trans ?_ (by with_reducible assumption) | refine Ext.alloc ?_ _ _ | refine Ext.drew ?_ | refine Ext.drewN ?_ _)))).mono ?_; rintro e w9 ⟨rfl, hq⟩)
  go_end0
  exact ⟨rfl, hq⟩
set_option maxRecDepth 100000 in
set_option maxHeartbeats 6400000 in
theorem mRows_149 {w : World} {g : Nat} {Q : World → Prop} (HC : ∀ W, Ext w W → Calls Hvah.prog 327 #[.pointer (some ⟨g, 0, none⟩)] W fun e w' => e = .returned (.tuple #[]) ∧ Q w') : Calls Hvah.prog 215 #[.pointer (some ⟨g, 0, none⟩), .int .u8 149] w fun e w' => e = .returned (.tuple #[]) ∧ Q w' := by
  have HD := HC
  go_enter Hvah.func215, Hvah.ntmps215
  go_wp2_with (go_at_call 327; refine (HD _ (by (repeat (first | with_reducible exact Ext.refl _ | with_reducible assumption | refine Ext.trans ?_ (by with_reducible assumption) | refine Ext.alloc ?_ _ _ | refine Ext.drew ?_ | refine Ext.drewN ?_ _)))).mono ?_; rintro e w9 ⟨rfl, hq⟩)
  go_end0
  exact ⟨rfl, hq⟩
set_option maxRecDepth 100000 in
set_option maxHeartbeats 6400000 in
theorem mRows_150 {w : World} {g : Nat} {Q : World → Prop} (HC : ∀ W, Ext w W → Calls Hvah.prog 327 #[.pointer (some ⟨g, 0, none⟩)] W fun e w' => e = .returned (.tuple #[]) ∧ Q w') : Calls Hvah.prog 215 #[.pointer (some ⟨g, 0, none⟩), .int .u8 150] w fun e w' => e = .returned (.tuple #[]) ∧ Q w' := by
  have HD := HC
  go_enter Hvah.func215, Hvah.ntmps215
  go_wp2_with (go_at_call 327; refine (HD _ (by (repeat (first | with_reducible exact Ext.refl _ | with_reducible assumption | refine Ext.trans ?_ (by with_reducible assumption) | refine Ext.alloc ?_ _ _ | refine Ext.drew ?_ | refine Ext.drewN ?_ _)))).mono ?_; rintro e w9 ⟨rfl, hq⟩)
  go_end0
  exact ⟨rfl, hq⟩
set_option maxRecDepth 100000 in
set_option maxHeartbeats 6400000 in
theorem mRows_151 {w : World} {g : Nat} {Q : World → Prop} (HC : ∀ W, Ext w W → Calls Hvah.prog 327 #[.pointer (some ⟨g, 0, none⟩)] W fun e w' => e = .returned (.tuple #[]) ∧ Q w') : Calls Hvah.prog 215 #[.pointer (some ⟨g, 0, none⟩), .int .u8 151] w fun e w' => e = .returned (.tuple #[]) ∧ Q w' := by
  have HD := HC
  go_enter Hvah.func215, Hvah.ntmps215
  go_wp2_with (go_at_call 327; refine (HD _ (by (repeat (first | with_reducible exact Ext.refl _ | with_reducible assumption | refine Ext.trans ?_ (by with_reducible assumption) | refine Ext.alloc ?_ _ _ | refine Ext.drew ?_ | refine Ext.drewN ?_ _)))).mono ?_; rintro e w9 ⟨rfl, hq⟩)
  go_end0
  exact ⟨rfl, hq⟩
set_option maxRecDepth 100000 in
set_option maxHeartbeats 6400000 in
theorem mRows_152 {w : World} {g : Nat} {Q : World → Prop} (HC : ∀ W, Ext w W → Calls Hvah.prog 327 #[.pointer (some ⟨g, 0, none⟩)] W fun e w' => e = .returned (.tuple #[]) ∧ Q w') : Calls Hvah.prog 215 #[.pointer (some ⟨g, 0, none⟩), .int .u8 152] w fun e w' => e = .returned (.tuple #[]) ∧ Q w' := by
  have HD := HC
  go_enter Hvah.func215, Hvah.ntmps215
  go_wp2_with (go_at_call 327; refine (HD _ (by (repeat (first | with_reducible exact Ext.refl _ | with_reducible assumption | refine Ext.trans ?_ (by with_reducible assumption) | refine Ext.alloc ?_ _ _ | refine Ext.drew ?_ | refine Ext.drewN ?_ _)))).mono ?_; rintro e w9 ⟨rfl, hq⟩)
  go_end0
  exact ⟨rfl, hq⟩
set_option maxRecDepth 100000 in
set_option maxHeartbeats 6400000 in
theorem mRows_153 {w : World} {g : Nat} {Q : World → Prop} (HC : ∀ W, Ext w W → Calls Hvah.prog 327 #[.pointer (some ⟨g, 0, none⟩)] W fun e w' => e = .returned (.tuple #[]) ∧ Q w') : Calls Hvah.prog 215 #[.pointer (some ⟨g, 0, none⟩), .int .u8 153] w fun e w' => e = .returned (.tuple #[]) ∧ Q w' := by
  have HD := HC
  go_enter Hvah.func215, Hvah.ntmps215
  go_wp2_with (go_at_call 327; refine (HD _ (by (repeat (first | with_reducible exact Ext.refl _ | with_reducible assumption | refine Ext.trans ?_ (by with_reducible assumption) | refine Ext.alloc ?_ _ _ | refine Ext.drew ?_ | refine Ext.drewN ?_ _)))).mono ?_; rintro e w9 ⟨rfl, hq⟩)
  go_end0
  exact ⟨rfl, hq⟩
set_option maxRecDepth 100000 in
set_option maxHeartbeats 6400000 in
theorem mRows_154 {w : World} {g : Nat} {Q : World → Prop} (HC : ∀ W, Ext w W → Calls Hvah.prog 327 #[.pointer (some ⟨g, 0, none⟩)] W fun e w' => e = .returned (.tuple #[]) ∧ Q w') : Calls Hvah.prog 215 #[.pointer (some ⟨g, 0, none⟩), .int .u8 154] w fun e w' => e = .returned (.tuple #[]) ∧ Q w' := by
  have HD := HC
  go_enter Hvah.func215, Hvah.ntmps215
  go_wp2_with (go_at_call 327; refine (HD _ (by (repeat (first | with_reducible exact Ext.refl _ | with_reducible assumption | refine Ext.trans ?_ (by with_reducible assumption) | refine Ext.alloc ?_ _ _ | refine Ext.drew ?_ | refine Ext.drewN ?_ _)))).mono ?_; rintro e w9 ⟨rfl, hq⟩)
  go_end0
  exact ⟨rfl, hq⟩
set_option maxRecDepth 100000 in
set_option maxHeartbeats 6400000 in
theorem mRows_155 {w : World} {g : Nat} {Q : World → Prop} (HC : ∀ W, Ext w W → Calls Hvah.prog 327 #[.pointer (some ⟨g, 0, none⟩)] W fun e w' => e = .returned (.tuple #[]) ∧ Q w') : Calls Hvah.prog 215 #[.pointer (some ⟨g, 0, none⟩), .int .u8 155] w fun e w' => e = .returned (.tuple #[]) ∧ Q w' := by
  have HD := HC
  go_enter Hvah.func215, Hvah.ntmps215
  go_wp2_with (go_at_call 327; refine (HD _ (by (repeat (first | with_reducible exact Ext.refl _ | with_reducible assumption | refine Ext.trans ?_ (by with_reducible assumption) | refine Ext.alloc ?_ _ _ | refine Ext.drew ?_ | refine Ext.drewN ?_ _)))).mono ?_; rintro e w9 ⟨rfl, hq⟩)
  go_end0
  exact ⟨rfl, hq⟩
set_option maxRecDepth 100000 in
set_option maxHeartbeats 6400000 in
theorem mRows_156 {w : World} {g : Nat} {Q : World → Prop} (HC : ∀ W, Ext w W → Calls Hvah.prog 327 #[.pointer (some ⟨g, 0, none⟩)] W fun e w' => e = .returned (.tuple #[]) ∧ Q w') : Calls Hvah.prog 215 #[.pointer (some ⟨g, 0, none⟩), .int .u8 156] w fun e w' => e = .returned (.tuple #[]) ∧ Q w' := by
  have HD := HC
  go_enter Hvah.func215, Hvah.ntmps215
  go_wp2_with (go_at_call 327; refine (HD _ (by (repeat (first | with_reducible exact Ext.refl _ | with_reducible assumption | refine Ext.trans ?_ (by with_reducible assumption) | refine Ext.alloc ?_ _ _ | refine Ext.drew ?_ | refine Ext.drewN ?_ _)))).mono ?_; rintro e w9 ⟨rfl, hq⟩)
  go_end0
  exact ⟨rfl, hq⟩
set_option maxRecDepth 100000 in
set_option maxHeartbeats 6400000 in
theorem mRows_157 {w : World} {g : Nat} {Q : World → Prop} (HC : ∀ W, Ext w W → Calls Hvah.prog 327 #[.pointer (some ⟨g, 0, none⟩)] W fun e w' => e = .returned (.tuple #[]) ∧ Q w') : Calls Hvah.prog 215 #[.pointer (some ⟨g, 0, none⟩), .int .u8 157] w fun e w' => e = .returned (.tuple #[]) ∧ Q w' := by
  have HD := HC
  go_enter Hvah.func215, Hvah.ntmps215
  go_wp2_with (go_at_call 327; refine (HD _ (by (repeat (first | with_reducible exact Ext.refl _ | with_reducible assumption | refine Ext.trans ?_ (by with_reducible assumption) | refine Ext.alloc ?_ _ _ | refine Ext.drew ?_ | refine Ext.drewN ?_ _)))).mono ?_; rintro e w9 ⟨rfl, hq⟩)
  go_end0
  exact ⟨rfl, hq⟩
set_option maxRecDepth 100000 in
set_option maxHeartbeats 6400000 in
theorem mRows_158 {w : World} {g : Nat} {Q : World → Prop} (HC : ∀ W, Ext w W → Calls Hvah.prog 327 #[.pointer (some ⟨g, 0, none⟩)] W fun e w' => e = .returned (.tuple #[]) ∧ Q w') : Calls Hvah.prog 215 #[.pointer (some ⟨g, 0, none⟩), .int .u8 158] w fun e w' => e = .returned (.tuple #[]) ∧ Q w' := by
  have HD := HC
  go_enter Hvah.func215, Hvah.ntmps215
  go_wp2_with (go_at_call 327; refine (HD _ (by (repeat (first | with_reducible exact Ext.refl _ | with_reducible assumption | refine Ext.trans ?_ (by with_reducible assumption) | refine Ext.alloc ?_ _ _ | refine Ext.drew ?_ | refine Ext.drewN ?_ _)))).mono ?_; rintro e w9 ⟨rfl, hq⟩)
  go_end0
  exact ⟨rfl, hq⟩
set_option maxRecDepth 100000 in
set_option maxHeartbeats 6400000 in
theorem mRows_159 {w : World} {g : Nat} {Q : World → Prop} (HC : ∀ W, Ext w W → Calls Hvah.prog 327 #[.pointer (some ⟨g, 0, none⟩)] W fun e w' => e = .returned (.tuple #[]) ∧ Q w') : Calls Hvah.prog 215 #[.pointer (some ⟨g, 0, none⟩), .int .u8 159] w fun e w' => e = .returned (.tuple #[]) ∧ Q w' := by
  have HD := HC
  go_enter Hvah.func215, Hvah.ntmps215
  go_wp2_with (go_at_call 327; refine (HD _ (by (repeat (first | with_reducible exact Ext.refl _ | with_reducible assumption | refine Ext.trans ?_ (by with_reducible assumption) | refine Ext.alloc ?_ _ _ | refine Ext.drew ?_ | refine Ext.drewN ?_ _)))).mono ?_; rintro e w9 ⟨rfl, hq⟩)
  go_end0
  exact ⟨rfl, hq⟩
set_option maxRecDepth 100000 in
set_option maxHeartbeats 6400000 in
theorem mRows_160 {w : World} {g : Nat} {Q : World → Prop} (HC : ∀ W, Ext w W → Calls Hvah.prog 328 #[.pointer (some ⟨g, 0, none⟩)] W fun e w' => e = .returned (.tuple #[]) ∧ Q w') : Calls Hvah.prog 215 #[.pointer (some ⟨g, 0, none⟩), .int .u8 160] w fun e w' => e = .returned (.tuple #[]) ∧ Q w' := by
  have HD := HC
  go_enter Hvah.func215, Hvah.ntmps215
  go_wp2_with (go_at_call 328; refine (HD _ (by (repeat (first | with_reducible exact Ext.refl _ | with_reducible assumption | refine Ext.trans ?_ (by with_reducible assumption) | refine Ext.alloc ?_ _ _ | refine Ext.drew ?_ | refine Ext.drewN ?_ _)))).mono ?_; rintro e w9 ⟨rfl, hq⟩)
  go_end0
  exact ⟨rfl, hq⟩
set_option maxRecDepth 100000 in
set_option maxHeartbeats 6400000 in
theorem mRows_161 {w : World} {g : Nat} {Q : World → Prop} (HC : ∀ W, Ext w W → Calls Hvah.prog 328 #[.pointer (some ⟨g, 0, none⟩)] W fun e w' => e = .returned (.tuple #[]) ∧ Q w') : Calls Hvah.prog 215 #[.pointer (some ⟨g, 0, none⟩), .int .u8 161] w fun e w' => e = .returned (.tuple #[]) ∧ Q w' := by
  have HD := HC
  go_enter Hvah.func215, Hvah.ntmps215
  go_wp2_with (go_at_call 328; refine (HD _ (by (repeat (first | with_reducible exact Ext.refl _ | with_reducible assumption | refine Ext.trans ?_ (by with_reducible assumption) | refine Ext.alloc ?_ _ _ | refine Ext.drew ?_ | refine Ext.drewN ?_ _)))).mono ?_; rintro e w9 ⟨rfl, hq⟩)
  go_end0
  exact ⟨rfl, hq⟩
set_option maxRecDepth 100000 in
set_option maxHeartbeats 6400000 in
theorem mRows_162 {w : World} {g : Nat} {Q : World → Prop} (HC : ∀ W, Ext w W → Calls Hvah.prog 328 #[.pointer (some ⟨g, 0, none⟩)] W fun e w' => e = .returned (.tuple #[]) ∧ Q w') : Calls Hvah.prog 215 #[.pointer (some ⟨g, 0, none⟩), .int .u8 162] w fun e w' => e = .returned (.tuple #[]) ∧ Q w' := by
  have HD := HC
  go_enter Hvah.func215, Hvah.ntmps215
  go_wp2_with (go_at_call 328; refine (HD _ (by (repeat (first | with_reducible exact Ext.refl _ | with_reducible assumption | refine Ext.trans ?_ (by with_reducible assumption) | refine Ext.alloc ?_ _ _ | refine Ext.drew ?_ | refine Ext.drewN ?_ _)))).mono ?_; rintro e w9 ⟨rfl, hq⟩)
  go_end0
  exact ⟨rfl, hq⟩
set_option maxRecDepth 100000 in
set_option maxHeartbeats 6400000 in
theorem mRows_163 {w : World} {g : Nat} {Q : World → Prop} (HC : ∀ W, Ext w W → Calls Hvah.prog 328 #[.pointer (some ⟨g, 0, none⟩)] W fun e w' => e = .returned (.tuple #[]) ∧ Q w') : Calls Hvah.prog 215 #[.pointer (some ⟨g, 0, none⟩), .int .u8 163] w fun e w' => e = .returned (.tuple #[]) ∧ Q w' := by
  have HD := HC
  go_enter Hvah.func215, Hvah.ntmps215
  go_wp2_with (go_at_call 328; refine (HD _ (by (repeat (first | with_reducible exact Ext.refl _ | with_reducible assumption | refine Ext.trans ?_ (by with_reducible assumption) | refine Ext.alloc ?_ _ _ | refine Ext.drew ?_ | refine Ext.drewN ?_ _)))).mono ?_; rintro e w9 ⟨rfl, hq⟩)
  go_end0
  exact ⟨rfl, hq⟩
set_option maxRecDepth 100000 in
set_option maxHeartbeats 6400000 in
theorem mRows_164 {w : World} {g : Nat} {Q : World → Prop} (HC : ∀ W, Ext w W → Calls Hvah.prog 328 #[.pointer (some ⟨g, 0, none⟩)] W fun e w' => e = .returned (.tuple #[]) ∧ Q w') : Calls Hvah.prog 215 #[.pointer (some ⟨g, 0, none⟩), .int .u8 164] w fun e w' => e = .returned (.tuple #[]) ∧ Q w' := by
  have HD := HC
  go_enter Hvah.func215, Hvah.ntmps215
  go_wp2_with (go_at_call 328; refine (HD _ (by (repeat (first | with_reducible exact Ext.refl _ | with_reducible assumption | refine Ext.trans ?_ (by with_reducible assumption) | refine Ext.alloc ?_ _ _ | refine Ext.drew ?_ | refine Ext.drewN ?_ _)))).mono ?_; rintro e w9 ⟨rfl, hq⟩)
  go_end0
  exact ⟨rfl, hq⟩
end Go.Proofs.YgvahwGreat
