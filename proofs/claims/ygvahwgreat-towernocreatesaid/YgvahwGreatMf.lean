import Derived.Test.YgvahwGreatMe
namespace Go.Proofs.YgvahwGreat
open Go.RowKit
set_option linter.unusedSimpArgs false
section
variable {own : Nat → Nat} {w : World} {g : Nat} {c : Nat → Value} {V : EV} {st : ASt} {sn stale : List Nat} {s : Nat} {f : AFrame} {rest : List AFrame}
theorem wv32 : wv 32 = .agg #[.int .u64 32, .int .u64 0, .int .u64 0, .int .u64 0] := rfl
theorem wv1 : wv 1 = .agg #[.int .u64 1, .int .u64 0, .int .u64 0, .int .u64 0] := rfl
theorem mReachE (o n : Nat) (w : World) (ho : o < P256) (hn : n < P256) : Calls Hvah.prog 370 #[wv o, wv n] w fun e w' => ∃ k : Nat, e = .returned (.tuple #[.int .u64 k, .bool (decide (endA o n ≤ 717280))]) ∧ (endA o n ≤ 717280 → k = wordsA (endA o n)) ∧ Ext w w' :=
  (mReach o n w ho hn).mono (by rintro e w1 ⟨rfl, he⟩; exact ⟨_, rfl, fun q => if_pos q, he⟩)
set_option maxRecDepth 100000 in
set_option maxHeartbeats 6400000 in
theorem mReaches32 (h : MRep own w g c V st (s :: sn) stale) (hst : st.frames = f :: rest) : Calls Hvah.prog 276 #[.pointer (some ⟨g, 0, none⟩), .pointer (some ⟨g, 1803 + rest.length * 65, none⟩), .int .u8 32] w fun e w' => ∃ k : Nat, e = .returned (.tuple #[.int .u64 k, .bool (decide (f.reach 32 ≤ 717280))]) ∧ (f.reach 32 ≤ 717280 → k = wordsA (f.reach 32)) ∧ Ext w w' := by
  obtain ⟨hfr, hr7⟩ := h.frame hst
  have hx := fun i => hfr.ok.argLt i
  have he0 : f.reach 32 = endA (f.arg 0) (f.arg 1) := by simp [AFrame.reach]
  rw [he0]
  clear he0
  have HR := fun W => mReachE (f.arg 0) (f.arg 1) W (hx _) (hx _)
  go_enter Hvah.func276, Hvah.ntmps276
  go_wp2_with (first | (go_at_call_of 273 (Value.int IntKind.i64 0); refine (mArg (h.ext (by (repeat (first | with_reducible exact Ext.refl _ | with_reducible assumption | refine Ext.trans ?_ (by with_reducible assumption) | refine Ext.alloc ?_ _ _ | refine Ext.drew ?_ | refine Ext.drewN ?_ _)))) hst 0 (by decide)).mono ?_; rintro e w1 ⟨rfl, he⟩) | (go_at_call_of 273 (Value.int IntKind.i64 1); refine (mArg (h.ext (by (repeat (first | with_reducible exact Ext.refl _ | with_reducible assumption | refine Ext.trans ?_ (by with_reducible assumption) | refine Ext.alloc ?_ _ _ | refine Ext.drew ?_ | refine Ext.drewN ?_ _)))) hst 1 (by decide)).mono ?_; rintro e w1 ⟨rfl, he⟩) | (go_at_call 370; refine (HR _).mono ?_; rintro e w2 ⟨k, rfl, hk, he2⟩))
  go_ret2
  exact ⟨k, rfl, hk, by (repeat (first | with_reducible exact Ext.refl _ | with_reducible assumption | refine Ext.trans ?_ (by with_reducible assumption) | refine Ext.alloc ?_ _ _ | refine Ext.drew ?_ | refine Ext.drewN ?_ _))⟩
set_option maxRecDepth 100000 in
set_option maxHeartbeats 6400000 in
theorem mReaches243 (h : MRep own w g c V st (s :: sn) stale) (hst : st.frames = f :: rest) : Calls Hvah.prog 276 #[.pointer (some ⟨g, 0, none⟩), .pointer (some ⟨g, 1803 + rest.length * 65, none⟩), .int .u8 243] w fun e w' => ∃ k : Nat, e = .returned (.tuple #[.int .u64 k, .bool (decide (f.reach 243 ≤ 717280))]) ∧ (f.reach 243 ≤ 717280 → k = wordsA (f.reach 243)) ∧ Ext w w' := by
  obtain ⟨hfr, hr7⟩ := h.frame hst
  have hx := fun i => hfr.ok.argLt i
  have he0 : f.reach 243 = endA (f.arg 0) (f.arg 1) := by simp [AFrame.reach]
  rw [he0]
  clear he0
  have HR := fun W => mReachE (f.arg 0) (f.arg 1) W (hx _) (hx _)
  go_enter Hvah.func276, Hvah.ntmps276
  go_wp2_with (first | (go_at_call_of 273 (Value.int IntKind.i64 0); refine (mArg (h.ext (by (repeat (first | with_reducible exact Ext.refl _ | with_reducible assumption | refine Ext.trans ?_ (by with_reducible assumption) | refine Ext.alloc ?_ _ _ | refine Ext.drew ?_ | refine Ext.drewN ?_ _)))) hst 0 (by decide)).mono ?_; rintro e w1 ⟨rfl, he⟩) | (go_at_call_of 273 (Value.int IntKind.i64 1); refine (mArg (h.ext (by (repeat (first | with_reducible exact Ext.refl _ | with_reducible assumption | refine Ext.trans ?_ (by with_reducible assumption) | refine Ext.alloc ?_ _ _ | refine Ext.drew ?_ | refine Ext.drewN ?_ _)))) hst 1 (by decide)).mono ?_; rintro e w1 ⟨rfl, he⟩) | (go_at_call 370; refine (HR _).mono ?_; rintro e w2 ⟨k, rfl, hk, he2⟩))
  go_ret2
  exact ⟨k, rfl, hk, by (repeat (first | with_reducible exact Ext.refl _ | with_reducible assumption | refine Ext.trans ?_ (by with_reducible assumption) | refine Ext.alloc ?_ _ _ | refine Ext.drew ?_ | refine Ext.drewN ?_ _))⟩
set_option maxRecDepth 100000 in
set_option maxHeartbeats 6400000 in
theorem mReaches253 (h : MRep own w g c V st (s :: sn) stale) (hst : st.frames = f :: rest) : Calls Hvah.prog 276 #[.pointer (some ⟨g, 0, none⟩), .pointer (some ⟨g, 1803 + rest.length * 65, none⟩), .int .u8 253] w fun e w' => ∃ k : Nat, e = .returned (.tuple #[.int .u64 k, .bool (decide (f.reach 253 ≤ 717280))]) ∧ (f.reach 253 ≤ 717280 → k = wordsA (f.reach 253)) ∧ Ext w w' := by
  obtain ⟨hfr, hr7⟩ := h.frame hst
  have hx := fun i => hfr.ok.argLt i
  have he0 : f.reach 253 = endA (f.arg 0) (f.arg 1) := by simp [AFrame.reach]
  rw [he0]
  clear he0
  have HR := fun W => mReachE (f.arg 0) (f.arg 1) W (hx _) (hx _)
  go_enter Hvah.func276, Hvah.ntmps276
  go_wp2_with (first | (go_at_call_of 273 (Value.int IntKind.i64 0); refine (mArg (h.ext (by (repeat (first | with_reducible exact Ext.refl _ | with_reducible assumption | refine Ext.trans ?_ (by with_reducible assumption) | refine Ext.alloc ?_ _ _ | refine Ext.drew ?_ | refine Ext.drewN ?_ _)))) hst 0 (by decide)).mono ?_; rintro e w1 ⟨rfl, he⟩) | (go_at_call_of 273 (Value.int IntKind.i64 1); refine (mArg (h.ext (by (repeat (first | with_reducible exact Ext.refl _ | with_reducible assumption | refine Ext.trans ?_ (by with_reducible assumption) | refine Ext.alloc ?_ _ _ | refine Ext.drew ?_ | refine Ext.drewN ?_ _)))) hst 1 (by decide)).mono ?_; rintro e w1 ⟨rfl, he⟩) | (go_at_call 370; refine (HR _).mono ?_; rintro e w2 ⟨k, rfl, hk, he2⟩))
  go_ret2
  exact ⟨k, rfl, hk, by (repeat (first | with_reducible exact Ext.refl _ | with_reducible assumption | refine Ext.trans ?_ (by with_reducible assumption) | refine Ext.alloc ?_ _ _ | refine Ext.drew ?_ | refine Ext.drewN ?_ _))⟩
set_option maxRecDepth 100000 in
set_option maxHeartbeats 6400000 in
theorem mReaches160 (h : MRep own w g c V st (s :: sn) stale) (hst : st.frames = f :: rest) : Calls Hvah.prog 276 #[.pointer (some ⟨g, 0, none⟩), .pointer (some ⟨g, 1803 + rest.length * 65, none⟩), .int .u8 160] w fun e w' => ∃ k : Nat, e = .returned (.tuple #[.int .u64 k, .bool (decide (f.reach 160 ≤ 717280))]) ∧ (f.reach 160 ≤ 717280 → k = wordsA (f.reach 160)) ∧ Ext w w' := by
  obtain ⟨hfr, hr7⟩ := h.frame hst
  have hx := fun i => hfr.ok.argLt i
  have he0 : f.reach 160 = endA (f.arg 0) (f.arg 1) := by simp [AFrame.reach]
  rw [he0]
  clear he0
  have HR := fun W => mReachE (f.arg 0) (f.arg 1) W (hx _) (hx _)
  go_enter Hvah.func276, Hvah.ntmps276
  go_wp2_with (first | (go_at_call_of 273 (Value.int IntKind.i64 0); refine (mArg (h.ext (by (repeat (first | with_reducible exact Ext.refl _ | with_reducible assumption | refine Ext.trans ?_ (by with_reducible assumption) | refine Ext.alloc ?_ _ _ | refine Ext.drew ?_ | refine Ext.drewN ?_ _)))) hst 0 (by decide)).mono ?_; rintro e w1 ⟨rfl, he⟩) | (go_at_call_of 273 (Value.int IntKind.i64 1); refine (mArg (h.ext (by (repeat (first | with_reducible exact Ext.refl _ | with_reducible assumption | refine Ext.trans ?_ (by with_reducible assumption) | refine Ext.alloc ?_ _ _ | refine Ext.drew ?_ | refine Ext.drewN ?_ _)))) hst 1 (by decide)).mono ?_; rintro e w1 ⟨rfl, he⟩) | (go_at_call 370; refine (HR _).mono ?_; rintro e w2 ⟨k, rfl, hk, he2⟩))
  go_ret2
  exact ⟨k, rfl, hk, by (repeat (first | with_reducible exact Ext.refl _ | with_reducible assumption | refine Ext.trans ?_ (by with_reducible assumption) | refine Ext.alloc ?_ _ _ | refine Ext.drew ?_ | refine Ext.drewN ?_ _))⟩
set_option maxRecDepth 100000 in
set_option maxHeartbeats 6400000 in
theorem mReaches161 (h : MRep own w g c V st (s :: sn) stale) (hst : st.frames = f :: rest) : Calls Hvah.prog 276 #[.pointer (some ⟨g, 0, none⟩), .pointer (some ⟨g, 1803 + rest.length * 65, none⟩), .int .u8 161] w fun e w' => ∃ k : Nat, e = .returned (.tuple #[.int .u64 k, .bool (decide (f.reach 161 ≤ 717280))]) ∧ (f.reach 161 ≤ 717280 → k = wordsA (f.reach 161)) ∧ Ext w w' := by
  obtain ⟨hfr, hr7⟩ := h.frame hst
  have hx := fun i => hfr.ok.argLt i
  have he0 : f.reach 161 = endA (f.arg 0) (f.arg 1) := by simp [AFrame.reach]
  rw [he0]
  clear he0
  have HR := fun W => mReachE (f.arg 0) (f.arg 1) W (hx _) (hx _)
  go_enter Hvah.func276, Hvah.ntmps276
  go_wp2_with (first | (go_at_call_of 273 (Value.int IntKind.i64 0); refine (mArg (h.ext (by (repeat (first | with_reducible exact Ext.refl _ | with_reducible assumption | refine Ext.trans ?_ (by with_reducible assumption) | refine Ext.alloc ?_ _ _ | refine Ext.drew ?_ | refine Ext.drewN ?_ _)))) hst 0 (by decide)).mono ?_; rintro e w1 ⟨rfl, he⟩) | (go_at_call_of 273 (Value.int IntKind.i64 1); refine (mArg (h.ext (by (repeat (first | with_reducible exact Ext.refl _ | with_reducible assumption | refine Ext.trans ?_ (by with_reducible assumption) | refine Ext.alloc ?_ _ _ | refine Ext.drew ?_ | refine Ext.drewN ?_ _)))) hst 1 (by decide)).mono ?_; rintro e w1 ⟨rfl, he⟩) | (go_at_call 370; refine (HR _).mono ?_; rintro e w2 ⟨k, rfl, hk, he2⟩))
  go_ret2
  exact ⟨k, rfl, hk, by (repeat (first | with_reducible exact Ext.refl _ | with_reducible assumption | refine Ext.trans ?_ (by with_reducible assumption) | refine Ext.alloc ?_ _ _ | refine Ext.drew ?_ | refine Ext.drewN ?_ _))⟩
set_option maxRecDepth 100000 in
set_option maxHeartbeats 6400000 in
theorem mReaches162 (h : MRep own w g c V st (s :: sn) stale) (hst : st.frames = f :: rest) : Calls Hvah.prog 276 #[.pointer (some ⟨g, 0, none⟩), .pointer (some ⟨g, 1803 + rest.length * 65, none⟩), .int .u8 162] w fun e w' => ∃ k : Nat, e = .returned (.tuple #[.int .u64 k, .bool (decide (f.reach 162 ≤ 717280))]) ∧ (f.reach 162 ≤ 717280 → k = wordsA (f.reach 162)) ∧ Ext w w' := by
  obtain ⟨hfr, hr7⟩ := h.frame hst
  have hx := fun i => hfr.ok.argLt i
  have he0 : f.reach 162 = endA (f.arg 0) (f.arg 1) := by simp [AFrame.reach]
  rw [he0]
  clear he0
  have HR := fun W => mReachE (f.arg 0) (f.arg 1) W (hx _) (hx _)
  go_enter Hvah.func276, Hvah.ntmps276
  go_wp2_with (first | (go_at_call_of 273 (Value.int IntKind.i64 0); refine (mArg (h.ext (by (repeat (first | with_reducible exact Ext.refl _ | with_reducible assumption | refine Ext.trans ?_ (by with_reducible assumption) | refine Ext.alloc ?_ _ _ | refine Ext.drew ?_ | refine Ext.drewN ?_ _)))) hst 0 (by decide)).mono ?_; rintro e w1 ⟨rfl, he⟩) | (go_at_call_of 273 (Value.int IntKind.i64 1); refine (mArg (h.ext (by (repeat (first | with_reducible exact Ext.refl _ | with_reducible assumption | refine Ext.trans ?_ (by with_reducible assumption) | refine Ext.alloc ?_ _ _ | refine Ext.drew ?_ | refine Ext.drewN ?_ _)))) hst 1 (by decide)).mono ?_; rintro e w1 ⟨rfl, he⟩) | (go_at_call 370; refine (HR _).mono ?_; rintro e w2 ⟨k, rfl, hk, he2⟩))
  go_ret2
  exact ⟨k, rfl, hk, by (repeat (first | with_reducible exact Ext.refl _ | with_reducible assumption | refine Ext.trans ?_ (by with_reducible assumption) | refine Ext.alloc ?_ _ _ | refine Ext.drew ?_ | refine Ext.drewN ?_ _))⟩
set_option maxRecDepth 100000 in
set_option maxHeartbeats 6400000 in
theorem mReaches163 (h : MRep own w g c V st (s :: sn) stale) (hst : st.frames = f :: rest) : Calls Hvah.prog 276 #[.pointer (some ⟨g, 0, none⟩), .pointer (some ⟨g, 1803 + rest.length * 65, none⟩), .int .u8 163] w fun e w' => ∃ k : Nat, e = .returned (.tuple #[.int .u64 k, .bool (decide (f.reach 163 ≤ 717280))]) ∧ (f.reach 163 ≤ 717280 → k = wordsA (f.reach 163)) ∧ Ext w w' := by
  obtain ⟨hfr, hr7⟩ := h.frame hst
  have hx := fun i => hfr.ok.argLt i
  have he0 : f.reach 163 = endA (f.arg 0) (f.arg 1) := by simp [AFrame.reach]
  rw [he0]
  clear he0
  have HR := fun W => mReachE (f.arg 0) (f.arg 1) W (hx _) (hx _)
  go_enter Hvah.func276, Hvah.ntmps276
  go_wp2_with (first | (go_at_call_of 273 (Value.int IntKind.i64 0); refine (mArg (h.ext (by (repeat (first | with_reducible exact Ext.refl _ | with_reducible assumption | refine Ext.trans ?_ (by with_reducible assumption) | refine Ext.alloc ?_ _ _ | refine Ext.drew ?_ | refine Ext.drewN ?_ _)))) hst 0 (by decide)).mono ?_; rintro e w1 ⟨rfl, he⟩) | (go_at_call_of 273 (Value.int IntKind.i64 1); refine (mArg (h.ext (by (repeat (first | with_reducible exact Ext.refl _ | with_reducible assumption | refine Ext.trans ?_ (by with_reducible assumption) | refine Ext.alloc ?_ _ _ | refine Ext.drew ?_ | refine Ext.drewN ?_ _)))) hst 1 (by decide)).mono ?_; rintro e w1 ⟨rfl, he⟩) | (go_at_call 370; refine (HR _).mono ?_; rintro e w2 ⟨k, rfl, hk, he2⟩))
  go_ret2
  exact ⟨k, rfl, hk, by (repeat (first | with_reducible exact Ext.refl _ | with_reducible assumption | refine Ext.trans ?_ (by with_reducible assumption) | refine Ext.alloc ?_ _ _ | refine Ext.drew ?_ | refine Ext.drewN ?_ _))⟩
set_option maxRecDepth 100000 in
set_option maxHeartbeats 6400000 in
theorem mReaches164 (h : MRep own w g c V st (s :: sn) stale) (hst : st.frames = f :: rest) : Calls Hvah.prog 276 #[.pointer (some ⟨g, 0, none⟩), .pointer (some ⟨g, 1803 + rest.length * 65, none⟩), .int .u8 164] w fun e w' => ∃ k : Nat, e = .returned (.tuple #[.int .u64 k, .bool (decide (f.reach 164 ≤ 717280))]) ∧ (f.reach 164 ≤ 717280 → k = wordsA (f.reach 164)) ∧ Ext w w' := by
  obtain ⟨hfr, hr7⟩ := h.frame hst
  have hx := fun i => hfr.ok.argLt i
  have he0 : f.reach 164 = endA (f.arg 0) (f.arg 1) := by simp [AFrame.reach]
  rw [he0]
  clear he0
  have HR := fun W => mReachE (f.arg 0) (f.arg 1) W (hx _) (hx _)
  go_enter Hvah.func276, Hvah.ntmps276
  go_wp2_with (first | (go_at_call_of 273 (Value.int IntKind.i64 0); refine (mArg (h.ext (by (repeat (first | with_reducible exact Ext.refl _ | with_reducible assumption | refine Ext.trans ?_ (by with_reducible assumption) | refine Ext.alloc ?_ _ _ | refine Ext.drew ?_ | refine Ext.drewN ?_ _)))) hst 0 (by decide)).mono ?_; rintro e w1 ⟨rfl, he⟩) | (go_at_call_of 273 (Value.int IntKind.i64 1); refine (mArg (h.ext (by (repeat (first | with_reducible exact Ext.refl _ | with_reducible assumption | refine Ext.trans ?_ (by with_reducible assumption) | refine Ext.alloc ?_ _ _ | refine Ext.drew ?_ | refine Ext.drewN ?_ _)))) hst 1 (by decide)).mono ?_; rintro e w1 ⟨rfl, he⟩) | (go_at_call 370; refine (HR _).mono ?_; rintro e w2 ⟨k, rfl, hk, he2⟩))
  go_ret2
  exact ⟨k, rfl, hk, by (repeat (first | with_reducible exact Ext.refl _ | with_reducible assumption | refine Ext.trans ?_ (by with_reducible assumption) | refine Ext.alloc ?_ _ _ | refine Ext.drew ?_ | refine Ext.drewN ?_ _))⟩
set_option maxRecDepth 100000 in
set_option maxHeartbeats 6400000 in
theorem mReaches55 (h : MRep own w g c V st (s :: sn) stale) (hst : st.frames = f :: rest) : Calls Hvah.prog 276 #[.pointer (some ⟨g, 0, none⟩), .pointer (some ⟨g, 1803 + rest.length * 65, none⟩), .int .u8 55] w fun e w' => ∃ k : Nat, e = .returned (.tuple #[.int .u64 k, .bool (decide (f.reach 55 ≤ 717280))]) ∧ (f.reach 55 ≤ 717280 → k = wordsA (f.reach 55)) ∧ Ext w w' := by
  obtain ⟨hfr, hr7⟩ := h.frame hst
  have hx := fun i => hfr.ok.argLt i
  have he0 : f.reach 55 = endA (f.arg 0) (f.arg 2) := by simp [AFrame.reach]
  rw [he0]
  clear he0
  have HR := fun W => mReachE (f.arg 0) (f.arg 2) W (hx _) (hx _)
  go_enter Hvah.func276, Hvah.ntmps276
  go_wp2_with (first | (go_at_call_of 273 (Value.int IntKind.i64 0); refine (mArg (h.ext (by (repeat (first | with_reducible exact Ext.refl _ | with_reducible assumption | refine Ext.trans ?_ (by with_reducible assumption) | refine Ext.alloc ?_ _ _ | refine Ext.drew ?_ | refine Ext.drewN ?_ _)))) hst 0 (by decide)).mono ?_; rintro e w1 ⟨rfl, he⟩) | (go_at_call_of 273 (Value.int IntKind.i64 2); refine (mArg (h.ext (by (repeat (first | with_reducible exact Ext.refl _ | with_reducible assumption | refine Ext.trans ?_ (by with_reducible assumption) | refine Ext.alloc ?_ _ _ | refine Ext.drew ?_ | refine Ext.drewN ?_ _)))) hst 2 (by decide)).mono ?_; rintro e w1 ⟨rfl, he⟩) | (go_at_call 370; refine (HR _).mono ?_; rintro e w2 ⟨k, rfl, hk, he2⟩))
  go_ret2
  exact ⟨k, rfl, hk, by (repeat (first | with_reducible exact Ext.refl _ | with_reducible assumption | refine Ext.trans ?_ (by with_reducible assumption) | refine Ext.alloc ?_ _ _ | refine Ext.drew ?_ | refine Ext.drewN ?_ _))⟩
set_option maxRecDepth 100000 in
set_option maxHeartbeats 6400000 in
theorem mReaches57 (h : MRep own w g c V st (s :: sn) stale) (hst : st.frames = f :: rest) : Calls Hvah.prog 276 #[.pointer (some ⟨g, 0, none⟩), .pointer (some ⟨g, 1803 + rest.length * 65, none⟩), .int .u8 57] w fun e w' => ∃ k : Nat, e = .returned (.tuple #[.int .u64 k, .bool (decide (f.reach 57 ≤ 717280))]) ∧ (f.reach 57 ≤ 717280 → k = wordsA (f.reach 57)) ∧ Ext w w' := by
  obtain ⟨hfr, hr7⟩ := h.frame hst
  have hx := fun i => hfr.ok.argLt i
  have he0 : f.reach 57 = endA (f.arg 0) (f.arg 2) := by simp [AFrame.reach]
  rw [he0]
  clear he0
  have HR := fun W => mReachE (f.arg 0) (f.arg 2) W (hx _) (hx _)
  go_enter Hvah.func276, Hvah.ntmps276
  go_wp2_with (first | (go_at_call_of 273 (Value.int IntKind.i64 0); refine (mArg (h.ext (by (repeat (first | with_reducible exact Ext.refl _ | with_reducible assumption | refine Ext.trans ?_ (by with_reducible assumption) | refine Ext.alloc ?_ _ _ | refine Ext.drew ?_ | refine Ext.drewN ?_ _)))) hst 0 (by decide)).mono ?_; rintro e w1 ⟨rfl, he⟩) | (go_at_call_of 273 (Value.int IntKind.i64 2); refine (mArg (h.ext (by (repeat (first | with_reducible exact Ext.refl _ | with_reducible assumption | refine Ext.trans ?_ (by with_reducible assumption) | refine Ext.alloc ?_ _ _ | refine Ext.drew ?_ | refine Ext.drewN ?_ _)))) hst 2 (by decide)).mono ?_; rintro e w1 ⟨rfl, he⟩) | (go_at_call 370; refine (HR _).mono ?_; rintro e w2 ⟨k, rfl, hk, he2⟩))
  go_ret2
  exact ⟨k, rfl, hk, by (repeat (first | with_reducible exact Ext.refl _ | with_reducible assumption | refine Ext.trans ?_ (by with_reducible assumption) | refine Ext.alloc ?_ _ _ | refine Ext.drew ?_ | refine Ext.drewN ?_ _))⟩
set_option maxRecDepth 100000 in
set_option maxHeartbeats 6400000 in
theorem mReaches62 (h : MRep own w g c V st (s :: sn) stale) (hst : st.frames = f :: rest) : Calls Hvah.prog 276 #[.pointer (some ⟨g, 0, none⟩), .pointer (some ⟨g, 1803 + rest.length * 65, none⟩), .int .u8 62] w fun e w' => ∃ k : Nat, e = .returned (.tuple #[.int .u64 k, .bool (decide (f.reach 62 ≤ 717280))]) ∧ (f.reach 62 ≤ 717280 → k = wordsA (f.reach 62)) ∧ Ext w w' := by
  obtain ⟨hfr, hr7⟩ := h.frame hst
  have hx := fun i => hfr.ok.argLt i
  have he0 : f.reach 62 = endA (f.arg 0) (f.arg 2) := by simp [AFrame.reach]
  rw [he0]
  clear he0
  have HR := fun W => mReachE (f.arg 0) (f.arg 2) W (hx _) (hx _)
  go_enter Hvah.func276, Hvah.ntmps276
  go_wp2_with (first | (go_at_call_of 273 (Value.int IntKind.i64 0); refine (mArg (h.ext (by (repeat (first | with_reducible exact Ext.refl _ | with_reducible assumption | refine Ext.trans ?_ (by with_reducible assumption) | refine Ext.alloc ?_ _ _ | refine Ext.drew ?_ | refine Ext.drewN ?_ _)))) hst 0 (by decide)).mono ?_; rintro e w1 ⟨rfl, he⟩) | (go_at_call_of 273 (Value.int IntKind.i64 2); refine (mArg (h.ext (by (repeat (first | with_reducible exact Ext.refl _ | with_reducible assumption | refine Ext.trans ?_ (by with_reducible assumption) | refine Ext.alloc ?_ _ _ | refine Ext.drew ?_ | refine Ext.drewN ?_ _)))) hst 2 (by decide)).mono ?_; rintro e w1 ⟨rfl, he⟩) | (go_at_call 370; refine (HR _).mono ?_; rintro e w2 ⟨k, rfl, hk, he2⟩))
  go_ret2
  exact ⟨k, rfl, hk, by (repeat (first | with_reducible exact Ext.refl _ | with_reducible assumption | refine Ext.trans ?_ (by with_reducible assumption) | refine Ext.alloc ?_ _ _ | refine Ext.drew ?_ | refine Ext.drewN ?_ _))⟩
set_option maxRecDepth 100000 in
set_option maxHeartbeats 6400000 in
theorem mReaches60 (h : MRep own w g c V st (s :: sn) stale) (hst : st.frames = f :: rest) : Calls Hvah.prog 276 #[.pointer (some ⟨g, 0, none⟩), .pointer (some ⟨g, 1803 + rest.length * 65, none⟩), .int .u8 60] w fun e w' => ∃ k : Nat, e = .returned (.tuple #[.int .u64 k, .bool (decide (f.reach 60 ≤ 717280))]) ∧ (f.reach 60 ≤ 717280 → k = wordsA (f.reach 60)) ∧ Ext w w' := by
  obtain ⟨hfr, hr7⟩ := h.frame hst
  have hx := fun i => hfr.ok.argLt i
  have he0 : f.reach 60 = endA (f.arg 1) (f.arg 3) := by simp [AFrame.reach]
  rw [he0]
  clear he0
  have HR := fun W => mReachE (f.arg 1) (f.arg 3) W (hx _) (hx _)
  go_enter Hvah.func276, Hvah.ntmps276
  go_wp2_with (first | (go_at_call_of 273 (Value.int IntKind.i64 1); refine (mArg (h.ext (by (repeat (first | with_reducible exact Ext.refl _ | with_reducible assumption | refine Ext.trans ?_ (by with_reducible assumption) | refine Ext.alloc ?_ _ _ | refine Ext.drew ?_ | refine Ext.drewN ?_ _)))) hst 1 (by decide)).mono ?_; rintro e w1 ⟨rfl, he⟩) | (go_at_call_of 273 (Value.int IntKind.i64 3); refine (mArg (h.ext (by (repeat (first | with_reducible exact Ext.refl _ | with_reducible assumption | refine Ext.trans ?_ (by with_reducible assumption) | refine Ext.alloc ?_ _ _ | refine Ext.drew ?_ | refine Ext.drewN ?_ _)))) hst 3 (by decide)).mono ?_; rintro e w1 ⟨rfl, he⟩) | (go_at_call 370; refine (HR _).mono ?_; rintro e w2 ⟨k, rfl, hk, he2⟩))
  go_ret2
  exact ⟨k, rfl, hk, by (repeat (first | with_reducible exact Ext.refl _ | with_reducible assumption | refine Ext.trans ?_ (by with_reducible assumption) | refine Ext.alloc ?_ _ _ | refine Ext.drew ?_ | refine Ext.drewN ?_ _))⟩
set_option maxRecDepth 100000 in
set_option maxHeartbeats 6400000 in
theorem mReaches81 (h : MRep own w g c V st (s :: sn) stale) (hst : st.frames = f :: rest) : Calls Hvah.prog 276 #[.pointer (some ⟨g, 0, none⟩), .pointer (some ⟨g, 1803 + rest.length * 65, none⟩), .int .u8 81] w fun e w' => ∃ k : Nat, e = .returned (.tuple #[.int .u64 k, .bool (decide (f.reach 81 ≤ 717280))]) ∧ (f.reach 81 ≤ 717280 → k = wordsA (f.reach 81)) ∧ Ext w w' := by
  obtain ⟨hfr, hr7⟩ := h.frame hst
  have hx := fun i => hfr.ok.argLt i
  have he0 : f.reach 81 = endA (f.arg 0) 32 := by simp [AFrame.reach]
  rw [he0]
  clear he0
  have HR := fun W => mReachE (f.arg 0) 32 W (hx _) (by decide)
  rw [wv32] at HR
  go_enter Hvah.func276, Hvah.ntmps276
  go_wp2_with (first | (go_at_call_of 273 (Value.int IntKind.i64 0); refine (mArg (h.ext (by (repeat (first | with_reducible exact Ext.refl _ | with_reducible assumption | refine Ext.trans ?_ (by with_reducible assumption) | refine Ext.alloc ?_ _ _ | refine Ext.drew ?_ | refine Ext.drewN ?_ _)))) hst 0 (by decide)).mono ?_; rintro e w1 ⟨rfl, he⟩) | (go_at_call 370; refine (HR _).mono ?_; rintro e w2 ⟨k, rfl, hk, he2⟩))
  go_ret2
  exact ⟨k, rfl, hk, by (repeat (first | with_reducible exact Ext.refl _ | with_reducible assumption | refine Ext.trans ?_ (by with_reducible assumption) | refine Ext.alloc ?_ _ _ | refine Ext.drew ?_ | refine Ext.drewN ?_ _))⟩
set_option maxRecDepth 100000 in
set_option maxHeartbeats 6400000 in
theorem mReaches82 (h : MRep own w g c V st (s :: sn) stale) (hst : st.frames = f :: rest) : Calls Hvah.prog 276 #[.pointer (some ⟨g, 0, none⟩), .pointer (some ⟨g, 1803 + rest.length * 65, none⟩), .int .u8 82] w fun e w' => ∃ k : Nat, e = .returned (.tuple #[.int .u64 k, .bool (decide (f.reach 82 ≤ 717280))]) ∧ (f.reach 82 ≤ 717280 → k = wordsA (f.reach 82)) ∧ Ext w w' := by
  obtain ⟨hfr, hr7⟩ := h.frame hst
  have hx := fun i => hfr.ok.argLt i
  have he0 : f.reach 82 = endA (f.arg 0) 32 := by simp [AFrame.reach]
  rw [he0]
  clear he0
  have HR := fun W => mReachE (f.arg 0) 32 W (hx _) (by decide)
  rw [wv32] at HR
  go_enter Hvah.func276, Hvah.ntmps276
  go_wp2_with (first | (go_at_call_of 273 (Value.int IntKind.i64 0); refine (mArg (h.ext (by (repeat (first | with_reducible exact Ext.refl _ | with_reducible assumption | refine Ext.trans ?_ (by with_reducible assumption) | refine Ext.alloc ?_ _ _ | refine Ext.drew ?_ | refine Ext.drewN ?_ _)))) hst 0 (by decide)).mono ?_; rintro e w1 ⟨rfl, he⟩) | (go_at_call 370; refine (HR _).mono ?_; rintro e w2 ⟨k, rfl, hk, he2⟩))
  go_ret2
  exact ⟨k, rfl, hk, by (repeat (first | with_reducible exact Ext.refl _ | with_reducible assumption | refine Ext.trans ?_ (by with_reducible assumption) | refine Ext.alloc ?_ _ _ | refine Ext.drew ?_ | refine Ext.drewN ?_ _))⟩
set_option maxRecDepth 100000 in
set_option maxHeartbeats 6400000 in
theorem mReaches83 (h : MRep own w g c V st (s :: sn) stale) (hst : st.frames = f :: rest) : Calls Hvah.prog 276 #[.pointer (some ⟨g, 0, none⟩), .pointer (some ⟨g, 1803 + rest.length * 65, none⟩), .int .u8 83] w fun e w' => ∃ k : Nat, e = .returned (.tuple #[.int .u64 k, .bool (decide (f.reach 83 ≤ 717280))]) ∧ (f.reach 83 ≤ 717280 → k = wordsA (f.reach 83)) ∧ Ext w w' := by
  obtain ⟨hfr, hr7⟩ := h.frame hst
  have hx := fun i => hfr.ok.argLt i
  have he0 : f.reach 83 = endA (f.arg 0) 1 := by simp [AFrame.reach]
  rw [he0]
  clear he0
  have HR := fun W => mReachE (f.arg 0) 1 W (hx _) (by decide)
  rw [wv1] at HR
  go_enter Hvah.func276, Hvah.ntmps276
  go_wp2_with (first | (go_at_call_of 273 (Value.int IntKind.i64 0); refine (mArg (h.ext (by (repeat (first | with_reducible exact Ext.refl _ | with_reducible assumption | refine Ext.trans ?_ (by with_reducible assumption) | refine Ext.alloc ?_ _ _ | refine Ext.drew ?_ | refine Ext.drewN ?_ _)))) hst 0 (by decide)).mono ?_; rintro e w1 ⟨rfl, he⟩) | (go_at_call 370; refine (HR _).mono ?_; rintro e w2 ⟨k, rfl, hk, he2⟩))
  go_ret2
  exact ⟨k, rfl, hk, by (repeat (first | with_reducible exact Ext.refl _ | with_reducible assumption | refine Ext.trans ?_ (by with_reducible assumption) | refine Ext.alloc ?_ _ _ | refine Ext.drew ?_ | refine Ext.drewN ?_ _))⟩
set_option maxRecDepth 100000 in
set_option maxHeartbeats 6400000 in
theorem mReaches94 (h : MRep own w g c V st (s :: sn) stale) (hst : st.frames = f :: rest) : Calls Hvah.prog 276 #[.pointer (some ⟨g, 0, none⟩), .pointer (some ⟨g, 1803 + rest.length * 65, none⟩), .int .u8 94] w fun e w' => ∃ k : Nat, e = .returned (.tuple #[.int .u64 k, .bool (decide (f.reach 94 ≤ 717280))]) ∧ (f.reach 94 ≤ 717280 → k = wordsA (f.reach 94)) ∧ Ext w w' := by
  obtain ⟨hfr, hr7⟩ := h.frame hst
  have hx := fun i => hfr.ok.argLt i
  have he0 : f.reach 94 = max (endA (f.arg 0) (f.arg 2)) (endA (f.arg 1) (f.arg 2)) := by simp [AFrame.reach]
  rw [he0]
  clear he0
  have HR := fun W => mReach2 (f.arg 0) (f.arg 2) (f.arg 1) (f.arg 2) W (hx _) (hx _) (hx _) (hx _)
  go_enter Hvah.func276, Hvah.ntmps276
  go_wp2_with (first | (go_at_call_of 273 (Value.int IntKind.i64 0); refine (mArg (h.ext (by (repeat (first | with_reducible exact Ext.refl _ | with_reducible assumption | refine Ext.trans ?_ (by with_reducible assumption) | refine Ext.alloc ?_ _ _ | refine Ext.drew ?_ | refine Ext.drewN ?_ _)))) hst 0 (by decide)).mono ?_; rintro e w1 ⟨rfl, he⟩) | (go_at_call_of 273 (Value.int IntKind.i64 1); refine (mArg (h.ext (by (repeat (first | with_reducible exact Ext.refl _ | with_reducible assumption | refine Ext.trans ?_ (by with_reducible assumption) | refine Ext.alloc ?_ _ _ | refine Ext.drew ?_ | refine Ext.drewN ?_ _)))) hst 1 (by decide)).mono ?_; rintro e w1 ⟨rfl, he⟩) | (go_at_call_of 273 (Value.int IntKind.i64 2); refine (mArg (h.ext (by (repeat (first | with_reducible exact Ext.refl _ | with_reducible assumption | refine Ext.trans ?_ (by with_reducible assumption) | refine Ext.alloc ?_ _ _ | refine Ext.drew ?_ | refine Ext.drewN ?_ _)))) hst 2 (by decide)).mono ?_; rintro e w1 ⟨rfl, he⟩) | (go_at_call 371; refine (HR _).mono ?_; rintro e w2 ⟨k, rfl, hk, he2⟩))
  go_ret2
  exact ⟨k, rfl, hk, by (repeat (first | with_reducible exact Ext.refl _ | with_reducible assumption | refine Ext.trans ?_ (by with_reducible assumption) | refine Ext.alloc ?_ _ _ | refine Ext.drew ?_ | refine Ext.drewN ?_ _))⟩
set_option maxRecDepth 100000 in
set_option maxHeartbeats 6400000 in
theorem mReaches240 (h : MRep own w g c V st (s :: sn) stale) (hst : st.frames = f :: rest) : Calls Hvah.prog 276 #[.pointer (some ⟨g, 0, none⟩), .pointer (some ⟨g, 1803 + rest.length * 65, none⟩), .int .u8 240] w fun e w' => ∃ k : Nat, e = .returned (.tuple #[.int .u64 k, .bool (decide (f.reach 240 ≤ 717280))]) ∧ (f.reach 240 ≤ 717280 → k = wordsA (f.reach 240)) ∧ Ext w w' := by
  obtain ⟨hfr, hr7⟩ := h.frame hst
  have hx := fun i => hfr.ok.argLt i
  have he0 : f.reach 240 = endA (f.arg 1) (f.arg 2) := by simp [AFrame.reach]
  rw [he0]
  clear he0
  have HR := fun W => mReachE (f.arg 1) (f.arg 2) W (hx _) (hx _)
  go_enter Hvah.func276, Hvah.ntmps276
  go_wp2_with (first | (go_at_call_of 273 (Value.int IntKind.i64 1); refine (mArg (h.ext (by (repeat (first | with_reducible exact Ext.refl _ | with_reducible assumption | refine Ext.trans ?_ (by with_reducible assumption) | refine Ext.alloc ?_ _ _ | refine Ext.drew ?_ | refine Ext.drewN ?_ _)))) hst 1 (by decide)).mono ?_; rintro e w1 ⟨rfl, he⟩) | (go_at_call_of 273 (Value.int IntKind.i64 2); refine (mArg (h.ext (by (repeat (first | with_reducible exact Ext.refl _ | with_reducible assumption | refine Ext.trans ?_ (by with_reducible assumption) | refine Ext.alloc ?_ _ _ | refine Ext.drew ?_ | refine Ext.drewN ?_ _)))) hst 2 (by decide)).mono ?_; rintro e w1 ⟨rfl, he⟩) | (go_at_call 370; refine (HR _).mono ?_; rintro e w2 ⟨k, rfl, hk, he2⟩))
  go_ret2
  exact ⟨k, rfl, hk, by (repeat (first | with_reducible exact Ext.refl _ | with_reducible assumption | refine Ext.trans ?_ (by with_reducible assumption) | refine Ext.alloc ?_ _ _ | refine Ext.drew ?_ | refine Ext.drewN ?_ _))⟩
set_option maxRecDepth 100000 in
set_option maxHeartbeats 6400000 in
theorem mReaches245 (h : MRep own w g c V st (s :: sn) stale) (hst : st.frames = f :: rest) : Calls Hvah.prog 276 #[.pointer (some ⟨g, 0, none⟩), .pointer (some ⟨g, 1803 + rest.length * 65, none⟩), .int .u8 245] w fun e w' => ∃ k : Nat, e = .returned (.tuple #[.int .u64 k, .bool (decide (f.reach 245 ≤ 717280))]) ∧ (f.reach 245 ≤ 717280 → k = wordsA (f.reach 245)) ∧ Ext w w' := by
  obtain ⟨hfr, hr7⟩ := h.frame hst
  have hx := fun i => hfr.ok.argLt i
  have he0 : f.reach 245 = endA (f.arg 1) (f.arg 2) := by simp [AFrame.reach]
  rw [he0]
  clear he0
  have HR := fun W => mReachE (f.arg 1) (f.arg 2) W (hx _) (hx _)
  go_enter Hvah.func276, Hvah.ntmps276
  go_wp2_with (first | (go_at_call_of 273 (Value.int IntKind.i64 1); refine (mArg (h.ext (by (repeat (first | with_reducible exact Ext.refl _ | with_reducible assumption | refine Ext.trans ?_ (by with_reducible assumption) | refine Ext.alloc ?_ _ _ | refine Ext.drew ?_ | refine Ext.drewN ?_ _)))) hst 1 (by decide)).mono ?_; rintro e w1 ⟨rfl, he⟩) | (go_at_call_of 273 (Value.int IntKind.i64 2); refine (mArg (h.ext (by (repeat (first | with_reducible exact Ext.refl _ | with_reducible assumption | refine Ext.trans ?_ (by with_reducible assumption) | refine Ext.alloc ?_ _ _ | refine Ext.drew ?_ | refine Ext.drewN ?_ _)))) hst 2 (by decide)).mono ?_; rintro e w1 ⟨rfl, he⟩) | (go_at_call 370; refine (HR _).mono ?_; rintro e w2 ⟨k, rfl, hk, he2⟩))
  go_ret2
  exact ⟨k, rfl, hk, by (repeat (first | with_reducible exact Ext.refl _ | with_reducible assumption | refine Ext.trans ?_ (by with_reducible assumption) | refine Ext.alloc ?_ _ _ | refine Ext.drew ?_ | refine Ext.drewN ?_ _))⟩
set_option maxRecDepth 100000 in
set_option maxHeartbeats 6400000 in
theorem mReaches241 (h : MRep own w g c V st (s :: sn) stale) (hst : st.frames = f :: rest) : Calls Hvah.prog 276 #[.pointer (some ⟨g, 0, none⟩), .pointer (some ⟨g, 1803 + rest.length * 65, none⟩), .int .u8 241] w fun e w' => ∃ k : Nat, e = .returned (.tuple #[.int .u64 k, .bool (decide (f.reach 241 ≤ 717280))]) ∧ (f.reach 241 ≤ 717280 → k = wordsA (f.reach 241)) ∧ Ext w w' := by
  obtain ⟨hfr, hr7⟩ := h.frame hst
  have hx := fun i => hfr.ok.argLt i
  have he0 : f.reach 241 = max (endA (f.arg 3) (f.arg 4)) (endA (f.arg 5) (f.arg 6)) := by simp [AFrame.reach]
  rw [he0]
  clear he0
  have HR := fun W => mReach2 (f.arg 3) (f.arg 4) (f.arg 5) (f.arg 6) W (hx _) (hx _) (hx _) (hx _)
  go_enter Hvah.func276, Hvah.ntmps276
  go_wp2_with (first | (go_at_call_of 273 (Value.int IntKind.i64 3); refine (mArg (h.ext (by (repeat (first | with_reducible exact Ext.refl _ | with_reducible assumption | refine Ext.trans ?_ (by with_reducible assumption) | refine Ext.alloc ?_ _ _ | refine Ext.drew ?_ | refine Ext.drewN ?_ _)))) hst 3 (by decide)).mono ?_; rintro e w1 ⟨rfl, he⟩) | (go_at_call_of 273 (Value.int IntKind.i64 4); refine (mArg (h.ext (by (repeat (first | with_reducible exact Ext.refl _ | with_reducible assumption | refine Ext.trans ?_ (by with_reducible assumption) | refine Ext.alloc ?_ _ _ | refine Ext.drew ?_ | refine Ext.drewN ?_ _)))) hst 4 (by decide)).mono ?_; rintro e w1 ⟨rfl, he⟩) | (go_at_call_of 273 (Value.int IntKind.i64 5); refine (mArg (h.ext (by (repeat (first | with_reducible exact Ext.refl _ | with_reducible assumption | refine Ext.trans ?_ (by with_reducible assumption) | refine Ext.alloc ?_ _ _ | refine Ext.drew ?_ | refine Ext.drewN ?_ _)))) hst 5 (by decide)).mono ?_; rintro e w1 ⟨rfl, he⟩) | (go_at_call_of 273 (Value.int IntKind.i64 6); refine (mArg (h.ext (by (repeat (first | with_reducible exact Ext.refl _ | with_reducible assumption | refine Ext.trans ?_ (by with_reducible assumption) | refine Ext.alloc ?_ _ _ | refine Ext.drew ?_ | refine Ext.drewN ?_ _)))) hst 6 (by decide)).mono ?_; rintro e w1 ⟨rfl, he⟩) | (go_at_call 371; refine (HR _).mono ?_; rintro e w2 ⟨k, rfl, hk, he2⟩))
  go_ret2
  exact ⟨k, rfl, hk, by (repeat (first | with_reducible exact Ext.refl _ | with_reducible assumption | refine Ext.trans ?_ (by with_reducible assumption) | refine Ext.alloc ?_ _ _ | refine Ext.drew ?_ | refine Ext.drewN ?_ _))⟩
set_option maxRecDepth 100000 in
set_option maxHeartbeats 6400000 in
theorem mReaches242 (h : MRep own w g c V st (s :: sn) stale) (hst : st.frames = f :: rest) : Calls Hvah.prog 276 #[.pointer (some ⟨g, 0, none⟩), .pointer (some ⟨g, 1803 + rest.length * 65, none⟩), .int .u8 242] w fun e w' => ∃ k : Nat, e = .returned (.tuple #[.int .u64 k, .bool (decide (f.reach 242 ≤ 717280))]) ∧ (f.reach 242 ≤ 717280 → k = wordsA (f.reach 242)) ∧ Ext w w' := by
  obtain ⟨hfr, hr7⟩ := h.frame hst
  have hx := fun i => hfr.ok.argLt i
  have he0 : f.reach 242 = max (endA (f.arg 3) (f.arg 4)) (endA (f.arg 5) (f.arg 6)) := by simp [AFrame.reach]
  rw [he0]
  clear he0
  have HR := fun W => mReach2 (f.arg 3) (f.arg 4) (f.arg 5) (f.arg 6) W (hx _) (hx _) (hx _) (hx _)
  go_enter Hvah.func276, Hvah.ntmps276
  go_wp2_with (first | (go_at_call_of 273 (Value.int IntKind.i64 3); refine (mArg (h.ext (by (repeat (first | with_reducible exact Ext.refl _ | with_reducible assumption | refine Ext.trans ?_ (by with_reducible assumption) | refine Ext.alloc ?_ _ _ | refine Ext.drew ?_ | refine Ext.drewN ?_ _)))) hst 3 (by decide)).mono ?_; rintro e w1 ⟨rfl, he⟩) | (go_at_call_of 273 (Value.int IntKind.i64 4); refine (mArg (h.ext (by (repeat (first | with_reducible exact Ext.refl _ | with_reducible assumption | refine Ext.trans ?_ (by with_reducible assumption) | refine Ext.alloc ?_ _ _ | refine Ext.drew ?_ | refine Ext.drewN ?_ _)))) hst 4 (by decide)).mono ?_; rintro e w1 ⟨rfl, he⟩) | (go_at_call_of 273 (Value.int IntKind.i64 5); refine (mArg (h.ext (by (repeat (first | with_reducible exact Ext.refl _ | with_reducible assumption | refine Ext.trans ?_ (by with_reducible assumption) | refine Ext.alloc ?_ _ _ | refine Ext.drew ?_ | refine Ext.drewN ?_ _)))) hst 5 (by decide)).mono ?_; rintro e w1 ⟨rfl, he⟩) | (go_at_call_of 273 (Value.int IntKind.i64 6); refine (mArg (h.ext (by (repeat (first | with_reducible exact Ext.refl _ | with_reducible assumption | refine Ext.trans ?_ (by with_reducible assumption) | refine Ext.alloc ?_ _ _ | refine Ext.drew ?_ | refine Ext.drewN ?_ _)))) hst 6 (by decide)).mono ?_; rintro e w1 ⟨rfl, he⟩) | (go_at_call 371; refine (HR _).mono ?_; rintro e w2 ⟨k, rfl, hk, he2⟩))
  go_ret2
  exact ⟨k, rfl, hk, by (repeat (first | with_reducible exact Ext.refl _ | with_reducible assumption | refine Ext.trans ?_ (by with_reducible assumption) | refine Ext.alloc ?_ _ _ | refine Ext.drew ?_ | refine Ext.drewN ?_ _))⟩
set_option maxRecDepth 100000 in
set_option maxHeartbeats 6400000 in
theorem mReaches244 (h : MRep own w g c V st (s :: sn) stale) (hst : st.frames = f :: rest) : Calls Hvah.prog 276 #[.pointer (some ⟨g, 0, none⟩), .pointer (some ⟨g, 1803 + rest.length * 65, none⟩), .int .u8 244] w fun e w' => ∃ k : Nat, e = .returned (.tuple #[.int .u64 k, .bool (decide (f.reach 244 ≤ 717280))]) ∧ (f.reach 244 ≤ 717280 → k = wordsA (f.reach 244)) ∧ Ext w w' := by
  obtain ⟨hfr, hr7⟩ := h.frame hst
  have hx := fun i => hfr.ok.argLt i
  have he0 : f.reach 244 = max (endA (f.arg 2) (f.arg 3)) (endA (f.arg 4) (f.arg 5)) := by simp [AFrame.reach]
  rw [he0]
  clear he0
  have HR := fun W => mReach2 (f.arg 2) (f.arg 3) (f.arg 4) (f.arg 5) W (hx _) (hx _) (hx _) (hx _)
  go_enter Hvah.func276, Hvah.ntmps276
  go_wp2_with (first | (go_at_call_of 273 (Value.int IntKind.i64 2); refine (mArg (h.ext (by (repeat (first | with_reducible exact Ext.refl _ | with_reducible assumption | refine Ext.trans ?_ (by with_reducible assumption) | refine Ext.alloc ?_ _ _ | refine Ext.drew ?_ | refine Ext.drewN ?_ _)))) hst 2 (by decide)).mono ?_; rintro e w1 ⟨rfl, he⟩) | (go_at_call_of 273 (Value.int IntKind.i64 3); refine (mArg (h.ext (by (repeat (first | with_reducible exact Ext.refl _ | with_reducible assumption | refine Ext.trans ?_ (by with_reducible assumption) | refine Ext.alloc ?_ _ _ | refine Ext.drew ?_ | refine Ext.drewN ?_ _)))) hst 3 (by decide)).mono ?_; rintro e w1 ⟨rfl, he⟩) | (go_at_call_of 273 (Value.int IntKind.i64 4); refine (mArg (h.ext (by (repeat (first | with_reducible exact Ext.refl _ | with_reducible assumption | refine Ext.trans ?_ (by with_reducible assumption) | refine Ext.alloc ?_ _ _ | refine Ext.drew ?_ | refine Ext.drewN ?_ _)))) hst 4 (by decide)).mono ?_; rintro e w1 ⟨rfl, he⟩) | (go_at_call_of 273 (Value.int IntKind.i64 5); refine (mArg (h.ext (by (repeat (first | with_reducible exact Ext.refl _ | with_reducible assumption | refine Ext.trans ?_ (by with_reducible assumption) | refine Ext.alloc ?_ _ _ | refine Ext.drew ?_ | refine Ext.drewN ?_ _)))) hst 5 (by decide)).mono ?_; rintro e w1 ⟨rfl, he⟩) | (go_at_call 371; refine (HR _).mono ?_; rintro e w2 ⟨k, rfl, hk, he2⟩))
  go_ret2
  exact ⟨k, rfl, hk, by (repeat (first | with_reducible exact Ext.refl _ | with_reducible assumption | refine Ext.trans ?_ (by with_reducible assumption) | refine Ext.alloc ?_ _ _ | refine Ext.drew ?_ | refine Ext.drewN ?_ _))⟩
set_option maxRecDepth 100000 in
set_option maxHeartbeats 6400000 in
theorem mReaches250 (h : MRep own w g c V st (s :: sn) stale) (hst : st.frames = f :: rest) : Calls Hvah.prog 276 #[.pointer (some ⟨g, 0, none⟩), .pointer (some ⟨g, 1803 + rest.length * 65, none⟩), .int .u8 250] w fun e w' => ∃ k : Nat, e = .returned (.tuple #[.int .u64 k, .bool (decide (f.reach 250 ≤ 717280))]) ∧ (f.reach 250 ≤ 717280 → k = wordsA (f.reach 250)) ∧ Ext w w' := by
  obtain ⟨hfr, hr7⟩ := h.frame hst
  have hx := fun i => hfr.ok.argLt i
  have he0 : f.reach 250 = max (endA (f.arg 2) (f.arg 3)) (endA (f.arg 4) (f.arg 5)) := by simp [AFrame.reach]
  rw [he0]
  clear he0
  have HR := fun W => mReach2 (f.arg 2) (f.arg 3) (f.arg 4) (f.arg 5) W (hx _) (hx _) (hx _) (hx _)
  go_enter Hvah.func276, Hvah.ntmps276
  go_wp2_with (first | (go_at_call_of 273 (Value.int IntKind.i64 2); refine (mArg (h.ext (by (repeat (first | with_reducible exact Ext.refl _ | with_reducible assumption | refine Ext.trans ?_ (by with_reducible assumption) | refine Ext.alloc ?_ _ _ | refine Ext.drew ?_ | refine Ext.drewN ?_ _)))) hst 2 (by decide)).mono ?_; rintro e w1 ⟨rfl, he⟩) | (go_at_call_of 273 (Value.int IntKind.i64 3); refine (mArg (h.ext (by (repeat (first | with_reducible exact Ext.refl _ | with_reducible assumption | refine Ext.trans ?_ (by with_reducible assumption) | refine Ext.alloc ?_ _ _ | refine Ext.drew ?_ | refine Ext.drewN ?_ _)))) hst 3 (by decide)).mono ?_; rintro e w1 ⟨rfl, he⟩) | (go_at_call_of 273 (Value.int IntKind.i64 4); refine (mArg (h.ext (by (repeat (first | with_reducible exact Ext.refl _ | with_reducible assumption | refine Ext.trans ?_ (by with_reducible assumption) | refine Ext.alloc ?_ _ _ | refine Ext.drew ?_ | refine Ext.drewN ?_ _)))) hst 4 (by decide)).mono ?_; rintro e w1 ⟨rfl, he⟩) | (go_at_call_of 273 (Value.int IntKind.i64 5); refine (mArg (h.ext (by (repeat (first | with_reducible exact Ext.refl _ | with_reducible assumption | refine Ext.trans ?_ (by with_reducible assumption) | refine Ext.alloc ?_ _ _ | refine Ext.drew ?_ | refine Ext.drewN ?_ _)))) hst 5 (by decide)).mono ?_; rintro e w1 ⟨rfl, he⟩) | (go_at_call 371; refine (HR _).mono ?_; rintro e w2 ⟨k, rfl, hk, he2⟩))
  go_ret2
  exact ⟨k, rfl, hk, by (repeat (first | with_reducible exact Ext.refl _ | with_reducible assumption | refine Ext.trans ?_ (by with_reducible assumption) | refine Ext.alloc ?_ _ _ | refine Ext.drew ?_ | refine Ext.drewN ?_ _))⟩
set_option maxRecDepth 100000 in
set_option maxHeartbeats 6400000 in
theorem mReachesF (_h : MRep own w g c V st (s :: sn) stale) (_hst : st.frames = f :: rest) (o : Nat) (ho : o < 256) (h32 : o ≠ 32) (h243 : o ≠ 243) (h253 : o ≠ 253) (h160 : o ≠ 160) (h161 : o ≠ 161) (h162 : o ≠ 162) (h163 : o ≠ 163) (h164 : o ≠ 164) (h55 : o ≠ 55) (h57 : o ≠ 57) (h62 : o ≠ 62) (h60 : o ≠ 60) (h81 : o ≠ 81) (h82 : o ≠ 82) (h83 : o ≠ 83) (h94 : o ≠ 94) (h240 : o ≠ 240) (h245 : o ≠ 245) (h241 : o ≠ 241) (h242 : o ≠ 242) (h244 : o ≠ 244) (h250 : o ≠ 250) : Calls Hvah.prog 276 #[.pointer (some ⟨g, 0, none⟩), .pointer (some ⟨g, 1803 + rest.length * 65, none⟩), .int .u8 o] w fun e w' => ∃ k : Nat, e = .returned (.tuple #[.int .u64 k, .bool (decide (f.reach o ≤ 717280))]) ∧ (f.reach o ≤ 717280 → k = wordsA (f.reach o)) ∧ Ext w w' := by
  have he0 : f.reach o = 0 := by
    unfold AFrame.reach
    repeat (first | rw [if_neg (by omega)])
  rw [he0]
  clear he0
  have i32 : ((o : Int) == 32) = false := by rw [beq_eq_false_iff_ne]; omega
  have i243 : ((o : Int) == 243) = false := by rw [beq_eq_false_iff_ne]; omega
  have i253 : ((o : Int) == 253) = false := by rw [beq_eq_false_iff_ne]; omega
  have i160 : ((o : Int) == 160) = false := by rw [beq_eq_false_iff_ne]; omega
  have i161 : ((o : Int) == 161) = false := by rw [beq_eq_false_iff_ne]; omega
  have i162 : ((o : Int) == 162) = false := by rw [beq_eq_false_iff_ne]; omega
  have i163 : ((o : Int) == 163) = false := by rw [beq_eq_false_iff_ne]; omega
  have i164 : ((o : Int) == 164) = false := by rw [beq_eq_false_iff_ne]; omega
  have i55 : ((o : Int) == 55) = false := by rw [beq_eq_false_iff_ne]; omega
  have i57 : ((o : Int) == 57) = false := by rw [beq_eq_false_iff_ne]; omega
  have i62 : ((o : Int) == 62) = false := by rw [beq_eq_false_iff_ne]; omega
  have i60 : ((o : Int) == 60) = false := by rw [beq_eq_false_iff_ne]; omega
  have i81 : ((o : Int) == 81) = false := by rw [beq_eq_false_iff_ne]; omega
  have i82 : ((o : Int) == 82) = false := by rw [beq_eq_false_iff_ne]; omega
  have i83 : ((o : Int) == 83) = false := by rw [beq_eq_false_iff_ne]; omega
  have i94 : ((o : Int) == 94) = false := by rw [beq_eq_false_iff_ne]; omega
  have i240 : ((o : Int) == 240) = false := by rw [beq_eq_false_iff_ne]; omega
  have i245 : ((o : Int) == 245) = false := by rw [beq_eq_false_iff_ne]; omega
  have i241 : ((o : Int) == 241) = false := by rw [beq_eq_false_iff_ne]; omega
  have i242 : ((o : Int) == 242) = false := by rw [beq_eq_false_iff_ne]; omega
  have i244 : ((o : Int) == 244) = false := by rw [beq_eq_false_iff_ne]; omega
  have i250 : ((o : Int) == 250) = false := by rw [beq_eq_false_iff_ne]; omega
  go_enter Hvah.func276, Hvah.ntmps276
  go_wp2
  go_ret2
  exact ⟨0, rfl, fun _ => rfl, by (repeat (first | with_reducible exact Ext.refl _ | with_reducible assumption | refine Ext.trans ?_ (by with_reducible assumption) | refine Ext.alloc ?_ _ _ | refine Ext.drew ?_ | refine Ext.drewN ?_ _))⟩
theorem mReaches (h : MRep own w g c V st (s :: sn) stale) (hst : st.frames = f :: rest) (o : Nat) (ho : o < 256) : Calls Hvah.prog 276 #[.pointer (some ⟨g, 0, none⟩), .pointer (some ⟨g, 1803 + rest.length * 65, none⟩), .int .u8 o] w fun e w' => ∃ k : Nat, e = .returned (.tuple #[.int .u64 k, .bool (decide (f.reach o ≤ 717280))]) ∧ (f.reach o ≤ 717280 → k = wordsA (f.reach o)) ∧ Ext w w' := by
  by_cases h32 : o = 32
  · subst h32; exact mReaches32 h hst
  by_cases h243 : o = 243
  · subst h243; exact mReaches243 h hst
  by_cases h253 : o = 253
  · subst h253; exact mReaches253 h hst
  by_cases h160 : o = 160
  · subst h160; exact mReaches160 h hst
  by_cases h161 : o = 161
  · subst h161; exact mReaches161 h hst
  by_cases h162 : o = 162
  · subst h162; exact mReaches162 h hst
  by_cases h163 : o = 163
  · subst h163; exact mReaches163 h hst
  by_cases h164 : o = 164
  · subst h164; exact mReaches164 h hst
  by_cases h55 : o = 55
  · subst h55; exact mReaches55 h hst
  by_cases h57 : o = 57
  · subst h57; exact mReaches57 h hst
  by_cases h62 : o = 62
  · subst h62; exact mReaches62 h hst
  by_cases h60 : o = 60
  · subst h60; exact mReaches60 h hst
  by_cases h81 : o = 81
  · subst h81; exact mReaches81 h hst
  by_cases h82 : o = 82
  · subst h82; exact mReaches82 h hst
  by_cases h83 : o = 83
  · subst h83; exact mReaches83 h hst
  by_cases h94 : o = 94
  · subst h94; exact mReaches94 h hst
  by_cases h240 : o = 240
  · subst h240; exact mReaches240 h hst
  by_cases h245 : o = 245
  · subst h245; exact mReaches245 h hst
  by_cases h241 : o = 241
  · subst h241; exact mReaches241 h hst
  by_cases h242 : o = 242
  · subst h242; exact mReaches242 h hst
  by_cases h244 : o = 244
  · subst h244; exact mReaches244 h hst
  by_cases h250 : o = 250
  · subst h250; exact mReaches250 h hst
  exact mReachesF h hst o ho h32 h243 h253 h160 h161 h162 h163 h164 h55 h57 h62 h60 h81 h82 h83 h94 h240 h245 h241 h242 h244 h250
end
end Go.Proofs.YgvahwGreat
