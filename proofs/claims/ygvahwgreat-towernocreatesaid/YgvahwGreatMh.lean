import Derived.Test.YgvahwGreatMg
namespace Go.Proofs.YgvahwGreat
open Go.RowKit
set_option linter.unusedSimpArgs false
/-- The part of the gas that hangs on operands and state. -/
def dynA (st : ASt) (f : AFrame) (o : Nat) : Nat :=
  if o = 10 then expCostA (f.arg 1) - 10
  else if o = 32 then 6 * wordsA (f.arg 1)
  else if o = 55 ∨ o = 57 ∨ o = 62 ∨ o = 94 then copyCostA (f.arg 2)
  else if o = 49 ∨ o = 59 ∨ o = 63 then st.now.access (addrA (f.arg 0))
  else if o = 60 then st.now.access (addrA (f.arg 0)) + copyCostA (f.arg 3)
  else if 160 ≤ o ∧ o ≤ 164 then 8 * f.arg 1
  else if o = 84 then (if st.now.warmS f.self (f.arg 0) then 100 else 2100)
  else if o = 85 then sstoreCost (st.orig f.self (f.arg 0)) (st.now.slot f.self (f.arg 0)) (f.arg 1) (!st.now.warmS f.self (f.arg 0))
  else if o = 240 then 2 * wordsA (f.arg 2) else if o = 245 then 8 * wordsA (f.arg 2)
  else if o = 244 ∨ o = 250 then st.now.access (addrA (f.arg 1))
  else if o = 255 then st.destroyCost f - 5000
  else if o = 241 ∨ o = 242 then st.now.access (addrA (f.arg 1)) + (if f.arg 2 ≠ 0 then 9000 + (if o = 241 ∧ st.now.empty (addrA (f.arg 1)) then 25000 else 0) else 0)
  else 0
section
variable {own : Nat → Nat} {w : World} {g : Nat} {c : Nat → Value} {V : EV} {st : ASt} {sn stale : List Nat} {s : Nat} {f : AFrame} {rest : List AFrame}
set_option maxRecDepth 100000 in
set_option maxHeartbeats 6400000 in
theorem mDyn10 (h : MRep own w g c V st (s :: sn) stale) (hst : st.frames = f :: rest)  : Calls Hvah.prog 278 #[.pointer (some ⟨g, 0, none⟩), .pointer (some ⟨g, 1803 + rest.length * 65, none⟩), .int .u8 10] w fun e w' => e = .returned (.int .u64 (dynA st f 10 : Nat)) ∧ Ext w w' := by
  obtain ⟨hfr, hr7⟩ := h.frame hst
  have hx := fun i => hfr.ok.argLt i
  have he0 : dynA st f 10 = expCostA (f.arg 1) - 10 := by simp [dynA]
  rw [he0]
  clear he0
  have HA1 := fun W (hW : Ext w W) => mArg (h.ext hW) hst 1 (by decide)
  have HEc := fun W => mExpCost (f.arg 1) W (hx 1)
  have hb : 10 ≤ expCostA (f.arg 1) ∧ expCostA (f.arg 1) ≤ 2000 := by have := dl_P256 (hx 1); unfold expCostA; omega
  generalize expCostA (f.arg 1) = k at *
  have hwr : IntKind.u64.wrap ((k : Int) - 10) = ((k - 10 : Nat) : Int) := by rw [IntKind.wrap_u64]; omega
  go_enter Hvah.func278, Hvah.ntmps278
  go_wp2_with (first | (go_at_call_of 273 (Value.int IntKind.i64 1); refine (HA1 _ (by (repeat (first | with_reducible exact Ext.refl _ | with_reducible assumption | refine Ext.trans ?_ (by with_reducible assumption) | refine Ext.alloc ?_ _ _ | refine Ext.drew ?_ | refine Ext.drewN ?_ _)))).mono ?_; rintro e w1 ⟨rfl, he⟩) | (go_at_call 373; refine (HEc _).mono ?_; rintro e w1 ⟨rfl, he⟩))
  go_ret
  exact ⟨rfl, by (repeat (first | with_reducible exact Ext.refl _ | with_reducible assumption | refine Ext.trans ?_ (by with_reducible assumption) | refine Ext.alloc ?_ _ _ | refine Ext.drew ?_ | refine Ext.drewN ?_ _))⟩
set_option maxRecDepth 100000 in
set_option maxHeartbeats 6400000 in
theorem mDyn32 (h : MRep own w g c V st (s :: sn) stale) (hst : st.frames = f :: rest) (hl : f.arg 1 ≤ 717280) : Calls Hvah.prog 278 #[.pointer (some ⟨g, 0, none⟩), .pointer (some ⟨g, 1803 + rest.length * 65, none⟩), .int .u8 32] w fun e w' => e = .returned (.int .u64 (dynA st f 32 : Nat)) ∧ Ext w w' := by
  obtain ⟨hfr, hr7⟩ := h.frame hst
  have hx := fun i => hfr.ok.argLt i
  have he0 : dynA st f 32 = 6 * wordsA (f.arg 1) := by simp [dynA]
  rw [he0]
  clear he0
  have HA1 := fun W (hW : Ext w W) => mArg (h.ext hW) hst 1 (by decide)
  have HL := fun W => mLength (f.arg 1) W (hx 1)
  have hlw : low64 (f.arg 1) = f.arg 1 := by unfold low64; rw [if_pos (by omega)]
  rw [hlw] at HL
  clear hlw
  have HWo := fun W => mWords (f.arg 1) (by omega) W
  have hq : (f.arg 1 + 31) / 32 ≤ 30000 := by omega
  have he1 : 6 * wordsA (f.arg 1) = 6 * ((f.arg 1 + 31) / 32) := rfl
  rw [he1]
  clear he1
  generalize (f.arg 1 + 31) / 32 = k at *
  have hwr : IntKind.u64.wrap (6 * (k : Int)) = ((6 * k : Nat) : Int) := by rw [IntKind.wrap_u64]; omega
  go_enter Hvah.func278, Hvah.ntmps278
  go_wp2_with (first | (go_at_call_of 273 (Value.int IntKind.i64 1); refine (HA1 _ (by (repeat (first | with_reducible exact Ext.refl _ | with_reducible assumption | refine Ext.trans ?_ (by with_reducible assumption) | refine Ext.alloc ?_ _ _ | refine Ext.drew ?_ | refine Ext.drewN ?_ _)))).mono ?_; rintro e w1 ⟨rfl, he⟩) | (go_at_call 374; refine (HL _).mono ?_; rintro e w1 ⟨rfl, he⟩) | (go_at_call 176; refine (HWo _).mono ?_; rintro e w1 ⟨rfl, hww⟩; replace hww := hww.symm; subst hww))
  go_ret
  exact ⟨rfl, by (repeat (first | with_reducible exact Ext.refl _ | with_reducible assumption | refine Ext.trans ?_ (by with_reducible assumption) | refine Ext.alloc ?_ _ _ | refine Ext.drew ?_ | refine Ext.drewN ?_ _))⟩
set_option maxRecDepth 100000 in
set_option maxHeartbeats 6400000 in
theorem mDyn55 (h : MRep own w g c V st (s :: sn) stale) (hst : st.frames = f :: rest) (hl : f.arg 2 ≤ 717280) : Calls Hvah.prog 278 #[.pointer (some ⟨g, 0, none⟩), .pointer (some ⟨g, 1803 + rest.length * 65, none⟩), .int .u8 55] w fun e w' => e = .returned (.int .u64 (dynA st f 55 : Nat)) ∧ Ext w w' := by
  obtain ⟨hfr, hr7⟩ := h.frame hst
  have hx := fun i => hfr.ok.argLt i
  have he0 : dynA st f 55 = copyCostA (f.arg 2) := by simp [dynA]
  rw [he0]
  clear he0
  have HA2 := fun W (hW : Ext w W) => mArg (h.ext hW) hst 2 (by decide)
  have HL := fun W => mLength (f.arg 2) W (hx 2)
  have hlw : low64 (f.arg 2) = f.arg 2 := by unfold low64; rw [if_pos (by omega)]
  rw [hlw] at HL
  clear hlw
  have HCc := fun W => mCopyCost (f.arg 2) W (by omega)
  go_enter Hvah.func278, Hvah.ntmps278
  go_wp2_with (first | (go_at_call_of 273 (Value.int IntKind.i64 2); refine (HA2 _ (by (repeat (first | with_reducible exact Ext.refl _ | with_reducible assumption | refine Ext.trans ?_ (by with_reducible assumption) | refine Ext.alloc ?_ _ _ | refine Ext.drew ?_ | refine Ext.drewN ?_ _)))).mono ?_; rintro e w1 ⟨rfl, he⟩) | (go_at_call 374; refine (HL _).mono ?_; rintro e w1 ⟨rfl, he⟩) | (go_at_call 375; refine (HCc _).mono ?_; rintro e w1 ⟨rfl, hww⟩; replace hww := hww.symm; subst hww))
  go_ret
  exact ⟨rfl, by (repeat (first | with_reducible exact Ext.refl _ | with_reducible assumption | refine Ext.trans ?_ (by with_reducible assumption) | refine Ext.alloc ?_ _ _ | refine Ext.drew ?_ | refine Ext.drewN ?_ _))⟩
set_option maxRecDepth 100000 in
set_option maxHeartbeats 6400000 in
theorem mDyn57 (h : MRep own w g c V st (s :: sn) stale) (hst : st.frames = f :: rest) (hl : f.arg 2 ≤ 717280) : Calls Hvah.prog 278 #[.pointer (some ⟨g, 0, none⟩), .pointer (some ⟨g, 1803 + rest.length * 65, none⟩), .int .u8 57] w fun e w' => e = .returned (.int .u64 (dynA st f 57 : Nat)) ∧ Ext w w' := by
  obtain ⟨hfr, hr7⟩ := h.frame hst
  have hx := fun i => hfr.ok.argLt i
  have he0 : dynA st f 57 = copyCostA (f.arg 2) := by simp [dynA]
  rw [he0]
  clear he0
  have HA2 := fun W (hW : Ext w W) => mArg (h.ext hW) hst 2 (by decide)
  have HL := fun W => mLength (f.arg 2) W (hx 2)
  have hlw : low64 (f.arg 2) = f.arg 2 := by unfold low64; rw [if_pos (by omega)]
  rw [hlw] at HL
  clear hlw
  have HCc := fun W => mCopyCost (f.arg 2) W (by omega)
  go_enter Hvah.func278, Hvah.ntmps278
  go_wp2_with (first | (go_at_call_of 273 (Value.int IntKind.i64 2); refine (HA2 _ (by (repeat (first | with_reducible exact Ext.refl _ | with_reducible assumption | refine Ext.trans ?_ (by with_reducible assumption) | refine Ext.alloc ?_ _ _ | refine Ext.drew ?_ | refine Ext.drewN ?_ _)))).mono ?_; rintro e w1 ⟨rfl, he⟩) | (go_at_call 374; refine (HL _).mono ?_; rintro e w1 ⟨rfl, he⟩) | (go_at_call 375; refine (HCc _).mono ?_; rintro e w1 ⟨rfl, hww⟩; replace hww := hww.symm; subst hww))
  go_ret
  exact ⟨rfl, by (repeat (first | with_reducible exact Ext.refl _ | with_reducible assumption | refine Ext.trans ?_ (by with_reducible assumption) | refine Ext.alloc ?_ _ _ | refine Ext.drew ?_ | refine Ext.drewN ?_ _))⟩
set_option maxRecDepth 100000 in
set_option maxHeartbeats 6400000 in
theorem mDyn62 (h : MRep own w g c V st (s :: sn) stale) (hst : st.frames = f :: rest) (hl : f.arg 2 ≤ 717280) : Calls Hvah.prog 278 #[.pointer (some ⟨g, 0, none⟩), .pointer (some ⟨g, 1803 + rest.length * 65, none⟩), .int .u8 62] w fun e w' => e = .returned (.int .u64 (dynA st f 62 : Nat)) ∧ Ext w w' := by
  obtain ⟨hfr, hr7⟩ := h.frame hst
  have hx := fun i => hfr.ok.argLt i
  have he0 : dynA st f 62 = copyCostA (f.arg 2) := by simp [dynA]
  rw [he0]
  clear he0
  have HA2 := fun W (hW : Ext w W) => mArg (h.ext hW) hst 2 (by decide)
  have HL := fun W => mLength (f.arg 2) W (hx 2)
  have hlw : low64 (f.arg 2) = f.arg 2 := by unfold low64; rw [if_pos (by omega)]
  rw [hlw] at HL
  clear hlw
  have HCc := fun W => mCopyCost (f.arg 2) W (by omega)
  go_enter Hvah.func278, Hvah.ntmps278
  go_wp2_with (first | (go_at_call_of 273 (Value.int IntKind.i64 2); refine (HA2 _ (by (repeat (first | with_reducible exact Ext.refl _ | with_reducible assumption | refine Ext.trans ?_ (by with_reducible assumption) | refine Ext.alloc ?_ _ _ | refine Ext.drew ?_ | refine Ext.drewN ?_ _)))).mono ?_; rintro e w1 ⟨rfl, he⟩) | (go_at_call 374; refine (HL _).mono ?_; rintro e w1 ⟨rfl, he⟩) | (go_at_call 375; refine (HCc _).mono ?_; rintro e w1 ⟨rfl, hww⟩; replace hww := hww.symm; subst hww))
  go_ret
  exact ⟨rfl, by (repeat (first | with_reducible exact Ext.refl _ | with_reducible assumption | refine Ext.trans ?_ (by with_reducible assumption) | refine Ext.alloc ?_ _ _ | refine Ext.drew ?_ | refine Ext.drewN ?_ _))⟩
set_option maxRecDepth 100000 in
set_option maxHeartbeats 6400000 in
theorem mDyn94 (h : MRep own w g c V st (s :: sn) stale) (hst : st.frames = f :: rest) (hl : f.arg 2 ≤ 717280) : Calls Hvah.prog 278 #[.pointer (some ⟨g, 0, none⟩), .pointer (some ⟨g, 1803 + rest.length * 65, none⟩), .int .u8 94] w fun e w' => e = .returned (.int .u64 (dynA st f 94 : Nat)) ∧ Ext w w' := by
  obtain ⟨hfr, hr7⟩ := h.frame hst
  have hx := fun i => hfr.ok.argLt i
  have he0 : dynA st f 94 = copyCostA (f.arg 2) := by simp [dynA]
  rw [he0]
  clear he0
  have HA2 := fun W (hW : Ext w W) => mArg (h.ext hW) hst 2 (by decide)
  have HL := fun W => mLength (f.arg 2) W (hx 2)
  have hlw : low64 (f.arg 2) = f.arg 2 := by unfold low64; rw [if_pos (by omega)]
  rw [hlw] at HL
  clear hlw
  have HCc := fun W => mCopyCost (f.arg 2) W (by omega)
  go_enter Hvah.func278, Hvah.ntmps278
  go_wp2_with (first | (go_at_call_of 273 (Value.int IntKind.i64 2); refine (HA2 _ (by (repeat (first | with_reducible exact Ext.refl _ | with_reducible assumption | refine Ext.trans ?_ (by with_reducible assumption) | refine Ext.alloc ?_ _ _ | refine Ext.drew ?_ | refine Ext.drewN ?_ _)))).mono ?_; rintro e w1 ⟨rfl, he⟩) | (go_at_call 374; refine (HL _).mono ?_; rintro e w1 ⟨rfl, he⟩) | (go_at_call 375; refine (HCc _).mono ?_; rintro e w1 ⟨rfl, hww⟩; replace hww := hww.symm; subst hww))
  go_ret
  exact ⟨rfl, by (repeat (first | with_reducible exact Ext.refl _ | with_reducible assumption | refine Ext.trans ?_ (by with_reducible assumption) | refine Ext.alloc ?_ _ _ | refine Ext.drew ?_ | refine Ext.drewN ?_ _))⟩
set_option maxRecDepth 100000 in
set_option maxHeartbeats 6400000 in
theorem mDyn49 (h : MRep own w g c V st (s :: sn) stale) (hst : st.frames = f :: rest)  : Calls Hvah.prog 278 #[.pointer (some ⟨g, 0, none⟩), .pointer (some ⟨g, 1803 + rest.length * 65, none⟩), .int .u8 49] w fun e w' => e = .returned (.int .u64 (dynA st f 49 : Nat)) ∧ Ext w w' := by
  obtain ⟨hfr, hr7⟩ := h.frame hst
  have hx := fun i => hfr.ok.argLt i
  have he0 : dynA st f 49 = st.now.access (addrA (f.arg 0)) := by simp [dynA]
  rw [he0]
  clear he0
  have HA0 := fun W (hW : Ext w W) => mArg (h.ext hW) hst 0 (by decide)
  have HAc := fun W (hW : Ext w W) => mAccess (h.ext hW) (f.arg 0) (hx 0)
  go_enter Hvah.func278, Hvah.ntmps278
  go_wp2_with (first | (go_at_call_of 273 (Value.int IntKind.i64 0); refine (HA0 _ (by (repeat (first | with_reducible exact Ext.refl _ | with_reducible assumption | refine Ext.trans ?_ (by with_reducible assumption) | refine Ext.alloc ?_ _ _ | refine Ext.drew ?_ | refine Ext.drewN ?_ _)))).mono ?_; rintro e w1 ⟨rfl, he⟩) | (go_at_call 376; refine (HAc _ (by (repeat (first | with_reducible exact Ext.refl _ | with_reducible assumption | refine Ext.trans ?_ (by with_reducible assumption) | refine Ext.alloc ?_ _ _ | refine Ext.drew ?_ | refine Ext.drewN ?_ _)))).mono ?_; rintro e w1 ⟨rfl, he⟩))
  go_ret
  exact ⟨rfl, by (repeat (first | with_reducible exact Ext.refl _ | with_reducible assumption | refine Ext.trans ?_ (by with_reducible assumption) | refine Ext.alloc ?_ _ _ | refine Ext.drew ?_ | refine Ext.drewN ?_ _))⟩
set_option maxRecDepth 100000 in
set_option maxHeartbeats 6400000 in
theorem mDyn59 (h : MRep own w g c V st (s :: sn) stale) (hst : st.frames = f :: rest)  : Calls Hvah.prog 278 #[.pointer (some ⟨g, 0, none⟩), .pointer (some ⟨g, 1803 + rest.length * 65, none⟩), .int .u8 59] w fun e w' => e = .returned (.int .u64 (dynA st f 59 : Nat)) ∧ Ext w w' := by
  obtain ⟨hfr, hr7⟩ := h.frame hst
  have hx := fun i => hfr.ok.argLt i
  have he0 : dynA st f 59 = st.now.access (addrA (f.arg 0)) := by simp [dynA]
  rw [he0]
  clear he0
  have HA0 := fun W (hW : Ext w W) => mArg (h.ext hW) hst 0 (by decide)
  have HAc := fun W (hW : Ext w W) => mAccess (h.ext hW) (f.arg 0) (hx 0)
  go_enter Hvah.func278, Hvah.ntmps278
  go_wp2_with (first | (go_at_call_of 273 (Value.int IntKind.i64 0); refine (HA0 _ (by (repeat (first | with_reducible exact Ext.refl _ | with_reducible assumption | refine Ext.trans ?_ (by with_reducible assumption) | refine Ext.alloc ?_ _ _ | refine Ext.drew ?_ | refine Ext.drewN ?_ _)))).mono ?_; rintro e w1 ⟨rfl, he⟩) | (go_at_call 376; refine (HAc _ (by (repeat (first | with_reducible exact Ext.refl _ | with_reducible assumption | refine Ext.trans ?_ (by with_reducible assumption) | refine Ext.alloc ?_ _ _ | refine Ext.drew ?_ | refine Ext.drewN ?_ _)))).mono ?_; rintro e w1 ⟨rfl, he⟩))
  go_ret
  exact ⟨rfl, by (repeat (first | with_reducible exact Ext.refl _ | with_reducible assumption | refine Ext.trans ?_ (by with_reducible assumption) | refine Ext.alloc ?_ _ _ | refine Ext.drew ?_ | refine Ext.drewN ?_ _))⟩
set_option maxRecDepth 100000 in
set_option maxHeartbeats 6400000 in
theorem mDyn63 (h : MRep own w g c V st (s :: sn) stale) (hst : st.frames = f :: rest)  : Calls Hvah.prog 278 #[.pointer (some ⟨g, 0, none⟩), .pointer (some ⟨g, 1803 + rest.length * 65, none⟩), .int .u8 63] w fun e w' => e = .returned (.int .u64 (dynA st f 63 : Nat)) ∧ Ext w w' := by
  obtain ⟨hfr, hr7⟩ := h.frame hst
  have hx := fun i => hfr.ok.argLt i
  have he0 : dynA st f 63 = st.now.access (addrA (f.arg 0)) := by simp [dynA]
  rw [he0]
  clear he0
  have HA0 := fun W (hW : Ext w W) => mArg (h.ext hW) hst 0 (by decide)
  have HAc := fun W (hW : Ext w W) => mAccess (h.ext hW) (f.arg 0) (hx 0)
  go_enter Hvah.func278, Hvah.ntmps278
  go_wp2_with (first | (go_at_call_of 273 (Value.int IntKind.i64 0); refine (HA0 _ (by (repeat (first | with_reducible exact Ext.refl _ | with_reducible assumption | refine Ext.trans ?_ (by with_reducible assumption) | refine Ext.alloc ?_ _ _ | refine Ext.drew ?_ | refine Ext.drewN ?_ _)))).mono ?_; rintro e w1 ⟨rfl, he⟩) | (go_at_call 376; refine (HAc _ (by (repeat (first | with_reducible exact Ext.refl _ | with_reducible assumption | refine Ext.trans ?_ (by with_reducible assumption) | refine Ext.alloc ?_ _ _ | refine Ext.drew ?_ | refine Ext.drewN ?_ _)))).mono ?_; rintro e w1 ⟨rfl, he⟩))
  go_ret
  exact ⟨rfl, by (repeat (first | with_reducible exact Ext.refl _ | with_reducible assumption | refine Ext.trans ?_ (by with_reducible assumption) | refine Ext.alloc ?_ _ _ | refine Ext.drew ?_ | refine Ext.drewN ?_ _))⟩
set_option maxRecDepth 100000 in
set_option maxHeartbeats 6400000 in
theorem mDyn244 (h : MRep own w g c V st (s :: sn) stale) (hst : st.frames = f :: rest)  : Calls Hvah.prog 278 #[.pointer (some ⟨g, 0, none⟩), .pointer (some ⟨g, 1803 + rest.length * 65, none⟩), .int .u8 244] w fun e w' => e = .returned (.int .u64 (dynA st f 244 : Nat)) ∧ Ext w w' := by
  obtain ⟨hfr, hr7⟩ := h.frame hst
  have hx := fun i => hfr.ok.argLt i
  have he0 : dynA st f 244 = st.now.access (addrA (f.arg 1)) := by simp [dynA]
  rw [he0]
  clear he0
  have HA1 := fun W (hW : Ext w W) => mArg (h.ext hW) hst 1 (by decide)
  have HAc := fun W (hW : Ext w W) => mAccess (h.ext hW) (f.arg 1) (hx 1)
  go_enter Hvah.func278, Hvah.ntmps278
  go_wp2_with (first | (go_at_call_of 273 (Value.int IntKind.i64 1); refine (HA1 _ (by (repeat (first | with_reducible exact Ext.refl _ | with_reducible assumption | refine Ext.trans ?_ (by with_reducible assumption) | refine Ext.alloc ?_ _ _ | refine Ext.drew ?_ | refine Ext.drewN ?_ _)))).mono ?_; rintro e w1 ⟨rfl, he⟩) | (go_at_call 376; refine (HAc _ (by (repeat (first | with_reducible exact Ext.refl _ | with_reducible assumption | refine Ext.trans ?_ (by with_reducible assumption) | refine Ext.alloc ?_ _ _ | refine Ext.drew ?_ | refine Ext.drewN ?_ _)))).mono ?_; rintro e w1 ⟨rfl, he⟩))
  go_ret
  exact ⟨rfl, by (repeat (first | with_reducible exact Ext.refl _ | with_reducible assumption | refine Ext.trans ?_ (by with_reducible assumption) | refine Ext.alloc ?_ _ _ | refine Ext.drew ?_ | refine Ext.drewN ?_ _))⟩
set_option maxRecDepth 100000 in
set_option maxHeartbeats 6400000 in
theorem mDyn250 (h : MRep own w g c V st (s :: sn) stale) (hst : st.frames = f :: rest)  : Calls Hvah.prog 278 #[.pointer (some ⟨g, 0, none⟩), .pointer (some ⟨g, 1803 + rest.length * 65, none⟩), .int .u8 250] w fun e w' => e = .returned (.int .u64 (dynA st f 250 : Nat)) ∧ Ext w w' := by
  obtain ⟨hfr, hr7⟩ := h.frame hst
  have hx := fun i => hfr.ok.argLt i
  have he0 : dynA st f 250 = st.now.access (addrA (f.arg 1)) := by simp [dynA]
  rw [he0]
  clear he0
  have HA1 := fun W (hW : Ext w W) => mArg (h.ext hW) hst 1 (by decide)
  have HAc := fun W (hW : Ext w W) => mAccess (h.ext hW) (f.arg 1) (hx 1)
  go_enter Hvah.func278, Hvah.ntmps278
  go_wp2_with (first | (go_at_call_of 273 (Value.int IntKind.i64 1); refine (HA1 _ (by (repeat (first | with_reducible exact Ext.refl _ | with_reducible assumption | refine Ext.trans ?_ (by with_reducible assumption) | refine Ext.alloc ?_ _ _ | refine Ext.drew ?_ | refine Ext.drewN ?_ _)))).mono ?_; rintro e w1 ⟨rfl, he⟩) | (go_at_call 376; refine (HAc _ (by (repeat (first | with_reducible exact Ext.refl _ | with_reducible assumption | refine Ext.trans ?_ (by with_reducible assumption) | refine Ext.alloc ?_ _ _ | refine Ext.drew ?_ | refine Ext.drewN ?_ _)))).mono ?_; rintro e w1 ⟨rfl, he⟩))
  go_ret
  exact ⟨rfl, by (repeat (first | with_reducible exact Ext.refl _ | with_reducible assumption | refine Ext.trans ?_ (by with_reducible assumption) | refine Ext.alloc ?_ _ _ | refine Ext.drew ?_ | refine Ext.drewN ?_ _))⟩
set_option maxRecDepth 100000 in
set_option maxHeartbeats 6400000 in
theorem mDyn60 (h : MRep own w g c V st (s :: sn) stale) (hst : st.frames = f :: rest) (hl : f.arg 3 ≤ 717280) : Calls Hvah.prog 278 #[.pointer (some ⟨g, 0, none⟩), .pointer (some ⟨g, 1803 + rest.length * 65, none⟩), .int .u8 60] w fun e w' => e = .returned (.int .u64 (dynA st f 60 : Nat)) ∧ Ext w w' := by
  obtain ⟨hfr, hr7⟩ := h.frame hst
  have hx := fun i => hfr.ok.argLt i
  have he0 : dynA st f 60 = st.now.access (addrA (f.arg 0)) + copyCostA (f.arg 3) := by simp [dynA]
  rw [he0]
  clear he0
  have HA0 := fun W (hW : Ext w W) => mArg (h.ext hW) hst 0 (by decide)
  have HA3 := fun W (hW : Ext w W) => mArg (h.ext hW) hst 3 (by decide)
  have HAc := fun W (hW : Ext w W) => mAccess (h.ext hW) (f.arg 0) (hx 0)
  have HL := fun W => mLength (f.arg 3) W (hx 3)
  have hlw : low64 (f.arg 3) = f.arg 3 := by unfold low64; rw [if_pos (by omega)]
  rw [hlw] at HL
  clear hlw
  have HCc := fun W => mCopyCost (f.arg 3) W (by omega)
  have hb1 : st.now.access (addrA (f.arg 0)) ≤ 2600 := by unfold AW.access; split <;> omega
  have hb2 : copyCostA (f.arg 3) ≤ 100000 := by unfold copyCostA wordsA; omega
  generalize st.now.access (addrA (f.arg 0)) = k1 at *
  generalize copyCostA (f.arg 3) = k2 at *
  have hwr : IntKind.u64.wrap ((k1 : Int) + k2) = ((k1 + k2 : Nat) : Int) := by rw [IntKind.wrap_u64]; omega
  go_enter Hvah.func278, Hvah.ntmps278
  go_wp2_with (first | (go_at_call_of 273 (Value.int IntKind.i64 0); refine (HA0 _ (by (repeat (first | with_reducible exact Ext.refl _ | with_reducible assumption | refine Ext.trans ?_ (by with_reducible assumption) | refine Ext.alloc ?_ _ _ | refine Ext.drew ?_ | refine Ext.drewN ?_ _)))).mono ?_; rintro e w1 ⟨rfl, he⟩) | (go_at_call_of 273 (Value.int IntKind.i64 3); refine (HA3 _ (by (repeat (first | with_reducible exact Ext.refl _ | with_reducible assumption | refine Ext.trans ?_ (by with_reducible assumption) | refine Ext.alloc ?_ _ _ | refine Ext.drew ?_ | refine Ext.drewN ?_ _)))).mono ?_; rintro e w1 ⟨rfl, he⟩) | (go_at_call 374; refine (HL _).mono ?_; rintro e w1 ⟨rfl, he⟩) | (go_at_call 375; refine (HCc _).mono ?_; rintro e w1 ⟨rfl, hww⟩; replace hww := hww.symm; subst hww) | (go_at_call 376; refine (HAc _ (by (repeat (first | with_reducible exact Ext.refl _ | with_reducible assumption | refine Ext.trans ?_ (by with_reducible assumption) | refine Ext.alloc ?_ _ _ | refine Ext.drew ?_ | refine Ext.drewN ?_ _)))).mono ?_; rintro e w1 ⟨rfl, he⟩))
  go_ret
  exact ⟨rfl, by (repeat (first | with_reducible exact Ext.refl _ | with_reducible assumption | refine Ext.trans ?_ (by with_reducible assumption) | refine Ext.alloc ?_ _ _ | refine Ext.drew ?_ | refine Ext.drewN ?_ _))⟩
set_option maxRecDepth 100000 in
set_option maxHeartbeats 6400000 in
theorem mDyn160 (h : MRep own w g c V st (s :: sn) stale) (hst : st.frames = f :: rest) (hl : f.arg 1 ≤ 717280) : Calls Hvah.prog 278 #[.pointer (some ⟨g, 0, none⟩), .pointer (some ⟨g, 1803 + rest.length * 65, none⟩), .int .u8 160] w fun e w' => e = .returned (.int .u64 (dynA st f 160 : Nat)) ∧ Ext w w' := by
  obtain ⟨hfr, hr7⟩ := h.frame hst
  have hx := fun i => hfr.ok.argLt i
  have he0 : dynA st f 160 = 8 * f.arg 1 := by simp [dynA]
  rw [he0]
  clear he0
  have HA1 := fun W (hW : Ext w W) => mArg (h.ext hW) hst 1 (by decide)
  have HL := fun W => mLength (f.arg 1) W (hx 1)
  have hlw : low64 (f.arg 1) = f.arg 1 := by unfold low64; rw [if_pos (by omega)]
  rw [hlw] at HL
  clear hlw
  generalize f.arg 1 = k at *
  have hwr : IntKind.u64.wrap (8 * (k : Int)) = ((8 * k : Nat) : Int) := by rw [IntKind.wrap_u64]; omega
  go_enter Hvah.func278, Hvah.ntmps278
  go_wp2_with (first | (go_at_call_of 273 (Value.int IntKind.i64 1); refine (HA1 _ (by (repeat (first | with_reducible exact Ext.refl _ | with_reducible assumption | refine Ext.trans ?_ (by with_reducible assumption) | refine Ext.alloc ?_ _ _ | refine Ext.drew ?_ | refine Ext.drewN ?_ _)))).mono ?_; rintro e w1 ⟨rfl, he⟩) | (go_at_call 374; refine (HL _).mono ?_; rintro e w1 ⟨rfl, he⟩))
  go_ret
  exact ⟨rfl, by (repeat (first | with_reducible exact Ext.refl _ | with_reducible assumption | refine Ext.trans ?_ (by with_reducible assumption) | refine Ext.alloc ?_ _ _ | refine Ext.drew ?_ | refine Ext.drewN ?_ _))⟩
set_option maxRecDepth 100000 in
set_option maxHeartbeats 6400000 in
theorem mDyn161 (h : MRep own w g c V st (s :: sn) stale) (hst : st.frames = f :: rest) (hl : f.arg 1 ≤ 717280) : Calls Hvah.prog 278 #[.pointer (some ⟨g, 0, none⟩), .pointer (some ⟨g, 1803 + rest.length * 65, none⟩), .int .u8 161] w fun e w' => e = .returned (.int .u64 (dynA st f 161 : Nat)) ∧ Ext w w' := by
  obtain ⟨hfr, hr7⟩ := h.frame hst
  have hx := fun i => hfr.ok.argLt i
  have he0 : dynA st f 161 = 8 * f.arg 1 := by simp [dynA]
  rw [he0]
  clear he0
  have HA1 := fun W (hW : Ext w W) => mArg (h.ext hW) hst 1 (by decide)
  have HL := fun W => mLength (f.arg 1) W (hx 1)
  have hlw : low64 (f.arg 1) = f.arg 1 := by unfold low64; rw [if_pos (by omega)]
  rw [hlw] at HL
  clear hlw
  generalize f.arg 1 = k at *
  have hwr : IntKind.u64.wrap (8 * (k : Int)) = ((8 * k : Nat) : Int) := by rw [IntKind.wrap_u64]; omega
  go_enter Hvah.func278, Hvah.ntmps278
  go_wp2_with (first | (go_at_call_of 273 (Value.int IntKind.i64 1); refine (HA1 _ (by (repeat (first | with_reducible exact Ext.refl _ | with_reducible assumption | refine Ext.trans ?_ (by with_reducible assumption) | refine Ext.alloc ?_ _ _ | refine Ext.drew ?_ | refine Ext.drewN ?_ _)))).mono ?_; rintro e w1 ⟨rfl, he⟩) | (go_at_call 374; refine (HL _).mono ?_; rintro e w1 ⟨rfl, he⟩))
  go_ret
  exact ⟨rfl, by (repeat (first | with_reducible exact Ext.refl _ | with_reducible assumption | refine Ext.trans ?_ (by with_reducible assumption) | refine Ext.alloc ?_ _ _ | refine Ext.drew ?_ | refine Ext.drewN ?_ _))⟩
set_option maxRecDepth 100000 in
set_option maxHeartbeats 6400000 in
theorem mDyn162 (h : MRep own w g c V st (s :: sn) stale) (hst : st.frames = f :: rest) (hl : f.arg 1 ≤ 717280) : Calls Hvah.prog 278 #[.pointer (some ⟨g, 0, none⟩), .pointer (some ⟨g, 1803 + rest.length * 65, none⟩), .int .u8 162] w fun e w' => e = .returned (.int .u64 (dynA st f 162 : Nat)) ∧ Ext w w' := by
  obtain ⟨hfr, hr7⟩ := h.frame hst
  have hx := fun i => hfr.ok.argLt i
  have he0 : dynA st f 162 = 8 * f.arg 1 := by simp [dynA]
  rw [he0]
  clear he0
  have HA1 := fun W (hW : Ext w W) => mArg (h.ext hW) hst 1 (by decide)
  have HL := fun W => mLength (f.arg 1) W (hx 1)
  have hlw : low64 (f.arg 1) = f.arg 1 := by unfold low64; rw [if_pos (by omega)]
  rw [hlw] at HL
  clear hlw
  generalize f.arg 1 = k at *
  have hwr : IntKind.u64.wrap (8 * (k : Int)) = ((8 * k : Nat) : Int) := by rw [IntKind.wrap_u64]; omega
  go_enter Hvah.func278, Hvah.ntmps278
  go_wp2_with (first | (go_at_call_of 273 (Value.int IntKind.i64 1); refine (HA1 _ (by (repeat (first | with_reducible exact Ext.refl _ | with_reducible assumption | refine Ext.trans ?_ (by with_reducible assumption) | refine Ext.alloc ?_ _ _ | refine Ext.drew ?_ | refine Ext.drewN ?_ _)))).mono ?_; rintro e w1 ⟨rfl, he⟩) | (go_at_call 374; refine (HL _).mono ?_; rintro e w1 ⟨rfl, he⟩))
  go_ret
  exact ⟨rfl, by (repeat (first | with_reducible exact Ext.refl _ | with_reducible assumption | refine Ext.trans ?_ (by with_reducible assumption) | refine Ext.alloc ?_ _ _ | refine Ext.drew ?_ | refine Ext.drewN ?_ _))⟩
set_option maxRecDepth 100000 in
set_option maxHeartbeats 6400000 in
theorem mDyn163 (h : MRep own w g c V st (s :: sn) stale) (hst : st.frames = f :: rest) (hl : f.arg 1 ≤ 717280) : Calls Hvah.prog 278 #[.pointer (some ⟨g, 0, none⟩), .pointer (some ⟨g, 1803 + rest.length * 65, none⟩), .int .u8 163] w fun e w' => e = .returned (.int .u64 (dynA st f 163 : Nat)) ∧ Ext w w' := by
  obtain ⟨hfr, hr7⟩ := h.frame hst
  have hx := fun i => hfr.ok.argLt i
  have he0 : dynA st f 163 = 8 * f.arg 1 := by simp [dynA]
  rw [he0]
  clear he0
  have HA1 := fun W (hW : Ext w W) => mArg (h.ext hW) hst 1 (by decide)
  have HL := fun W => mLength (f.arg 1) W (hx 1)
  have hlw : low64 (f.arg 1) = f.arg 1 := by unfold low64; rw [if_pos (by omega)]
  rw [hlw] at HL
  clear hlw
  generalize f.arg 1 = k at *
  have hwr : IntKind.u64.wrap (8 * (k : Int)) = ((8 * k : Nat) : Int) := by rw [IntKind.wrap_u64]; omega
  go_enter Hvah.func278, Hvah.ntmps278
  go_wp2_with (first | (go_at_call_of 273 (Value.int IntKind.i64 1); refine (HA1 _ (by (repeat (first | with_reducible exact Ext.refl _ | with_reducible assumption | refine Ext.trans ?_ (by with_reducible assumption) | refine Ext.alloc ?_ _ _ | refine Ext.drew ?_ | refine Ext.drewN ?_ _)))).mono ?_; rintro e w1 ⟨rfl, he⟩) | (go_at_call 374; refine (HL _).mono ?_; rintro e w1 ⟨rfl, he⟩))
  go_ret
  exact ⟨rfl, by (repeat (first | with_reducible exact Ext.refl _ | with_reducible assumption | refine Ext.trans ?_ (by with_reducible assumption) | refine Ext.alloc ?_ _ _ | refine Ext.drew ?_ | refine Ext.drewN ?_ _))⟩
set_option maxRecDepth 100000 in
set_option maxHeartbeats 6400000 in
theorem mDyn164 (h : MRep own w g c V st (s :: sn) stale) (hst : st.frames = f :: rest) (hl : f.arg 1 ≤ 717280) : Calls Hvah.prog 278 #[.pointer (some ⟨g, 0, none⟩), .pointer (some ⟨g, 1803 + rest.length * 65, none⟩), .int .u8 164] w fun e w' => e = .returned (.int .u64 (dynA st f 164 : Nat)) ∧ Ext w w' := by
  obtain ⟨hfr, hr7⟩ := h.frame hst
  have hx := fun i => hfr.ok.argLt i
  have he0 : dynA st f 164 = 8 * f.arg 1 := by simp [dynA]
  rw [he0]
  clear he0
  have HA1 := fun W (hW : Ext w W) => mArg (h.ext hW) hst 1 (by decide)
  have HL := fun W => mLength (f.arg 1) W (hx 1)
  have hlw : low64 (f.arg 1) = f.arg 1 := by unfold low64; rw [if_pos (by omega)]
  rw [hlw] at HL
  clear hlw
  generalize f.arg 1 = k at *
  have hwr : IntKind.u64.wrap (8 * (k : Int)) = ((8 * k : Nat) : Int) := by rw [IntKind.wrap_u64]; omega
  go_enter Hvah.func278, Hvah.ntmps278
  go_wp2_with (first | (go_at_call_of 273 (Value.int IntKind.i64 1); refine (HA1 _ (by (repeat (first | with_reducible exact Ext.refl _ | with_reducible assumption | refine Ext.trans ?_ (by with_reducible assumption) | refine Ext.alloc ?_ _ _ | refine Ext.drew ?_ | refine Ext.drewN ?_ _)))).mono ?_; rintro e w1 ⟨rfl, he⟩) | (go_at_call 374; refine (HL _).mono ?_; rintro e w1 ⟨rfl, he⟩))
  go_ret
  exact ⟨rfl, by (repeat (first | with_reducible exact Ext.refl _ | with_reducible assumption | refine Ext.trans ?_ (by with_reducible assumption) | refine Ext.alloc ?_ _ _ | refine Ext.drew ?_ | refine Ext.drewN ?_ _))⟩
set_option maxRecDepth 100000 in
set_option maxHeartbeats 6400000 in
theorem mDyn240 (h : MRep own w g c V st (s :: sn) stale) (hst : st.frames = f :: rest) (hl : f.arg 2 ≤ 717280) : Calls Hvah.prog 278 #[.pointer (some ⟨g, 0, none⟩), .pointer (some ⟨g, 1803 + rest.length * 65, none⟩), .int .u8 240] w fun e w' => e = .returned (.int .u64 (dynA st f 240 : Nat)) ∧ Ext w w' := by
  obtain ⟨hfr, hr7⟩ := h.frame hst
  have hx := fun i => hfr.ok.argLt i
  have he0 : dynA st f 240 = 2 * wordsA (f.arg 2) := by simp [dynA]
  rw [he0]
  clear he0
  have HA2 := fun W (hW : Ext w W) => mArg (h.ext hW) hst 2 (by decide)
  have HL := fun W => mLength (f.arg 2) W (hx 2)
  have hlw : low64 (f.arg 2) = f.arg 2 := by unfold low64; rw [if_pos (by omega)]
  rw [hlw] at HL
  clear hlw
  have HWo := fun W => mWords (f.arg 2) (by omega) W
  have hq : (f.arg 2 + 31) / 32 ≤ 30000 := by omega
  have he1 : 2 * wordsA (f.arg 2) = 2 * ((f.arg 2 + 31) / 32) := rfl
  rw [he1]
  clear he1
  generalize (f.arg 2 + 31) / 32 = k at *
  have hwr : IntKind.u64.wrap (2 * (k : Int)) = ((2 * k : Nat) : Int) := by rw [IntKind.wrap_u64]; omega
  go_enter Hvah.func278, Hvah.ntmps278
  go_wp2_with (first | (go_at_call_of 273 (Value.int IntKind.i64 2); refine (HA2 _ (by (repeat (first | with_reducible exact Ext.refl _ | with_reducible assumption | refine Ext.trans ?_ (by with_reducible assumption) | refine Ext.alloc ?_ _ _ | refine Ext.drew ?_ | refine Ext.drewN ?_ _)))).mono ?_; rintro e w1 ⟨rfl, he⟩) | (go_at_call 374; refine (HL _).mono ?_; rintro e w1 ⟨rfl, he⟩) | (go_at_call 176; refine (HWo _).mono ?_; rintro e w1 ⟨rfl, hww⟩; replace hww := hww.symm; subst hww))
  go_ret
  exact ⟨rfl, by (repeat (first | with_reducible exact Ext.refl _ | with_reducible assumption | refine Ext.trans ?_ (by with_reducible assumption) | refine Ext.alloc ?_ _ _ | refine Ext.drew ?_ | refine Ext.drewN ?_ _))⟩
set_option maxRecDepth 100000 in
set_option maxHeartbeats 6400000 in
theorem mDyn245 (h : MRep own w g c V st (s :: sn) stale) (hst : st.frames = f :: rest) (hl : f.arg 2 ≤ 717280) : Calls Hvah.prog 278 #[.pointer (some ⟨g, 0, none⟩), .pointer (some ⟨g, 1803 + rest.length * 65, none⟩), .int .u8 245] w fun e w' => e = .returned (.int .u64 (dynA st f 245 : Nat)) ∧ Ext w w' := by
  obtain ⟨hfr, hr7⟩ := h.frame hst
  have hx := fun i => hfr.ok.argLt i
  have he0 : dynA st f 245 = 8 * wordsA (f.arg 2) := by simp [dynA]
  rw [he0]
  clear he0
  have HA2 := fun W (hW : Ext w W) => mArg (h.ext hW) hst 2 (by decide)
  have HL := fun W => mLength (f.arg 2) W (hx 2)
  have hlw : low64 (f.arg 2) = f.arg 2 := by unfold low64; rw [if_pos (by omega)]
  rw [hlw] at HL
  clear hlw
  have HWo := fun W => mWords (f.arg 2) (by omega) W
  have hq : (f.arg 2 + 31) / 32 ≤ 30000 := by omega
  have he1 : 8 * wordsA (f.arg 2) = 8 * ((f.arg 2 + 31) / 32) := rfl
  rw [he1]
  clear he1
  generalize (f.arg 2 + 31) / 32 = k at *
  have hwr : IntKind.u64.wrap (8 * (k : Int)) = ((8 * k : Nat) : Int) := by rw [IntKind.wrap_u64]; omega
  go_enter Hvah.func278, Hvah.ntmps278
  go_wp2_with (first | (go_at_call_of 273 (Value.int IntKind.i64 2); refine (HA2 _ (by (repeat (first | with_reducible exact Ext.refl _ | with_reducible assumption | refine Ext.trans ?_ (by with_reducible assumption) | refine Ext.alloc ?_ _ _ | refine Ext.drew ?_ | refine Ext.drewN ?_ _)))).mono ?_; rintro e w1 ⟨rfl, he⟩) | (go_at_call 374; refine (HL _).mono ?_; rintro e w1 ⟨rfl, he⟩) | (go_at_call 176; refine (HWo _).mono ?_; rintro e w1 ⟨rfl, hww⟩; replace hww := hww.symm; subst hww))
  go_ret
  exact ⟨rfl, by (repeat (first | with_reducible exact Ext.refl _ | with_reducible assumption | refine Ext.trans ?_ (by with_reducible assumption) | refine Ext.alloc ?_ _ _ | refine Ext.drew ?_ | refine Ext.drewN ?_ _))⟩
set_option maxRecDepth 100000 in
set_option maxHeartbeats 6400000 in
theorem mDyn85 (h : MRep own w g c V st (s :: sn) stale) (hst : st.frames = f :: rest)  : Calls Hvah.prog 278 #[.pointer (some ⟨g, 0, none⟩), .pointer (some ⟨g, 1803 + rest.length * 65, none⟩), .int .u8 85] w fun e w' => e = .returned (.int .u64 (dynA st f 85 : Nat)) ∧ Ext w w' := by
  obtain ⟨hfr, hr7⟩ := h.frame hst
  have hx := fun i => hfr.ok.argLt i
  have he0 : dynA st f 85 = sstoreCost (st.orig f.self (f.arg 0)) (st.now.slot f.self (f.arg 0)) (f.arg 1) (!st.now.warmS f.self (f.arg 0)) := by simp [dynA]
  rw [he0]
  clear he0
  have HS := fun W (hW : Ext w W) => mSstore (h.ext hW) hst
  go_enter Hvah.func278, Hvah.ntmps278
  go_wp2_with (first | (go_at_call 377; refine (HS _ (by (repeat (first | with_reducible exact Ext.refl _ | with_reducible assumption | refine Ext.trans ?_ (by with_reducible assumption) | refine Ext.alloc ?_ _ _ | refine Ext.drew ?_ | refine Ext.drewN ?_ _)))).mono ?_; rintro e w1 ⟨rfl, he⟩))
  go_ret
  exact ⟨rfl, by (repeat (first | with_reducible exact Ext.refl _ | with_reducible assumption | refine Ext.trans ?_ (by with_reducible assumption) | refine Ext.alloc ?_ _ _ | refine Ext.drew ?_ | refine Ext.drewN ?_ _))⟩
set_option maxRecDepth 100000 in
set_option maxHeartbeats 6400000 in
theorem mDyn255 (h : MRep own w g c V st (s :: sn) stale) (hst : st.frames = f :: rest)  : Calls Hvah.prog 278 #[.pointer (some ⟨g, 0, none⟩), .pointer (some ⟨g, 1803 + rest.length * 65, none⟩), .int .u8 255] w fun e w' => e = .returned (.int .u64 (dynA st f 255 : Nat)) ∧ Ext w w' := by
  obtain ⟨hfr, hr7⟩ := h.frame hst
  have hx := fun i => hfr.ok.argLt i
  have he0 : dynA st f 255 = st.destroyCost f - 5000 := by simp [dynA]
  rw [he0]
  clear he0
  have HS := fun W (hW : Ext w W) => mDestroyCost (h.ext hW) hst
  go_enter Hvah.func278, Hvah.ntmps278
  go_wp2_with (first | (go_at_call 378; refine (HS _ (by (repeat (first | with_reducible exact Ext.refl _ | with_reducible assumption | refine Ext.trans ?_ (by with_reducible assumption) | refine Ext.alloc ?_ _ _ | refine Ext.drew ?_ | refine Ext.drewN ?_ _)))).mono ?_; rintro e w1 ⟨rfl, he⟩))
  go_ret
  exact ⟨rfl, by (repeat (first | with_reducible exact Ext.refl _ | with_reducible assumption | refine Ext.trans ?_ (by with_reducible assumption) | refine Ext.alloc ?_ _ _ | refine Ext.drew ?_ | refine Ext.drewN ?_ _))⟩
set_option maxRecDepth 100000 in
set_option maxHeartbeats 6400000 in
theorem mDyn84 (h : MRep own w g c V st (s :: sn) stale) (hst : st.frames = f :: rest)  : Calls Hvah.prog 278 #[.pointer (some ⟨g, 0, none⟩), .pointer (some ⟨g, 1803 + rest.length * 65, none⟩), .int .u8 84] w fun e w' => e = .returned (.int .u64 (dynA st f 84 : Nat)) ∧ Ext w w' := by
  obtain ⟨hfr, hr7⟩ := h.frame hst
  have hx := fun i => hfr.ok.argLt i
  have he0 : dynA st f 84 = (if st.now.warmS f.self (f.arg 0) then 100 else 2100) := by simp [dynA]
  rw [he0]
  clear he0
  have HA0 := fun W (hW : Ext w W) => mArg (h.ext hW) hst 0 (by decide)
  have HWs := fun W (hW : Ext w W) => vIsWarmSlot (h.v.ext hW) hfr.ok.self (hx 0)
  have ew : st.now.warmS f.self (f.arg 0) = (V.sl f.self (f.arg 0)).warm := by rw [← h.abs]; rfl
  rw [ew]
  clear ew
  generalize (V.sl f.self (f.arg 0)).warm = wm at *
  cases wm
  · go_enter Hvah.func278, Hvah.ntmps278
    go_upto_region 24 with (fail)
    refine w_ext ?_
    rintro W0 hW0
    have h0 := h.ext (show Ext w W0 by (repeat (first | with_reducible exact Ext.refl _ | with_reducible assumption | refine Ext.trans ?_ (by with_reducible assumption) | refine Ext.alloc ?_ _ _ | refine Ext.drew ?_ | refine Ext.drewN ?_ _)))
    refine wp_region_held_drew (S := fun w' => Ext W0 w') (by kernel_rfl) (Ext.refl _).drew (fun hHeld => ?_)
    have HH : Hid (Ext W0 _) := hHeld
    clear hHeld
    refine wpAnyH_take (i := 0) (v := ?_) rfl (by kernel_rfl) (by kernel_rfl) (by kernel_rfl) (fun _ _ _ h => h) (Or.inl ⟨by rfl, ?_⟩) HH.out ?_
    rotate_left
    · intro w hSw; go_simp; try with_reducible rfl
    change wpAnyH _ _ _ _ _ _ _ (Act.put _ (some 73) _) _
    simp only [Act.put, List.setIfInBounds_toArray, List.set_cons_zero, List.set_cons_succ]
    refine wpAnyH_take (i := 1) (v := ?_) rfl (by kernel_rfl) (by kernel_rfl) (by kernel_rfl) (fun _ _ _ h => h) (Or.inl ⟨by rfl, ?_⟩) HH.out ?_
    rotate_left
    · intro w hSw; go_simp; try with_reducible rfl
    change wpAnyH _ _ _ _ _ _ _ (Act.put _ (some 74) _) _
    simp only [Act.put, List.setIfInBounds_toArray, List.set_cons_zero, List.set_cons_succ]
    refine wpAnyH_take (i := 2) (v := ?_) rfl (by kernel_rfl) (by kernel_rfl) (by kernel_rfl) (fun _ _ _ h => h) (Or.inl ⟨by rfl, ?_⟩) HH.out ?_
    rotate_left
    · intro w hSw; go_simp; try with_reducible rfl
    change wpAnyH _ _ _ _ _ _ _ (Act.put _ (some 75) _) _
    simp only [Act.put, List.setIfInBounds_toArray, List.set_cons_zero, List.set_cons_succ]
    refine wpAnyH_take (i := 3) rfl (by kernel_rfl) (by kernel_rfl) (by kernel_rfl) (fun _ _ _ h => h) (yieldsIf_load1 (by rfl) _ _ rfl _ _ rfl onet60 _ (fun w hSw => by rw [(h0.v.blk.ext hSw).cell (by decide), h0.m.ptr])) HH.out ?_
    change wpAnyH _ _ _ _ _ _ _ (Act.put _ (some 76) _) _
    simp only [Act.put, List.setIfInBounds_toArray, List.set_cons_zero, List.set_cons_succ]
    refine wpAnyH_take (i := 4) (v := ?_) rfl (by kernel_rfl) (by kernel_rfl) (by kernel_rfl) (fun _ _ _ h => h) (Or.inl ⟨by rfl, ?_⟩) HH.out ?_
    rotate_left
    · intro w hSw; go_simp; try with_reducible rfl
    change wpAnyH _ _ _ _ _ _ _ (Act.put _ (some 77) _) _
    simp only [Act.put, List.setIfInBounds_toArray, List.set_cons_zero, List.set_cons_succ]
    refine wpAnyH_take (i := 5) (v := ?_) rfl (by kernel_rfl) (by kernel_rfl) (by kernel_rfl) (fun _ _ _ h => h) (Or.inl ⟨by rfl, ?_⟩) HH.out ?_
    rotate_left
    · intro w hSw; go_simp; try with_reducible rfl
    change wpAnyH _ _ _ _ _ _ _ (Act.put _ (some 78) _) _
    simp only [Act.put, List.setIfInBounds_toArray, List.set_cons_zero, List.set_cons_succ]
    refine wpAnyH_take (i := 6) (v := ?_) rfl (by kernel_rfl) (by kernel_rfl) (by kernel_rfl) (fun _ _ _ h => h) (Or.inl ⟨by rfl, ?_⟩) HH.out ?_
    rotate_left
    · intro w hSw; go_simp; try with_reducible rfl
    change wpAnyH _ _ _ _ _ _ _ (Act.put _ (some 79) _) _
    simp only [Act.put, List.setIfInBounds_toArray, List.set_cons_zero, List.set_cons_succ]
    refine wpAnyH_take (i := 7) rfl (by kernel_rfl) (by kernel_rfl) (by kernel_rfl) (fun _ _ _ h => h) (yields_A (by rfl) rfl rfl (fun w hSw => h0.v.blk.ext hSw) hfr.self hfr.ok.self (by omega)) HH.out ?_
    change wpAnyH _ _ _ _ _ _ _ (Act.put _ (some 80) _) _
    simp only [Act.put, List.setIfInBounds_toArray, List.set_cons_zero, List.set_cons_succ]
    refine wpAnyH_take (i := 8) (v := ?_) rfl (by kernel_rfl) (by kernel_rfl) (by kernel_rfl) (fun _ _ _ h => h) (Or.inl ⟨by rfl, ?_⟩) HH.out ?_
    rotate_left
    · intro w hSw; go_simp; try with_reducible rfl
    change wpAnyH _ _ _ _ _ _ _ (Act.put _ (some 81) _) _
    simp only [Act.put, List.setIfInBounds_toArray, List.set_cons_zero, List.set_cons_succ]
    refine wpAnyH_take (i := 9) (v := ?_) rfl (by kernel_rfl) (by kernel_rfl) (by kernel_rfl) (fun _ _ _ h => h) (Or.inl ⟨by rfl, ?_⟩) HH.out ?_
    rotate_left
    · intro w hSw; go_simp; try with_reducible rfl
    change wpAnyH _ _ _ _ _ _ _ (Act.put _ (some 82) _) _
    simp only [Act.put, List.setIfInBounds_toArray, List.set_cons_zero, List.set_cons_succ]
    refine wpAnyH_ready (rs := [10]) (by kernel_rfl) (by simp) ?_
    refine AllReadyH.cons rfl (fun K hK => ?_) AllReadyH.nil
    go_simp
    go_at_call 273; refine (HA0 _ (by (repeat (first | with_reducible exact Ext.refl _ | with_reducible assumption | refine Ext.trans ?_ (by with_reducible assumption) | refine Ext.alloc ?_ _ _ | refine Ext.drew ?_ | refine Ext.drewN ?_ _)))).mono ?_; rintro e w1 ⟨rfl, he⟩
    refine hK.out _ _ ?_ (fun hHeld => ?_)
    · first | exact HH.out.trans hmY | exact HH.out.trans he | exact HH.out
    clear hK K HH
    have HH : Hid (Ext W0 _) := hHeld
    clear hHeld
    refine wpAnyH_ready (rs := [11]) (by kernel_rfl) (by simp) ?_
    refine AllReadyH.cons rfl (fun K hK => ?_) AllReadyH.nil
    go_simp
    go_at_call 183; refine (HWs _ (by (repeat (first | with_reducible exact Ext.refl _ | with_reducible assumption | refine Ext.trans ?_ (by with_reducible assumption) | refine Ext.alloc ?_ _ _ | refine Ext.drew ?_ | refine Ext.drewN ?_ _)))).mono ?_; rintro e w1 ⟨rfl, he⟩
    refine hK.out _ _ ?_ (fun hHeld => ?_)
    · first | exact HH.out.trans hmY | exact HH.out.trans he | exact HH.out
    clear hK K HH
    have HH : Hid (Ext W0 _) := hHeld
    clear hHeld
    refine wpAnyH_done (by kernel_rfl) ?_ _
    go_wp2
    go_ret
    exact ⟨rfl, by (repeat (first | with_reducible exact Ext.refl _ | with_reducible assumption | refine Ext.trans ?_ (by with_reducible assumption) | refine Ext.alloc ?_ _ _ | refine Ext.drew ?_ | refine Ext.drewN ?_ _))⟩
  · go_enter Hvah.func278, Hvah.ntmps278
    go_upto_region 24 with (fail)
    refine w_ext ?_
    rintro W0 hW0
    have h0 := h.ext (show Ext w W0 by (repeat (first | with_reducible exact Ext.refl _ | with_reducible assumption | refine Ext.trans ?_ (by with_reducible assumption) | refine Ext.alloc ?_ _ _ | refine Ext.drew ?_ | refine Ext.drewN ?_ _)))
    refine wp_region_held_drew (S := fun w' => Ext W0 w') (by kernel_rfl) (Ext.refl _).drew (fun hHeld => ?_)
    have HH : Hid (Ext W0 _) := hHeld
    clear hHeld
    refine wpAnyH_take (i := 0) (v := ?_) rfl (by kernel_rfl) (by kernel_rfl) (by kernel_rfl) (fun _ _ _ h => h) (Or.inl ⟨by rfl, ?_⟩) HH.out ?_
    rotate_left
    · intro w hSw; go_simp; try with_reducible rfl
    change wpAnyH _ _ _ _ _ _ _ (Act.put _ (some 73) _) _
    simp only [Act.put, List.setIfInBounds_toArray, List.set_cons_zero, List.set_cons_succ]
    refine wpAnyH_take (i := 1) (v := ?_) rfl (by kernel_rfl) (by kernel_rfl) (by kernel_rfl) (fun _ _ _ h => h) (Or.inl ⟨by rfl, ?_⟩) HH.out ?_
    rotate_left
    · intro w hSw; go_simp; try with_reducible rfl
    change wpAnyH _ _ _ _ _ _ _ (Act.put _ (some 74) _) _
    simp only [Act.put, List.setIfInBounds_toArray, List.set_cons_zero, List.set_cons_succ]
    refine wpAnyH_take (i := 2) (v := ?_) rfl (by kernel_rfl) (by kernel_rfl) (by kernel_rfl) (fun _ _ _ h => h) (Or.inl ⟨by rfl, ?_⟩) HH.out ?_
    rotate_left
    · intro w hSw; go_simp; try with_reducible rfl
    change wpAnyH _ _ _ _ _ _ _ (Act.put _ (some 75) _) _
    simp only [Act.put, List.setIfInBounds_toArray, List.set_cons_zero, List.set_cons_succ]
    refine wpAnyH_take (i := 3) rfl (by kernel_rfl) (by kernel_rfl) (by kernel_rfl) (fun _ _ _ h => h) (yieldsIf_load1 (by rfl) _ _ rfl _ _ rfl onet60 _ (fun w hSw => by rw [(h0.v.blk.ext hSw).cell (by decide), h0.m.ptr])) HH.out ?_
    change wpAnyH _ _ _ _ _ _ _ (Act.put _ (some 76) _) _
    simp only [Act.put, List.setIfInBounds_toArray, List.set_cons_zero, List.set_cons_succ]
    refine wpAnyH_take (i := 4) (v := ?_) rfl (by kernel_rfl) (by kernel_rfl) (by kernel_rfl) (fun _ _ _ h => h) (Or.inl ⟨by rfl, ?_⟩) HH.out ?_
    rotate_left
    · intro w hSw; go_simp; try with_reducible rfl
    change wpAnyH _ _ _ _ _ _ _ (Act.put _ (some 77) _) _
    simp only [Act.put, List.setIfInBounds_toArray, List.set_cons_zero, List.set_cons_succ]
    refine wpAnyH_take (i := 5) (v := ?_) rfl (by kernel_rfl) (by kernel_rfl) (by kernel_rfl) (fun _ _ _ h => h) (Or.inl ⟨by rfl, ?_⟩) HH.out ?_
    rotate_left
    · intro w hSw; go_simp; try with_reducible rfl
    change wpAnyH _ _ _ _ _ _ _ (Act.put _ (some 78) _) _
    simp only [Act.put, List.setIfInBounds_toArray, List.set_cons_zero, List.set_cons_succ]
    refine wpAnyH_take (i := 6) (v := ?_) rfl (by kernel_rfl) (by kernel_rfl) (by kernel_rfl) (fun _ _ _ h => h) (Or.inl ⟨by rfl, ?_⟩) HH.out ?_
    rotate_left
    · intro w hSw; go_simp; try with_reducible rfl
    change wpAnyH _ _ _ _ _ _ _ (Act.put _ (some 79) _) _
    simp only [Act.put, List.setIfInBounds_toArray, List.set_cons_zero, List.set_cons_succ]
    refine wpAnyH_take (i := 7) rfl (by kernel_rfl) (by kernel_rfl) (by kernel_rfl) (fun _ _ _ h => h) (yields_A (by rfl) rfl rfl (fun w hSw => h0.v.blk.ext hSw) hfr.self hfr.ok.self (by omega)) HH.out ?_
    change wpAnyH _ _ _ _ _ _ _ (Act.put _ (some 80) _) _
    simp only [Act.put, List.setIfInBounds_toArray, List.set_cons_zero, List.set_cons_succ]
    refine wpAnyH_take (i := 8) (v := ?_) rfl (by kernel_rfl) (by kernel_rfl) (by kernel_rfl) (fun _ _ _ h => h) (Or.inl ⟨by rfl, ?_⟩) HH.out ?_
    rotate_left
    · intro w hSw; go_simp; try with_reducible rfl
    change wpAnyH _ _ _ _ _ _ _ (Act.put _ (some 81) _) _
    simp only [Act.put, List.setIfInBounds_toArray, List.set_cons_zero, List.set_cons_succ]
    refine wpAnyH_take (i := 9) (v := ?_) rfl (by kernel_rfl) (by kernel_rfl) (by kernel_rfl) (fun _ _ _ h => h) (Or.inl ⟨by rfl, ?_⟩) HH.out ?_
    rotate_left
    · intro w hSw; go_simp; try with_reducible rfl
    change wpAnyH _ _ _ _ _ _ _ (Act.put _ (some 82) _) _
    simp only [Act.put, List.setIfInBounds_toArray, List.set_cons_zero, List.set_cons_succ]
    refine wpAnyH_ready (rs := [10]) (by kernel_rfl) (by simp) ?_
    refine AllReadyH.cons rfl (fun K hK => ?_) AllReadyH.nil
    go_simp
    go_at_call 273; refine (HA0 _ (by (repeat (first | with_reducible exact Ext.refl _ | with_reducible assumption | refine Ext.trans ?_ (by with_reducible assumption) | refine Ext.alloc ?_ _ _ | refine Ext.drew ?_ | refine Ext.drewN ?_ _)))).mono ?_; rintro e w1 ⟨rfl, he⟩
    refine hK.out _ _ ?_ (fun hHeld => ?_)
    · first | exact HH.out.trans hmY | exact HH.out.trans he | exact HH.out
    clear hK K HH
    have HH : Hid (Ext W0 _) := hHeld
    clear hHeld
    refine wpAnyH_ready (rs := [11]) (by kernel_rfl) (by simp) ?_
    refine AllReadyH.cons rfl (fun K hK => ?_) AllReadyH.nil
    go_simp
    go_at_call 183; refine (HWs _ (by (repeat (first | with_reducible exact Ext.refl _ | with_reducible assumption | refine Ext.trans ?_ (by with_reducible assumption) | refine Ext.alloc ?_ _ _ | refine Ext.drew ?_ | refine Ext.drewN ?_ _)))).mono ?_; rintro e w1 ⟨rfl, he⟩
    refine hK.out _ _ ?_ (fun hHeld => ?_)
    · first | exact HH.out.trans hmY | exact HH.out.trans he | exact HH.out
    clear hK K HH
    have HH : Hid (Ext W0 _) := hHeld
    clear hHeld
    refine wpAnyH_done (by kernel_rfl) ?_ _
    go_wp2
    go_ret
    exact ⟨rfl, by (repeat (first | with_reducible exact Ext.refl _ | with_reducible assumption | refine Ext.trans ?_ (by with_reducible assumption) | refine Ext.alloc ?_ _ _ | refine Ext.drew ?_ | refine Ext.drewN ?_ _))⟩
end
end Go.Proofs.YgvahwGreat
