import Derived.Test.YgvahwGreatOj
import Derived.Test.YgvahwGreatMq
namespace Go.Proofs.YgvahwGreat
open Go.RowKit
set_option linter.unusedSimpArgs false
section
variable {own : Nat → Nat} {w : World} {g : Nat} {c : Nat → Value} {V : EV} {st : ASt} {sn stale : List Nat} {s : Nat} {f : AFrame} {rest : List AFrame}
set_option maxRecDepth 100000 in
set_option maxHeartbeats 6400000 in
theorem mFail {Q : World → Prop} (sx : Nat) (HC : ∀ W, Ext w W → Calls Hvah.prog 195 #[.pointer (some ⟨g, 0, none⟩), .int .u8 (sx : Nat), .slice none 0 0] W fun e w' => e = .returned (.tuple #[]) ∧ Q w') : Calls Hvah.prog 194 #[.pointer (some ⟨g, 0, none⟩), .int .u8 (sx : Nat)] w fun e w' => e = .returned (.bool false) ∧ Q w' := by
  go_enter Hvah.func194, Hvah.ntmps194
  go_wp2_with (go_at_call 195; refine (HC _ (by (repeat (first | with_reducible exact Ext.refl _ | with_reducible assumption | refine Ext.trans ?_ (by with_reducible assumption) | refine Ext.alloc ?_ _ _ | refine Ext.drew ?_ | refine Ext.drewN ?_ _)))).mono ?_; rintro e w9 ⟨rfl, hq⟩)
  go_ret
  exact ⟨rfl, hq⟩
set_option maxRecDepth 100000 in
set_option maxHeartbeats 6400000 in
theorem mOpEnd0 (h : MRep own w g c V st (s :: sn) stale) (hst : st.frames = f :: rest) (hph : st.phase = 1) (ho : f.opcode = 0) (hr : Room V 2) (hp : ∀ p r, rest = p :: r → p.gas + f.gas ≤ 1048576 ∧ p.stack.length < 64 ∧ p.pc ≤ 50000) : Calls Hvah.prog 213 #[.pointer (some ⟨g, 0, none⟩)] w fun e w' => e = .returned (.tuple #[]) ∧ ∃ own' c', MRep own' w' g c' (V.ends s f 0 []) (st.leave f rest 0 []) sn (f.mem ++ stale) ∧ MStep own w own' w' := by
  have HR := fun W (hW : Ext w W) => mRun (h.ext hW) hst hph
  have HO := fun W (hW : Ext w W) => mOp (h.ext hW) hst hph
  rw [ho] at HO
  have HE := fun W (hW : Ext w W) => mEnd (h.ext hW) hst hph (NL.nil (O := Mu own)) hr 0 (by decide) hp
  go_enter Hvah.func213, Hvah.ntmps213
  go_wp2_with (first | (go_at_call 192; refine (HR _ (by (repeat (first | with_reducible exact Ext.refl _ | with_reducible assumption | refine Ext.trans ?_ (by with_reducible assumption) | refine Ext.alloc ?_ _ _ | refine Ext.drew ?_ | refine Ext.drewN ?_ _)))).mono ?_; rintro e w1 ⟨rfl, he⟩) | (go_at_call 117; refine (HO _ (by (repeat (first | with_reducible exact Ext.refl _ | with_reducible assumption | refine Ext.trans ?_ (by with_reducible assumption) | refine Ext.alloc ?_ _ _ | refine Ext.drew ?_ | refine Ext.drewN ?_ _)))).mono ?_; rintro e w1 ⟨rfl, he⟩) | (go_at_call 195; refine (HE _ (by (repeat (first | with_reducible exact Ext.refl _ | with_reducible assumption | refine Ext.trans ?_ (by with_reducible assumption) | refine Ext.alloc ?_ _ _ | refine Ext.drew ?_ | refine Ext.drewN ?_ _)))).mono ?_; rintro e w9 ⟨rfl, own9, c9, h9, m9⟩; have m9' := (MStep.ext (own := own) (show Ext w _ by (repeat (first | with_reducible exact Ext.refl _ | with_reducible assumption | refine Ext.trans ?_ (by with_reducible assumption) | refine Ext.alloc ?_ _ _ | refine Ext.drew ?_ | refine Ext.drewN ?_ _)))).trans m9))
  refine bodyPost_ret (results_none rfl _ _ _) rfl ?_
  exact ⟨rfl, own9, c9, h9, m9'⟩
set_option maxRecDepth 100000 in
set_option maxHeartbeats 6400000 in
theorem mOpEnd243 (h : MRep own w g c V st (s :: sn) stale) (hst : st.frames = f :: rest) (hph : st.phase = 1) (ho : f.opcode = 243) (hr : Room V 2) (hp : ∀ p r, rest = p :: r → p.gas + f.gas ≤ 1048576 ∧ p.stack.length < 64 ∧ p.pc ≤ 50000) (hf : f.arg 1 ≠ 0 → f.arg 0 + f.arg 1 ≤ f.mem.length) : Calls Hvah.prog 213 #[.pointer (some ⟨g, 0, none⟩)] w fun e w' => e = .returned (.tuple #[]) ∧ ∃ own' c', MRep own' w' g c' (V.ends s f 0 (readA f.mem (f.arg 0) (f.arg 1))) (st.leave f rest 0 (readA f.mem (f.arg 0) (f.arg 1))) sn (f.mem ++ stale) ∧ MStep own w own' w' := by
  have HR := fun W (hW : Ext w W) => mRun (h.ext hW) hst hph
  have HO := fun W (hW : Ext w W) => mOp (h.ext hW) hst hph
  rw [ho] at HO
  have HA0 := fun W (hW : Ext w W) => mArg (h.ext hW) hst 0 (by decide)
  have HA1 := fun W (hW : Ext w W) => mArg (h.ext hW) hst 1 (by decide)
  have hok := (h.frame hst).1.ok
  have HRd := fun W (hW : Ext w W) => mRead (h.ext hW) hst (f.arg 0) (f.arg 1) (hok.argLt 0) (hok.argLt 1) hf
  have HE := fun W (v : Value) (hW : Ext w W) (hv : NL (Mu own) W v (readA f.mem (f.arg 0) (f.arg 1))) => mEnd (h.ext hW) hst hph hv hr 0 (by decide) hp
  go_enter Hvah.func213, Hvah.ntmps213
  go_wp2_with (first | (go_at_call 192; refine (HR _ (by (repeat (first | with_reducible exact Ext.refl _ | with_reducible assumption | refine Ext.trans ?_ (by with_reducible assumption) | refine Ext.alloc ?_ _ _ | refine Ext.drew ?_ | refine Ext.drewN ?_ _)))).mono ?_; rintro e w1 ⟨rfl, he⟩) | (go_at_call 117; refine (HO _ (by (repeat (first | with_reducible exact Ext.refl _ | with_reducible assumption | refine Ext.trans ?_ (by with_reducible assumption) | refine Ext.alloc ?_ _ _ | refine Ext.drew ?_ | refine Ext.drewN ?_ _)))).mono ?_; rintro e w1 ⟨rfl, he⟩) | (go_at_call_of 273 (Value.int IntKind.i64 0); refine (HA0 _ (by (repeat (first | with_reducible exact Ext.refl _ | with_reducible assumption | refine Ext.trans ?_ (by with_reducible assumption) | refine Ext.alloc ?_ _ _ | refine Ext.drew ?_ | refine Ext.drewN ?_ _)))).mono ?_; rintro e w1 ⟨rfl, he⟩) | (go_at_call_of 273 (Value.int IntKind.i64 1); refine (HA1 _ (by (repeat (first | with_reducible exact Ext.refl _ | with_reducible assumption | refine Ext.trans ?_ (by with_reducible assumption) | refine Ext.alloc ?_ _ _ | refine Ext.drew ?_ | refine Ext.drewN ?_ _)))).mono ?_; rintro e w1 ⟨rfl, he⟩) | (go_at_call 301; refine (HRd _ (by (repeat (first | with_reducible exact Ext.refl _ | with_reducible assumption | refine Ext.trans ?_ (by with_reducible assumption) | refine Ext.alloc ?_ _ _ | refine Ext.drew ?_ | refine Ext.drewN ?_ _)))).mono ?_; rintro e w2 ⟨r, rfl, hr2, he2⟩) | (go_at_call 195; refine (HE _ _ (by (repeat (first | with_reducible exact Ext.refl _ | with_reducible assumption | refine Ext.trans ?_ (by with_reducible assumption) | refine Ext.alloc ?_ _ _ | refine Ext.drew ?_ | refine Ext.drewN ?_ _))) hr2).mono ?_; rintro e w9 ⟨rfl, own9, c9, h9, m9⟩; have m9' := (MStep.ext (own := own) (show Ext w _ by (repeat (first | with_reducible exact Ext.refl _ | with_reducible assumption | refine Ext.trans ?_ (by with_reducible assumption) | refine Ext.alloc ?_ _ _ | refine Ext.drew ?_ | refine Ext.drewN ?_ _)))).trans m9))
  go_end0
  exact ⟨rfl, own9, c9, h9, m9'⟩
set_option maxRecDepth 100000 in
set_option maxHeartbeats 6400000 in
theorem mOpEnd253 (h : MRep own w g c V st (s :: sn) stale) (hst : st.frames = f :: rest) (hph : st.phase = 1) (ho : f.opcode = 253) (hr : Room V 2) (hp : ∀ p r, rest = p :: r → p.gas + f.gas ≤ 1048576 ∧ p.stack.length < 64 ∧ p.pc ≤ 50000) (hf : f.arg 1 ≠ 0 → f.arg 0 + f.arg 1 ≤ f.mem.length) : Calls Hvah.prog 213 #[.pointer (some ⟨g, 0, none⟩)] w fun e w' => e = .returned (.tuple #[]) ∧ ∃ own' c', MRep own' w' g c' (V.ends s f 1 (readA f.mem (f.arg 0) (f.arg 1))) (st.leave f rest 1 (readA f.mem (f.arg 0) (f.arg 1))) sn (f.mem ++ stale) ∧ MStep own w own' w' := by
  have HR := fun W (hW : Ext w W) => mRun (h.ext hW) hst hph
  have HO := fun W (hW : Ext w W) => mOp (h.ext hW) hst hph
  rw [ho] at HO
  have HA0 := fun W (hW : Ext w W) => mArg (h.ext hW) hst 0 (by decide)
  have HA1 := fun W (hW : Ext w W) => mArg (h.ext hW) hst 1 (by decide)
  have hok := (h.frame hst).1.ok
  have HRd := fun W (hW : Ext w W) => mRead (h.ext hW) hst (f.arg 0) (f.arg 1) (hok.argLt 0) (hok.argLt 1) hf
  have HE := fun W (v : Value) (hW : Ext w W) (hv : NL (Mu own) W v (readA f.mem (f.arg 0) (f.arg 1))) => mEnd (h.ext hW) hst hph hv hr 1 (by decide) hp
  go_enter Hvah.func213, Hvah.ntmps213
  go_wp2_with (first | (go_at_call 192; refine (HR _ (by (repeat (first | with_reducible exact Ext.refl _ | with_reducible assumption | refine Ext.trans ?_ (by with_reducible assumption) | refine Ext.alloc ?_ _ _ | refine Ext.drew ?_ | refine Ext.drewN ?_ _)))).mono ?_; rintro e w1 ⟨rfl, he⟩) | (go_at_call 117; refine (HO _ (by (repeat (first | with_reducible exact Ext.refl _ | with_reducible assumption | refine Ext.trans ?_ (by with_reducible assumption) | refine Ext.alloc ?_ _ _ | refine Ext.drew ?_ | refine Ext.drewN ?_ _)))).mono ?_; rintro e w1 ⟨rfl, he⟩) | (go_at_call_of 273 (Value.int IntKind.i64 0); refine (HA0 _ (by (repeat (first | with_reducible exact Ext.refl _ | with_reducible assumption | refine Ext.trans ?_ (by with_reducible assumption) | refine Ext.alloc ?_ _ _ | refine Ext.drew ?_ | refine Ext.drewN ?_ _)))).mono ?_; rintro e w1 ⟨rfl, he⟩) | (go_at_call_of 273 (Value.int IntKind.i64 1); refine (HA1 _ (by (repeat (first | with_reducible exact Ext.refl _ | with_reducible assumption | refine Ext.trans ?_ (by with_reducible assumption) | refine Ext.alloc ?_ _ _ | refine Ext.drew ?_ | refine Ext.drewN ?_ _)))).mono ?_; rintro e w1 ⟨rfl, he⟩) | (go_at_call 301; refine (HRd _ (by (repeat (first | with_reducible exact Ext.refl _ | with_reducible assumption | refine Ext.trans ?_ (by with_reducible assumption) | refine Ext.alloc ?_ _ _ | refine Ext.drew ?_ | refine Ext.drewN ?_ _)))).mono ?_; rintro e w2 ⟨r, rfl, hr2, he2⟩) | (go_at_call 195; refine (HE _ _ (by (repeat (first | with_reducible exact Ext.refl _ | with_reducible assumption | refine Ext.trans ?_ (by with_reducible assumption) | refine Ext.alloc ?_ _ _ | refine Ext.drew ?_ | refine Ext.drewN ?_ _))) hr2).mono ?_; rintro e w9 ⟨rfl, own9, c9, h9, m9⟩; have m9' := (MStep.ext (own := own) (show Ext w _ by (repeat (first | with_reducible exact Ext.refl _ | with_reducible assumption | refine Ext.trans ?_ (by with_reducible assumption) | refine Ext.alloc ?_ _ _ | refine Ext.drew ?_ | refine Ext.drewN ?_ _)))).trans m9))
  go_end0
  exact ⟨rfl, own9, c9, h9, m9'⟩
end
end Go.Proofs.YgvahwGreat
