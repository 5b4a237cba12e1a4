import Derived.Test.YgvahwGreatOm
import Derived.Test.YgvahwGreatOk
import Derived.Test.YgvahwGreatMi
import Derived.Test.YgvahwGreatMj
import Derived.Test.YgvahwGreatMl
import Derived.Test.YgvahwGreatSi
namespace Go.Proofs.YgvahwGreat
open Go.RowKit
set_option linter.unusedSimpArgs false
section
variable {own : Nat → Nat} {w : World} {g : Nat} {c : Nat → Value} {V : EV} {st : ASt} {sn stale : List Nat} {s : Nat} {f : AFrame} {rest : List AFrame}
set_option maxRecDepth 100000 in
set_option maxHeartbeats 6400000 in
theorem mPass240_FR {Q : World → Prop} (h : MRep own w g c V st (s :: sn) stale) (hst : st.frames = f :: rest) (hph : st.phase = 1) (hws : (f.static && f.writes 240) = false) (h512 : ¬ 512 < f.arg 2) (sg : Nat) (hsg : sg ≤ 40000) (hrc : ¬ f.reach 240 ≤ 717280) (HF : ∀ W, Ext w W → Calls Hvah.prog 194 #[.pointer (some ⟨g, 0, none⟩), .int .u8 (2 : Nat)] W fun e w' => e = .returned (.bool false) ∧ Q w') : Calls Hvah.prog 197 #[.pointer (some ⟨g, 0, none⟩), .int .u8 (240 : Nat), .int .u16 (sg : Nat)] w fun e w' => e = .returned (.bool false) ∧ Q w' := by
  obtain ⟨hfr, hr7⟩ := h.frame hst
  have hgl := hfr.ok.gas
  have HR := fun W (hW : Ext w W) => mRun (h.ext hW) hst hph
  have KB := fun W (hW : Ext w W) => h.v.blk.ext hW
  have kG := hfr.gas
  have kS := hfr.static
  have HWr := fun W (hW : Ext w W) => mWrites (h.ext hW) hst 240 (by decide)
  have HA2 := fun W (hW : Ext w W) => mArg (h.ext hW) hst 2 (by decide)
  have HGt := fun W => uGt (f.arg 2) 512 W (hfr.ok.argLt 2) (by decide)
  rw [decide_eq_false h512] at HGt
  have e512 : wv 512 = .agg #[.int .u64 512, .int .u64 0, .int .u64 0, .int .u64 0] := by rw [show (512 : Nat) = 512 from rfl]; rfl
  rw [e512] at HGt
  have HFl := fun W => mFlat 240 (by decide) W
  rw [show (decide ((240 < 32 ∧ 240 ≠ 10) ∨ (95 ≤ 240 ∧ 240 ≤ 159) ∨ (88 ≤ 240 ∧ 240 ≤ 91))) = false from by decide] at HFl
  have ws : IntKind.u64.wrap (sg : Int) = sg := by rw [IntKind.wrap_u64]; omega
  have HRe := fun W (hW : Ext w W) => mReaches (h.ext hW) hst 240 (by decide)
  rw [decide_eq_false hrc] at HRe
  have hsbb : f.static = false ∨ f.static = true := by cases f.static <;> simp
  rcases hsbb with hsb | hsb
  · rw [hsb] at kS
    go_enter Hvah.func197, Hvah.ntmps197
    go_wp2_with (first | (go_at_call 192; refine (HR _ (by (repeat (first | with_reducible exact Ext.refl _ | with_reducible assumption | refine Ext.trans ?_ (by with_reducible assumption) | refine Ext.alloc ?_ _ _ | refine Ext.drew ?_ | refine Ext.drewN ?_ _)))).mono ?_; rintro e w1 ⟨rfl, he⟩) | ((with_reducible (refine Veil.out ?_; apply wl_load1 one4)); (case hx => rfl); (case hB => exact KB _ (by (repeat (first | with_reducible exact Ext.refl _ | with_reducible assumption | refine Ext.trans ?_ (by with_reducible assumption) | refine Ext.alloc ?_ _ _ | refine Ext.drew ?_ | refine Ext.drewN ?_ _)))); (case ho => omega); rw [kS]) | (go_at_call 272; refine (HWr _ (by (repeat (first | with_reducible exact Ext.refl _ | with_reducible assumption | refine Ext.trans ?_ (by with_reducible assumption) | refine Ext.alloc ?_ _ _ | refine Ext.drew ?_ | refine Ext.drewN ?_ _)))).mono ?_; rintro e w1 ⟨rfl, he⟩) | (go_at_call_of 273 (Value.int IntKind.i64 2); refine (HA2 _ (by (repeat (first | with_reducible exact Ext.refl _ | with_reducible assumption | refine Ext.trans ?_ (by with_reducible assumption) | refine Ext.alloc ?_ _ _ | refine Ext.drew ?_ | refine Ext.drewN ?_ _)))).mono ?_; rintro e w1 ⟨rfl, he⟩) | (go_at_call 174; refine (HGt _).mono ?_; rintro e w1 ⟨rfl, he⟩) | (go_at_call 275; refine (HFl _).mono ?_; rintro e w1 ⟨rfl, he⟩) | ((with_reducible (refine Veil.out ?_; apply wl_loadC onel26)); (case hw => go_simp); (case hx => rfl); (case hc => rw [(KB _ (by (repeat (first | with_reducible exact Ext.refl _ | with_reducible assumption | refine Ext.trans ?_ (by with_reducible assumption) | refine Ext.alloc ?_ _ _ | refine Ext.drew ?_ | refine Ext.drewN ?_ _)))).cell (by omega), kG])) | (go_at_call 276; refine (HRe _ (by (repeat (first | with_reducible exact Ext.refl _ | with_reducible assumption | refine Ext.trans ?_ (by with_reducible assumption) | refine Ext.alloc ?_ _ _ | refine Ext.drew ?_ | refine Ext.drewN ?_ _)))).mono ?_; rintro e w1 ⟨kw, rfl, _, he⟩) | (go_at_call 194; refine (HF _ (by (repeat (first | with_reducible exact Ext.refl _ | with_reducible assumption | refine Ext.trans ?_ (by with_reducible assumption) | refine Ext.alloc ?_ _ _ | refine Ext.drew ?_ | refine Ext.drewN ?_ _)))).mono ?_; rintro e w9 ⟨rfl, hq⟩))
    go_ret
    exact ⟨rfl, hq⟩
  · rw [hsb] at kS hws
    rw [show f.writes 240 = false from hws] at HWr
    go_enter Hvah.func197, Hvah.ntmps197
    go_wp2_with (first | (go_at_call 192; refine (HR _ (by (repeat (first | with_reducible exact Ext.refl _ | with_reducible assumption | refine Ext.trans ?_ (by with_reducible assumption) | refine Ext.alloc ?_ _ _ | refine Ext.drew ?_ | refine Ext.drewN ?_ _)))).mono ?_; rintro e w1 ⟨rfl, he⟩) | ((with_reducible (refine Veil.out ?_; apply wl_load1 one4)); (case hx => rfl); (case hB => exact KB _ (by (repeat (first | with_reducible exact Ext.refl _ | with_reducible assumption | refine Ext.trans ?_ (by with_reducible assumption) | refine Ext.alloc ?_ _ _ | refine Ext.drew ?_ | refine Ext.drewN ?_ _)))); (case ho => omega); rw [kS]) | (go_at_call 272; refine (HWr _ (by (repeat (first | with_reducible exact Ext.refl _ | with_reducible assumption | refine Ext.trans ?_ (by with_reducible assumption) | refine Ext.alloc ?_ _ _ | refine Ext.drew ?_ | refine Ext.drewN ?_ _)))).mono ?_; rintro e w1 ⟨rfl, he⟩) | (go_at_call_of 273 (Value.int IntKind.i64 2); refine (HA2 _ (by (repeat (first | with_reducible exact Ext.refl _ | with_reducible assumption | refine Ext.trans ?_ (by with_reducible assumption) | refine Ext.alloc ?_ _ _ | refine Ext.drew ?_ | refine Ext.drewN ?_ _)))).mono ?_; rintro e w1 ⟨rfl, he⟩) | (go_at_call 174; refine (HGt _).mono ?_; rintro e w1 ⟨rfl, he⟩) | (go_at_call 275; refine (HFl _).mono ?_; rintro e w1 ⟨rfl, he⟩) | ((with_reducible (refine Veil.out ?_; apply wl_loadC onel26)); (case hw => go_simp); (case hx => rfl); (case hc => rw [(KB _ (by (repeat (first | with_reducible exact Ext.refl _ | with_reducible assumption | refine Ext.trans ?_ (by with_reducible assumption) | refine Ext.alloc ?_ _ _ | refine Ext.drew ?_ | refine Ext.drewN ?_ _)))).cell (by omega), kG])) | (go_at_call 276; refine (HRe _ (by (repeat (first | with_reducible exact Ext.refl _ | with_reducible assumption | refine Ext.trans ?_ (by with_reducible assumption) | refine Ext.alloc ?_ _ _ | refine Ext.drew ?_ | refine Ext.drewN ?_ _)))).mono ?_; rintro e w1 ⟨kw, rfl, _, he⟩) | (go_at_call 194; refine (HF _ (by (repeat (first | with_reducible exact Ext.refl _ | with_reducible assumption | refine Ext.trans ?_ (by with_reducible assumption) | refine Ext.alloc ?_ _ _ | refine Ext.drew ?_ | refine Ext.drewN ?_ _)))).mono ?_; rintro e w9 ⟨rfl, hq⟩))
    go_ret
    exact ⟨rfl, hq⟩
end
end Go.Proofs.YgvahwGreat
