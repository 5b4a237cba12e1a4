import Derived.Test.YgvahwGreatOm
import Derived.Test.YgvahwGreatOk
import Derived.Test.YgvahwGreatMi
import Derived.Test.YgvahwGreatMj
import Derived.Test.YgvahwGreatMl
import Derived.Test.YgvahwGreatSi
namespace Go.Proofs.YgvahwGreat
open Go.RowKit
set_option linter.unusedSimpArgs false
section
variable {own : Nat → Nat} {w : World} {g : Nat} {c : Nat → Value} {V : EV} {st : ASt} {sn stale : List Nat} {s : Nat} {f : AFrame} {rest : List AFrame}
set_option maxRecDepth 100000 in
set_option maxHeartbeats 6400000 in
theorem mPass85_F7 {Q : World → Prop} (h : MRep own w g c V st (s :: sn) stale) (hst : st.frames = f :: rest) (hph : st.phase = 1) (hsb : f.static = true) (hwb : f.writes 85 = true) (sg : Nat) (HF : ∀ W, Ext w W → Calls Hvah.prog 194 #[.pointer (some ⟨g, 0, none⟩), .int .u8 (7 : Nat)] W fun e w' => e = .returned (.bool false) ∧ Q w') : Calls Hvah.prog 197 #[.pointer (some ⟨g, 0, none⟩), .int .u8 (85 : Nat), .int .u16 (sg : Nat)] w fun e w' => e = .returned (.bool false) ∧ Q w' := by
  obtain ⟨hfr, hr7⟩ := h.frame hst
  have hgl := hfr.ok.gas
  have HR := fun W (hW : Ext w W) => mRun (h.ext hW) hst hph
  have KB := fun W (hW : Ext w W) => h.v.blk.ext hW
  have kG := hfr.gas
  have kS := hfr.static
  have HWr := fun W (hW : Ext w W) => mWrites (h.ext hW) hst 85 (by decide)
  rw [hsb] at kS
  rw [hwb] at HWr
  go_enter Hvah.func197, Hvah.ntmps197
  go_wp2_with (first | (go_at_call 192; refine (HR _ (by (repeat (first | with_reducible exact Ext.refl _ | with_reducible assumption | refine Ext.trans ?_ (by with_reducible assumption) | refine Ext.alloc ?_ _ _ | refine Ext.drew ?_ | refine Ext.drewN ?_ _)))).mono ?_; rintro e w1 ⟨rfl, he⟩) | ((with_reducible (refine Veil.out ?_; apply wl_load1 one4)); (case hx => rfl); (case hB => exact KB _ (by (repeat (first | with_reducible exact Ext.refl _ | with_reducible assumption | refine Ext.trans ?_ (by with_reducible assumption) | refine Ext.alloc ?_ _ _ | refine Ext.drew ?_ | refine Ext.drewN ?_ _)))); (case ho => omega); rw [kS]) | (go_at_call 272; refine (HWr _ (by (repeat (first | with_reducible exact Ext.refl _ | with_reducible assumption | refine Ext.trans ?_ (by with_reducible assumption) | refine Ext.alloc ?_ _ _ | refine Ext.drew ?_ | refine Ext.drewN ?_ _)))).mono ?_; rintro e w1 ⟨rfl, he⟩) | (go_at_call 194; refine (HF _ (by (repeat (first | with_reducible exact Ext.refl _ | with_reducible assumption | refine Ext.trans ?_ (by with_reducible assumption) | refine Ext.alloc ?_ _ _ | refine Ext.drew ?_ | refine Ext.drewN ?_ _)))).mono ?_; rintro e w9 ⟨rfl, hq⟩))
  go_ret
  exact ⟨rfl, hq⟩
end
end Go.Proofs.YgvahwGreat
