import Derived.Test.YgvahwGreatOm
import Derived.Test.YgvahwGreatOk
import Derived.Test.YgvahwGreatMi
import Derived.Test.YgvahwGreatMj
import Derived.Test.YgvahwGreatMl
import Derived.Test.YgvahwGreatSi
namespace Go.Proofs.YgvahwGreat
open Go.RowKit
set_option linter.unusedSimpArgs false
section
variable {own : Nat → Nat} {w : World} {g : Nat} {c : Nat → Value} {V : EV} {st : ASt} {sn stale : List Nat} {s : Nat} {f : AFrame} {rest : List AFrame}
set_option maxRecDepth 100000 in
set_option maxHeartbeats 6400000 in
theorem mPassx_KG (h : MRep own w g c V st (s :: sn) stale) (hst : st.frames = f :: rest) (hph : st.phase = 1) (o : Nat) (ho : o < 256) (n240 : o ≠ 240) (n245 : o ≠ 245) (n62 : o ≠ 62) (n85 : o ≠ 85) (n86 : o ≠ 86) (n87 : o ≠ 87) (hws : (f.static && f.writes o) = false) (sg : Nat) (hsg : sg ≤ 40000) (hfl : (decide ((o < 32 ∧ o ≠ 10) ∨ (95 ≤ o ∧ o ≤ 159) ∨ (88 ≤ o ∧ o ≤ 91))) = true) (hgs : ¬ f.gas < sg) : Calls Hvah.prog 197 #[.pointer (some ⟨g, 0, none⟩), .int .u8 (o : Nat), .int .u16 (sg : Nat)] w fun e w' => e = .returned (.bool true) ∧ ∃ own' c' stale', MRep own' w' g c' V { st with frames := { f with gas := f.gas - sg } :: rest } (s :: sn) stale' ∧ MStep own w own' w' := by
  obtain ⟨hfr, hr7⟩ := h.frame hst
  have hgl := hfr.ok.gas
  have HR := fun W (hW : Ext w W) => mRun (h.ext hW) hst hph
  have KB := fun W (hW : Ext w W) => h.v.blk.ext hW
  have kG := hfr.gas
  have kS := hfr.static
  have HWr := fun W (hW : Ext w W) => mWrites (h.ext hW) hst o (ho)
  have e240 : ((o : Int) == 240) = false := by simp; omega
  have e245 : ((o : Int) == 245) = false := by simp; omega
  have e62 : ((o : Int) == 62) = false := by simp; omega
  have e85 : ((o : Int) == 85) = false := by simp; omega
  have e86 : ((o : Int) == 86) = false := by simp; omega
  have e87 : ((o : Int) == 87) = false := by simp; omega
  have HFl := fun W => mFlat o (ho) W
  rw [hfl] at HFl
  have ws : IntKind.u64.wrap (sg : Int) = sg := by rw [IntKind.wrap_u64]; omega
  have hgi : ¬ (f.gas : Int) < sg := by omega
  have wgs : IntKind.u64.wrap ((f.gas : Int) - sg) = ((f.gas - sg : Nat) : Int) := by rw [IntKind.wrap_u64]; omega
  obtain ⟨gx, hgx⟩ : ∃ x, Hid (f.gas - sg = x) := ⟨_, rfl⟩
  rw [hgx.out] at wgs
  have hsbb : f.static = false ∨ f.static = true := by cases f.static <;> simp
  rcases hsbb with hsb | hsb
  · rw [hsb] at kS
    go_enter Hvah.func197, Hvah.ntmps197
    go_wp2_with (first | (go_at_call 192; refine (HR _ (by (repeat (first | with_reducible exact Ext.refl _ | with_reducible assumption | refine Ext.trans ?_ (by with_reducible assumption) | refine Ext.alloc ?_ _ _ | refine Ext.drew ?_ | refine Ext.drewN ?_ _)))).mono ?_; rintro e w1 ⟨rfl, he⟩) | ((with_reducible (refine Veil.out ?_; apply wl_load1 one4)); (case hx => rfl); (case hB => exact KB _ (by (repeat (first | with_reducible exact Ext.refl _ | with_reducible assumption | refine Ext.trans ?_ (by with_reducible assumption) | refine Ext.alloc ?_ _ _ | refine Ext.drew ?_ | refine Ext.drewN ?_ _)))); (case ho => omega); rw [kS]) | (go_at_call 272; refine (HWr _ (by (repeat (first | with_reducible exact Ext.refl _ | with_reducible assumption | refine Ext.trans ?_ (by with_reducible assumption) | refine Ext.alloc ?_ _ _ | refine Ext.drew ?_ | refine Ext.drewN ?_ _)))).mono ?_; rintro e w1 ⟨rfl, he⟩) | (go_at_call 275; refine (HFl _).mono ?_; rintro e w1 ⟨rfl, he⟩) | ((with_reducible (refine Veil.out ?_; apply wl_loadC onel26)); (case hw => go_simp); (case hx => rfl); (case hc => rw [(KB _ (by (repeat (first | with_reducible exact Ext.refl _ | with_reducible assumption | refine Ext.trans ?_ (by with_reducible assumption) | refine Ext.alloc ?_ _ _ | refine Ext.drew ?_ | refine Ext.drewN ?_ _)))).cell (by omega), kG])) | ((with_reducible (refine Veil.out ?_; apply wl_storeC (v := .int .u64 (gx : Nat)) onel26)); (case hx => rfl); (case hy => rfl); (case h1 => rfl); (case hB => exact KB _ (by (repeat (first | with_reducible exact Ext.refl _ | with_reducible assumption | refine Ext.trans ?_ (by with_reducible assumption) | refine Ext.alloc ?_ _ _ | refine Ext.drew ?_ | refine Ext.drewN ?_ _)))); (case hi => omega); rintro W29 b29 m29; have M29 : Mod (· = g) w W29 := (Ext.mod (show Ext w _ by (repeat (first | with_reducible exact Ext.refl _ | with_reducible assumption | refine Ext.trans ?_ (by with_reducible assumption) | refine Ext.alloc ?_ _ _ | refine Ext.drew ?_ | refine Ext.drewN ?_ _))) _).trans m29))
    go_ret
    obtain ⟨hS, sS⟩ := h.setGas hst gx (by rw [← hgx.out]; omega) M29 b29
    rw [← hgx.out] at hS
    exact ⟨rfl, own, _, stale, hS.ext (show Ext W29 _ by (repeat (first | with_reducible exact Ext.refl _ | with_reducible assumption | refine Ext.trans ?_ (by with_reducible assumption) | refine Ext.alloc ?_ _ _ | refine Ext.drew ?_ | refine Ext.drewN ?_ _))), sS.trans (MStep.ext (by (repeat (first | with_reducible exact Ext.refl _ | with_reducible assumption | refine Ext.trans ?_ (by with_reducible assumption) | refine Ext.alloc ?_ _ _ | refine Ext.drew ?_ | refine Ext.drewN ?_ _))))⟩
  · rw [hsb] at kS hws
    rw [show f.writes o = false from hws] at HWr
    go_enter Hvah.func197, Hvah.ntmps197
    go_wp2_with (first | (go_at_call 192; refine (HR _ (by (repeat (first | with_reducible exact Ext.refl _ | with_reducible assumption | refine Ext.trans ?_ (by with_reducible assumption) | refine Ext.alloc ?_ _ _ | refine Ext.drew ?_ | refine Ext.drewN ?_ _)))).mono ?_; rintro e w1 ⟨rfl, he⟩) | ((with_reducible (refine Veil.out ?_; apply wl_load1 one4)); (case hx => rfl); (case hB => exact KB _ (by (repeat (first | with_reducible exact Ext.refl _ | with_reducible assumption | refine Ext.trans ?_ (by with_reducible assumption) | refine Ext.alloc ?_ _ _ | refine Ext.drew ?_ | refine Ext.drewN ?_ _)))); (case ho => omega); rw [kS]) | (go_at_call 272; refine (HWr _ (by (repeat (first | with_reducible exact Ext.refl _ | with_reducible assumption | refine Ext.trans ?_ (by with_reducible assumption) | refine Ext.alloc ?_ _ _ | refine Ext.drew ?_ | refine Ext.drewN ?_ _)))).mono ?_; rintro e w1 ⟨rfl, he⟩) | (go_at_call 275; refine (HFl _).mono ?_; rintro e w1 ⟨rfl, he⟩) | ((with_reducible (refine Veil.out ?_; apply wl_loadC onel26)); (case hw => go_simp); (case hx => rfl); (case hc => rw [(KB _ (by (repeat (first | with_reducible exact Ext.refl _ | with_reducible assumption | refine Ext.trans ?_ (by with_reducible assumption) | refine Ext.alloc ?_ _ _ | refine Ext.drew ?_ | refine Ext.drewN ?_ _)))).cell (by omega), kG])) | ((with_reducible (refine Veil.out ?_; apply wl_storeC (v := .int .u64 (gx : Nat)) onel26)); (case hx => rfl); (case hy => rfl); (case h1 => rfl); (case hB => exact KB _ (by (repeat (first | with_reducible exact Ext.refl _ | with_reducible assumption | refine Ext.trans ?_ (by with_reducible assumption) | refine Ext.alloc ?_ _ _ | refine Ext.drew ?_ | refine Ext.drewN ?_ _)))); (case hi => omega); rintro W29 b29 m29; have M29 : Mod (· = g) w W29 := (Ext.mod (show Ext w _ by (repeat (first | with_reducible exact Ext.refl _ | with_reducible assumption | refine Ext.trans ?_ (by with_reducible assumption) | refine Ext.alloc ?_ _ _ | refine Ext.drew ?_ | refine Ext.drewN ?_ _))) _).trans m29))
    go_ret
    obtain ⟨hS, sS⟩ := h.setGas hst gx (by rw [← hgx.out]; omega) M29 b29
    rw [← hgx.out] at hS
    exact ⟨rfl, own, _, stale, hS.ext (show Ext W29 _ by (repeat (first | with_reducible exact Ext.refl _ | with_reducible assumption | refine Ext.trans ?_ (by with_reducible assumption) | refine Ext.alloc ?_ _ _ | refine Ext.drew ?_ | refine Ext.drewN ?_ _))), sS.trans (MStep.ext (by (repeat (first | with_reducible exact Ext.refl _ | with_reducible assumption | refine Ext.trans ?_ (by with_reducible assumption) | refine Ext.alloc ?_ _ _ | refine Ext.drew ?_ | refine Ext.drewN ?_ _))))⟩
end
end Go.Proofs.YgvahwGreat
