import Derived.Test.YgvahwGreatOm
import Derived.Test.YgvahwGreatOk
import Derived.Test.YgvahwGreatMi
import Derived.Test.YgvahwGreatMj
import Derived.Test.YgvahwGreatMl
import Derived.Test.YgvahwGreatSi
namespace Go.Proofs.YgvahwGreat
open Go.RowKit
set_option linter.unusedSimpArgs false
section
variable {own : Nat → Nat} {w : World} {g : Nat} {c : Nat → Value} {V : EV} {st : ASt} {sn stale : List Nat} {s : Nat} {f : AFrame} {rest : List AFrame}
set_option maxRecDepth 100000 in
set_option maxHeartbeats 6400000 in
theorem mPass87_FO0 {Q : World → Prop} (h : MRep own w g c V st (s :: sn) stale) (hst : st.frames = f :: rest) (hph : st.phase = 1) (hws : (f.static && f.writes 87) = false) (sg : Nat) (hsg : sg ≤ 40000) (hrc : f.reach 87 ≤ 717280) (hlo : lensOK f 87) (hdy : dynA st f 87 ≤ 100000000) (hgw : ¬ f.mem.length / 32 < wordsA (f.reach 87)) (hct : f.gas < (sg + dynA st f 87)) (HF : ∀ W, Ext w W → Calls Hvah.prog 194 #[.pointer (some ⟨g, 0, none⟩), .int .u8 (2 : Nat)] W fun e w' => e = .returned (.bool false) ∧ Q w') : Calls Hvah.prog 197 #[.pointer (some ⟨g, 0, none⟩), .int .u8 (87 : Nat), .int .u16 (sg : Nat)] w fun e w' => e = .returned (.bool false) ∧ Q w' := by
  obtain ⟨hfr, hr7⟩ := h.frame hst
  have hgl := hfr.ok.gas
  have HR := fun W (hW : Ext w W) => mRun (h.ext hW) hst hph
  have KB := fun W (hW : Ext w W) => h.v.blk.ext hW
  have kG := hfr.gas
  have kS := hfr.static
  have HWr := fun W (hW : Ext w W) => mWrites (h.ext hW) hst 87 (by decide)
  have HFl := fun W => mFlat 87 (by decide) W
  rw [show (decide ((87 < 32 ∧ 87 ≠ 10) ∨ (95 ≤ 87 ∧ 87 ≤ 159) ∨ (88 ≤ 87 ∧ 87 ≤ 91))) = false from by decide] at HFl
  have ws : IntKind.u64.wrap (sg : Int) = sg := by rw [IntKind.wrap_u64]; omega
  have HRe := fun W (hW : Ext w W) => mReaches (h.ext hW) hst 87 (by decide)
  rw [decide_eq_true hrc] at HRe
  have hml := hfr.ok.mLen
  have HLn := fun W (hW : Ext w W) => mMLen (h.ext hW) hst
  have HDy := fun W (hW : Ext w W) => mDynamic (h.ext hW) hst 87 (by decide) hlo
  have hwl : wordsA (f.reach 87) ≤ 22415 := by unfold wordsA; omega
  obtain ⟨wd, hwd⟩ : ∃ x, Hid (wordsA (f.reach 87) = x) := ⟨_, rfl⟩
  obtain ⟨ml, hmm⟩ : ∃ x, Hid (f.mem.length = x) := ⟨_, rfl⟩
  obtain ⟨dy, hdd⟩ : ∃ x, Hid (dynA st f 87 = x) := ⟨_, rfl⟩
  obtain ⟨hv, hhv⟩ : ∃ x, Hid (ml / 32 = x) := ⟨_, rfl⟩
  have HMc1 := fun W => mMemCost wd W (by have := hwd.out; omega)
  have HMc2 := fun W => mMemCost hv W (by have := hhv.out; have := hmm.out; omega)
  rw [hmm.out] at HLn hgw
  rw [hdd.out] at HDy hct hdy
  rw [hwd.out] at hgw hwl
  rw [hhv.out] at hgw
  have d1 : (ml : Int) / 32 = (hv : Nat) := by have := hhv.out; omega
  have d2 : Int.tdiv (ml : Int) 32 = (hv : Nat) := by rw [Int.tdiv_eq_ediv_of_nonneg (by omega), d1]
  have d3 : IntKind.u32.wrap (hv : Int) = (hv : Nat) := by rw [IntKind.wrap_u32']; have := hhv.out; have := hmm.out; omega
  have d4 : IntKind.u64.wrap (hv : Int) = (hv : Nat) := by rw [IntKind.wrap_u64]; have := hhv.out; have := hmm.out; omega
  obtain ⟨cs, hcs⟩ : ∃ x, Hid (sg + dy = x) := ⟨_, rfl⟩
  have ws2 : IntKind.u64.wrap ((sg : Int) + dy) = (cs : Nat) := by rw [← hcs.out, IntKind.wrap_u64]; omega
  have zgw : ¬ (hv : Int) < wd := by omega
  rw [hcs.out] at hct
  have zct : (f.gas : Int) < cs := by omega
  have hsbb : f.static = false ∨ f.static = true := by cases f.static <;> simp
  rcases hsbb with hsb | hsb
  · rw [hsb] at kS
    go_enter Hvah.func197, Hvah.ntmps197
    go_wp2_with (first | (go_at_call 192; refine (HR _ (by (repeat (first | with_reducible exact Ext.refl _ | with_reducible assumption | refine Ext.trans ?_ (by with_reducible assumption) | refine Ext.alloc ?_ _ _ | refine Ext.drew ?_ | refine Ext.drewN ?_ _)))).mono ?_; rintro e w1 ⟨rfl, he⟩) | ((with_reducible (refine Veil.out ?_; apply wl_load1 one4)); (case hx => rfl); (case hB => exact KB _ (by (repeat (first | with_reducible exact Ext.refl _ | with_reducible assumption | refine Ext.trans ?_ (by with_reducible assumption) | refine Ext.alloc ?_ _ _ | refine Ext.drew ?_ | refine Ext.drewN ?_ _)))); (case ho => omega); rw [kS]) | (go_at_call 272; refine (HWr _ (by (repeat (first | with_reducible exact Ext.refl _ | with_reducible assumption | refine Ext.trans ?_ (by with_reducible assumption) | refine Ext.alloc ?_ _ _ | refine Ext.drew ?_ | refine Ext.drewN ?_ _)))).mono ?_; rintro e w1 ⟨rfl, he⟩) | (go_at_call 275; refine (HFl _).mono ?_; rintro e w1 ⟨rfl, he⟩) | ((with_reducible (refine Veil.out ?_; apply wl_loadC onel26)); (case hw => go_simp); (case hx => rfl); (case hc => rw [(KB _ (by (repeat (first | with_reducible exact Ext.refl _ | with_reducible assumption | refine Ext.trans ?_ (by with_reducible assumption) | refine Ext.alloc ?_ _ _ | refine Ext.drew ?_ | refine Ext.drewN ?_ _)))).cell (by omega), kG])) | (go_at_call 276; refine (HRe _ (by (repeat (first | with_reducible exact Ext.refl _ | with_reducible assumption | refine Ext.trans ?_ (by with_reducible assumption) | refine Ext.alloc ?_ _ _ | refine Ext.drew ?_ | refine Ext.drewN ?_ _)))).mono ?_; rintro e w1 ⟨kw, rfl, hkw, he⟩; obtain rfl : wd = kw := ((hkw hrc).trans hwd.out).symm; clear hkw) | (go_at_call 277; refine (HLn _ (by (repeat (first | with_reducible exact Ext.refl _ | with_reducible assumption | refine Ext.trans ?_ (by with_reducible assumption) | refine Ext.alloc ?_ _ _ | refine Ext.drew ?_ | refine Ext.drewN ?_ _)))).mono ?_; rintro e w1 ⟨rfl, he⟩) | (go_at_call 278; refine (HDy _ (by (repeat (first | with_reducible exact Ext.refl _ | with_reducible assumption | refine Ext.trans ?_ (by with_reducible assumption) | refine Ext.alloc ?_ _ _ | refine Ext.drew ?_ | refine Ext.drewN ?_ _)))).mono ?_; rintro e w1 ⟨rfl, he⟩) | (go_at_call 194; refine (HF _ (by (repeat (first | with_reducible exact Ext.refl _ | with_reducible assumption | refine Ext.trans ?_ (by with_reducible assumption) | refine Ext.alloc ?_ _ _ | refine Ext.drew ?_ | refine Ext.drewN ?_ _)))).mono ?_; rintro e w9 ⟨rfl, hq⟩))
    go_ret
    exact ⟨rfl, hq⟩
  · rw [hsb] at kS hws
    rw [show f.writes 87 = false from hws] at HWr
    go_enter Hvah.func197, Hvah.ntmps197
    go_wp2_with (first | (go_at_call 192; refine (HR _ (by (repeat (first | with_reducible exact Ext.refl _ | with_reducible assumption | refine Ext.trans ?_ (by with_reducible assumption) | refine Ext.alloc ?_ _ _ | refine Ext.drew ?_ | refine Ext.drewN ?_ _)))).mono ?_; rintro e w1 ⟨rfl, he⟩) | ((with_reducible (refine Veil.out ?_; apply wl_load1 one4)); (case hx => rfl); (case hB => exact KB _ (by (repeat (first | with_reducible exact Ext.refl _ | with_reducible assumption | refine Ext.trans ?_ (by with_reducible assumption) | refine Ext.alloc ?_ _ _ | refine Ext.drew ?_ | refine Ext.drewN ?_ _)))); (case ho => omega); rw [kS]) | (go_at_call 272; refine (HWr _ (by (repeat (first | with_reducible exact Ext.refl _ | with_reducible assumption | refine Ext.trans ?_ (by with_reducible assumption) | refine Ext.alloc ?_ _ _ | refine Ext.drew ?_ | refine Ext.drewN ?_ _)))).mono ?_; rintro e w1 ⟨rfl, he⟩) | (go_at_call 275; refine (HFl _).mono ?_; rintro e w1 ⟨rfl, he⟩) | ((with_reducible (refine Veil.out ?_; apply wl_loadC onel26)); (case hw => go_simp); (case hx => rfl); (case hc => rw [(KB _ (by (repeat (first | with_reducible exact Ext.refl _ | with_reducible assumption | refine Ext.trans ?_ (by with_reducible assumption) | refine Ext.alloc ?_ _ _ | refine Ext.drew ?_ | refine Ext.drewN ?_ _)))).cell (by omega), kG])) | (go_at_call 276; refine (HRe _ (by (repeat (first | with_reducible exact Ext.refl _ | with_reducible assumption | refine Ext.trans ?_ (by with_reducible assumption) | refine Ext.alloc ?_ _ _ | refine Ext.drew ?_ | refine Ext.drewN ?_ _)))).mono ?_; rintro e w1 ⟨kw, rfl, hkw, he⟩; obtain rfl : wd = kw := ((hkw hrc).trans hwd.out).symm; clear hkw) | (go_at_call 277; refine (HLn _ (by (repeat (first | with_reducible exact Ext.refl _ | with_reducible assumption | refine Ext.trans ?_ (by with_reducible assumption) | refine Ext.alloc ?_ _ _ | refine Ext.drew ?_ | refine Ext.drewN ?_ _)))).mono ?_; rintro e w1 ⟨rfl, he⟩) | (go_at_call 278; refine (HDy _ (by (repeat (first | with_reducible exact Ext.refl _ | with_reducible assumption | refine Ext.trans ?_ (by with_reducible assumption) | refine Ext.alloc ?_ _ _ | refine Ext.drew ?_ | refine Ext.drewN ?_ _)))).mono ?_; rintro e w1 ⟨rfl, he⟩) | (go_at_call 194; refine (HF _ (by (repeat (first | with_reducible exact Ext.refl _ | with_reducible assumption | refine Ext.trans ?_ (by with_reducible assumption) | refine Ext.alloc ?_ _ _ | refine Ext.drew ?_ | refine Ext.drewN ?_ _)))).mono ?_; rintro e w9 ⟨rfl, hq⟩))
    go_ret
    exact ⟨rfl, hq⟩
end
end Go.Proofs.YgvahwGreat
