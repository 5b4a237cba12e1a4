import Derived.Test.YgvahwGreatOm
import Derived.Test.YgvahwGreatOk
import Derived.Test.YgvahwGreatMi
import Derived.Test.YgvahwGreatMj
import Derived.Test.YgvahwGreatMl
import Derived.Test.YgvahwGreatSi
namespace Go.Proofs.YgvahwGreat
open Go.RowKit
set_option linter.unusedSimpArgs false
section
variable {own : Nat → Nat} {w : World} {g : Nat} {c : Nat → Value} {V : EV} {st : ASt} {sn stale : List Nat} {s : Nat} {f : AFrame} {rest : List AFrame}
set_option maxRecDepth 100000 in
set_option maxHeartbeats 6400000 in
theorem mPass245_K1 (h : MRep own w g c V st (s :: sn) stale) (hst : st.frames = f :: rest) (hph : st.phase = 1) (hws : (f.static && f.writes 245) = false) (h512 : ¬ 512 < f.arg 2) (sg : Nat) (hsg : sg ≤ 40000) (hrc : f.reach 245 ≤ 717280) (hlo : lensOK f 245) (hdy : dynA st f 245 ≤ 100000000) (hgw : f.mem.length / 32 < wordsA (f.reach 245)) (hct : ¬ f.gas < (sg + dynA st f 245 + (memCostA (wordsA (f.reach 245)) - memCostA (f.mem.length / 32)))) : Calls Hvah.prog 197 #[.pointer (some ⟨g, 0, none⟩), .int .u8 (245 : Nat), .int .u16 (sg : Nat)] w fun e w' => e = .returned (.bool true) ∧ ∃ own' c' stale', MRep own' w' g c' V { st with frames := { f with gas := f.gas - (sg + dynA st f 245 + (memCostA (wordsA (f.reach 245)) - memCostA (f.mem.length / 32))), mem := f.mem ++ List.replicate (32 * wordsA (f.reach 245) - f.mem.length) 0 } :: rest } (s :: sn) stale' ∧ MStep own w own' w' := by
  obtain ⟨hfr, hr7⟩ := h.frame hst
  have hgl := hfr.ok.gas
  have HR := fun W (hW : Ext w W) => mRun (h.ext hW) hst hph
  have KB := fun W (hW : Ext w W) => h.v.blk.ext hW
  have kG := hfr.gas
  have kS := hfr.static
  have HWr := fun W (hW : Ext w W) => mWrites (h.ext hW) hst 245 (by decide)
  have HA2 := fun W (hW : Ext w W) => mArg (h.ext hW) hst 2 (by decide)
  have HGt := fun W => uGt (f.arg 2) 512 W (hfr.ok.argLt 2) (by decide)
  rw [decide_eq_false h512] at HGt
  have e512 : wv 512 = .agg #[.int .u64 512, .int .u64 0, .int .u64 0, .int .u64 0] := by rw [show (512 : Nat) = 512 from rfl]; rfl
  rw [e512] at HGt
  have HFl := fun W => mFlat 245 (by decide) W
  rw [show (decide ((245 < 32 ∧ 245 ≠ 10) ∨ (95 ≤ 245 ∧ 245 ≤ 159) ∨ (88 ≤ 245 ∧ 245 ≤ 91))) = false from by decide] at HFl
  have ws : IntKind.u64.wrap (sg : Int) = sg := by rw [IntKind.wrap_u64]; omega
  have HRe := fun W (hW : Ext w W) => mReaches (h.ext hW) hst 245 (by decide)
  rw [decide_eq_true hrc] at HRe
  have hml := hfr.ok.mLen
  have HLn := fun W (hW : Ext w W) => mMLen (h.ext hW) hst
  have HDy := fun W (hW : Ext w W) => mDynamic (h.ext hW) hst 245 (by decide) hlo
  have hwl : wordsA (f.reach 245) ≤ 22415 := by unfold wordsA; omega
  obtain ⟨wd, hwd⟩ : ∃ x, Hid (wordsA (f.reach 245) = x) := ⟨_, rfl⟩
  obtain ⟨ml, hmm⟩ : ∃ x, Hid (f.mem.length = x) := ⟨_, rfl⟩
  obtain ⟨dy, hdd⟩ : ∃ x, Hid (dynA st f 245 = x) := ⟨_, rfl⟩
  obtain ⟨hv, hhv⟩ : ∃ x, Hid (ml / 32 = x) := ⟨_, rfl⟩
  have HMc1 := fun W => mMemCost wd W (by have := hwd.out; omega)
  have HMc2 := fun W => mMemCost hv W (by have := hhv.out; have := hmm.out; omega)
  rw [hmm.out] at HLn hgw
  rw [hdd.out] at HDy hct hdy
  rw [hwd.out] at hgw hwl
  rw [hhv.out] at hgw
  have d1 : (ml : Int) / 32 = (hv : Nat) := by have := hhv.out; omega
  have d2 : Int.tdiv (ml : Int) 32 = (hv : Nat) := by rw [Int.tdiv_eq_ediv_of_nonneg (by omega), d1]
  have d3 : IntKind.u32.wrap (hv : Int) = (hv : Nat) := by rw [IntKind.wrap_u32']; have := hhv.out; have := hmm.out; omega
  have d4 : IntKind.u64.wrap (hv : Int) = (hv : Nat) := by rw [IntKind.wrap_u64]; have := hhv.out; have := hmm.out; omega
  obtain ⟨cs, hcs⟩ : ∃ x, Hid (sg + dy = x) := ⟨_, rfl⟩
  have ws2 : IntKind.u64.wrap ((sg : Int) + dy) = (cs : Nat) := by rw [← hcs.out, IntKind.wrap_u64]; omega
  have zgw : (hv : Int) < wd := by omega
  obtain ⟨m1, hm1⟩ : ∃ x, Hid (memCostA wd = x) := ⟨_, rfl⟩
  obtain ⟨m2, hm2⟩ : ∃ x, Hid (memCostA hv = x) := ⟨_, rfl⟩
  have hmb : m1 ≤ 10000000 := by
    rw [← hm1.out]; unfold memCostA
    have : wd * wd ≤ 22415 * 22415 := Nat.mul_le_mul hwl hwl
    omega
  have hmo : m2 ≤ m1 := by
    rw [← hm1.out, ← hm2.out]; unfold memCostA
    have h1 : hv ≤ wd := by omega
    have h2 : hv * hv ≤ wd * wd := Nat.mul_le_mul h1 h1
    omega
  rw [hm1.out] at HMc1
  rw [hm2.out] at HMc2
  rw [hwd.out, hmm.out, hhv.out, hm1.out, hm2.out] at hct
  obtain ⟨ct, hcc⟩ : ∃ x, Hid (cs + (m1 - m2) = x) := ⟨_, rfl⟩
  have wm : IntKind.u64.wrap ((m1 : Int) - m2) = ((m1 - m2 : Nat) : Int) := by rw [IntKind.wrap_u64]; omega
  obtain ⟨md, hmd⟩ : ∃ x, Hid (m1 - m2 = x) := ⟨_, rfl⟩
  rw [hmd.out] at wm hcc hct
  have wc : IntKind.u64.wrap ((cs : Int) + md) = (ct : Nat) := by rw [← hcc.out, IntKind.wrap_u64]; have := hmd.out; have := hcs.out; omega
  have wu : IntKind.u32.wrap (wd : Int) = wd := by rw [IntKind.wrap_u32']; omega
  rw [hcs.out, hcc.out] at hct
  have zct : ¬ (f.gas : Int) < ct := by omega
  obtain ⟨gx, hgx⟩ : ∃ x, Hid (f.gas - ct = x) := ⟨_, rfl⟩
  have wgs : IntKind.u64.wrap ((f.gas : Int) - ct) = (gx : Nat) := by rw [← hgx.out, IntKind.wrap_u64]; omega
  have hsbb : f.static = false ∨ f.static = true := by cases f.static <;> simp
  rcases hsbb with hsb | hsb
  · rw [hsb] at kS
    go_enter Hvah.func197, Hvah.ntmps197
    go_upto_region 30 with (first | (go_at_call 192; refine (HR _ (by (repeat (first | with_reducible exact Ext.refl _ | with_reducible assumption | refine Ext.trans ?_ (by with_reducible assumption) | refine Ext.alloc ?_ _ _ | refine Ext.drew ?_ | refine Ext.drewN ?_ _)))).mono ?_; rintro e w1 ⟨rfl, he⟩) | ((with_reducible (refine Veil.out ?_; apply wl_load1 one4)); (case hx => rfl); (case hB => exact KB _ (by (repeat (first | with_reducible exact Ext.refl _ | with_reducible assumption | refine Ext.trans ?_ (by with_reducible assumption) | refine Ext.alloc ?_ _ _ | refine Ext.drew ?_ | refine Ext.drewN ?_ _)))); (case ho => omega); rw [kS]) | (go_at_call 272; refine (HWr _ (by (repeat (first | with_reducible exact Ext.refl _ | with_reducible assumption | refine Ext.trans ?_ (by with_reducible assumption) | refine Ext.alloc ?_ _ _ | refine Ext.drew ?_ | refine Ext.drewN ?_ _)))).mono ?_; rintro e w1 ⟨rfl, he⟩) | (go_at_call_of 273 (Value.int IntKind.i64 2); refine (HA2 _ (by (repeat (first | with_reducible exact Ext.refl _ | with_reducible assumption | refine Ext.trans ?_ (by with_reducible assumption) | refine Ext.alloc ?_ _ _ | refine Ext.drew ?_ | refine Ext.drewN ?_ _)))).mono ?_; rintro e w1 ⟨rfl, he⟩) | (go_at_call 174; refine (HGt _).mono ?_; rintro e w1 ⟨rfl, he⟩) | (go_at_call 275; refine (HFl _).mono ?_; rintro e w1 ⟨rfl, he⟩) | ((with_reducible (refine Veil.out ?_; apply wl_loadC onel26)); (case hw => go_simp); (case hx => rfl); (case hc => rw [(KB _ (by (repeat (first | with_reducible exact Ext.refl _ | with_reducible assumption | refine Ext.trans ?_ (by with_reducible assumption) | refine Ext.alloc ?_ _ _ | refine Ext.drew ?_ | refine Ext.drewN ?_ _)))).cell (by omega), kG])) | (go_at_call 276; refine (HRe _ (by (repeat (first | with_reducible exact Ext.refl _ | with_reducible assumption | refine Ext.trans ?_ (by with_reducible assumption) | refine Ext.alloc ?_ _ _ | refine Ext.drew ?_ | refine Ext.drewN ?_ _)))).mono ?_; rintro e w1 ⟨kw, rfl, hkw, he⟩; obtain rfl : wd = kw := ((hkw hrc).trans hwd.out).symm; clear hkw) | (go_at_call 277; refine (HLn _ (by (repeat (first | with_reducible exact Ext.refl _ | with_reducible assumption | refine Ext.trans ?_ (by with_reducible assumption) | refine Ext.alloc ?_ _ _ | refine Ext.drew ?_ | refine Ext.drewN ?_ _)))).mono ?_; rintro e w1 ⟨rfl, he⟩) | (go_at_call 278; refine (HDy _ (by (repeat (first | with_reducible exact Ext.refl _ | with_reducible assumption | refine Ext.trans ?_ (by with_reducible assumption) | refine Ext.alloc ?_ _ _ | refine Ext.drew ?_ | refine Ext.drewN ?_ _)))).mono ?_; rintro e w1 ⟨rfl, he⟩) | (go_at_call_of 279 (Value.int IntKind.u64 wd); refine (HMc1 _).mono ?_; rintro e w1 ⟨rfl, he⟩) | (go_at_call_of 279 (Value.int IntKind.u64 hv); refine (HMc2 _).mono ?_; rintro e w1 ⟨rfl, he⟩) | ((with_reducible (refine Veil.out ?_; apply wl_storeC (v := .int .u64 (gx : Nat)) onel26)); (case hx => rfl); (case hy => rfl); (case h1 => rfl); (case hB => exact KB _ (by (repeat (first | with_reducible exact Ext.refl _ | with_reducible assumption | refine Ext.trans ?_ (by with_reducible assumption) | refine Ext.alloc ?_ _ _ | refine Ext.drew ?_ | refine Ext.drewN ?_ _)))); (case hi => omega); rintro W29 b29 m29; have M29 : Mod (· = g) w W29 := (Ext.mod (show Ext w _ by (repeat (first | with_reducible exact Ext.refl _ | with_reducible assumption | refine Ext.trans ?_ (by with_reducible assumption) | refine Ext.alloc ?_ _ _ | refine Ext.drew ?_ | refine Ext.drewN ?_ _))) _).trans m29))
    obtain ⟨hS, sS⟩ := h.setGas hst gx (by rw [← hgx.out]; omega) M29 b29
    have HGr := fun W (hW : Ext W29 W) => mGrow (hS.ext hW) (f := { f with gas := gx }) (rest := rest) rfl wd hwl (show f.mem.length < 32 * wd by have := hhv.out; have := hmm.out; omega)
    go_wp2_with (go_at_call 281; refine (HGr _ (by (repeat (first | with_reducible exact Ext.refl _ | with_reducible assumption | refine Ext.trans ?_ (by with_reducible assumption) | refine Ext.alloc ?_ _ _ | refine Ext.drew ?_ | refine Ext.drewN ?_ _)))).mono ?_; rintro e w30 ⟨rfl, own30, c30, st30, h30, m30⟩)
    go_ret
    rw [← hgx.out, ← hcc.out, ← hcs.out, ← hmd.out, ← hm1.out, ← hm2.out, ← hhv.out, ← hdd.out, ← hwd.out, ← hmm.out] at h30
    exact ⟨rfl, own30, c30, st30, h30, (sS.trans (MStep.ext (by (repeat (first | with_reducible exact Ext.refl _ | with_reducible assumption | refine Ext.trans ?_ (by with_reducible assumption) | refine Ext.alloc ?_ _ _ | refine Ext.drew ?_ | refine Ext.drewN ?_ _))))).trans m30⟩
  · rw [hsb] at kS hws
    rw [show f.writes 245 = false from hws] at HWr
    go_enter Hvah.func197, Hvah.ntmps197
    go_upto_region 30 with (first | (go_at_call 192; refine (HR _ (by (repeat (first | with_reducible exact Ext.refl _ | with_reducible assumption | refine Ext.trans ?_ (by with_reducible assumption) | refine Ext.alloc ?_ _ _ | refine Ext.drew ?_ | refine Ext.drewN ?_ _)))).mono ?_; rintro e w1 ⟨rfl, he⟩) | ((with_reducible (refine Veil.out ?_; apply wl_load1 one4)); (case hx => rfl); (case hB => exact KB _ (by (repeat (first | with_reducible exact Ext.refl _ | with_reducible assumption | refine Ext.trans ?_ (by with_reducible assumption) | refine Ext.alloc ?_ _ _ | refine Ext.drew ?_ | refine Ext.drewN ?_ _)))); (case ho => omega); rw [kS]) | (go_at_call 272; refine (HWr _ (by (repeat (first | with_reducible exact Ext.refl _ | with_reducible assumption | refine Ext.trans ?_ (by with_reducible assumption) | refine Ext.alloc ?_ _ _ | refine Ext.drew ?_ | refine Ext.drewN ?_ _)))).mono ?_; rintro e w1 ⟨rfl, he⟩) | (go_at_call_of 273 (Value.int IntKind.i64 2); refine (HA2 _ (by (repeat (first | with_reducible exact Ext.refl _ | with_reducible assumption | refine Ext.trans ?_ (by with_reducible assumption) | refine Ext.alloc ?_ _ _ | refine Ext.drew ?_ | refine Ext.drewN ?_ _)))).mono ?_; rintro e w1 ⟨rfl, he⟩) | (go_at_call 174; refine (HGt _).mono ?_; rintro e w1 ⟨rfl, he⟩) | (go_at_call 275; refine (HFl _).mono ?_; rintro e w1 ⟨rfl, he⟩) | ((with_reducible (refine Veil.out ?_; apply wl_loadC onel26)); (case hw => go_simp); (case hx => rfl); (case hc => rw [(KB _ (by (repeat (first | with_reducible exact Ext.refl _ | with_reducible assumption | refine Ext.trans ?_ (by with_reducible assumption) | refine Ext.alloc ?_ _ _ | refine Ext.drew ?_ | refine Ext.drewN ?_ _)))).cell (by omega), kG])) | (go_at_call 276; refine (HRe _ (by (repeat (first | with_reducible exact Ext.refl _ | with_reducible assumption | refine Ext.trans ?_ (by with_reducible assumption) | refine Ext.alloc ?_ _ _ | refine Ext.drew ?_ | refine Ext.drewN ?_ _)))).mono ?_; rintro e w1 ⟨kw, rfl, hkw, he⟩; obtain rfl : wd = kw := ((hkw hrc).trans hwd.out).symm; clear hkw) | (go_at_call 277; refine (HLn _ (by (repeat (first | with_reducible exact Ext.refl _ | with_reducible assumption | refine Ext.trans ?_ (by with_reducible assumption) | refine Ext.alloc ?_ _ _ | refine Ext.drew ?_ | refine Ext.drewN ?_ _)))).mono ?_; rintro e w1 ⟨rfl, he⟩) | (go_at_call 278; refine (HDy _ (by (repeat (first | with_reducible exact Ext.refl _ | with_reducible assumption | refine Ext.trans ?_ (by with_reducible assumption) | refine Ext.alloc ?_ _ _ | refine Ext.drew ?_ | refine Ext.drewN ?_ _)))).mono ?_; rintro e w1 ⟨rfl, he⟩) | (go_at_call_of 279 (Value.int IntKind.u64 wd); refine (HMc1 _).mono ?_; rintro e w1 ⟨rfl, he⟩) | (go_at_call_of 279 (Value.int IntKind.u64 hv); refine (HMc2 _).mono ?_; rintro e w1 ⟨rfl, he⟩) | ((with_reducible (refine Veil.out ?_; apply wl_storeC (v := .int .u64 (gx : Nat)) onel26)); (case hx => rfl); (case hy => rfl); (case h1 => rfl); (case hB => exact KB _ (by (repeat (first | with_reducible exact Ext.refl _ | with_reducible assumption | refine Ext.trans ?_ (by with_reducible assumption) | refine Ext.alloc ?_ _ _ | refine Ext.drew ?_ | refine Ext.drewN ?_ _)))); (case hi => omega); rintro W29 b29 m29; have M29 : Mod (· = g) w W29 := (Ext.mod (show Ext w _ by (repeat (first | with_reducible exact Ext.refl _ | with_reducible assumption | refine Ext.trans ?_ (by with_reducible assumption) | refine Ext.alloc ?_ _ _ | refine Ext.drew ?_ | refine Ext.drewN ?_ _))) _).trans m29))
    obtain ⟨hS, sS⟩ := h.setGas hst gx (by rw [← hgx.out]; omega) M29 b29
    have HGr := fun W (hW : Ext W29 W) => mGrow (hS.ext hW) (f := { f with gas := gx }) (rest := rest) rfl wd hwl (show f.mem.length < 32 * wd by have := hhv.out; have := hmm.out; omega)
    go_wp2_with (go_at_call 281; refine (HGr _ (by (repeat (first | with_reducible exact Ext.refl _ | with_reducible assumption | refine Ext.trans ?_ (by with_reducible assumption) | refine Ext.alloc ?_ _ _ | refine Ext.drew ?_ | refine Ext.drewN ?_ _)))).mono ?_; rintro e w30 ⟨rfl, own30, c30, st30, h30, m30⟩)
    go_ret
    rw [← hgx.out, ← hcc.out, ← hcs.out, ← hmd.out, ← hm1.out, ← hm2.out, ← hhv.out, ← hdd.out, ← hwd.out, ← hmm.out] at h30
    exact ⟨rfl, own30, c30, st30, h30, (sS.trans (MStep.ext (by (repeat (first | with_reducible exact Ext.refl _ | with_reducible assumption | refine Ext.trans ?_ (by with_reducible assumption) | refine Ext.alloc ?_ _ _ | refine Ext.drew ?_ | refine Ext.drewN ?_ _))))).trans m30⟩
end
end Go.Proofs.YgvahwGreat
