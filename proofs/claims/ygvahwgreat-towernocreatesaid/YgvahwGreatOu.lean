import Derived.Test.YgvahwGreatOk
import Derived.Test.YgvahwGreatOhA
import Derived.Test.YgvahwGreatMr
namespace Go.Proofs.YgvahwGreat
open Go.RowKit
set_option linter.unusedSimpArgs false
theorem rt28q : RowT 33 32 := rowT_of (by kernel_rfl) (by kernel_rfl)
theorem onel28 : OneT 34 := oneT_of (by kernel_rfl) (by kernel_rfl)
section
variable {own : Nat → Nat} {w : World} {g : Nat} {c : Nat → Value} {V : EV} {st : ASt} {sn stale : List Nat} {s : Nat} {f : AFrame} {rest : List AFrame}
set_option maxRecDepth 100000 in
set_option maxHeartbeats 6400000 in
theorem mOpBlk64a (h : MRep own w g c V st (s :: sn) stale) (hst : st.frames = f :: rest) (hph : st.phase = 1) (ho : f.opcode = 64) (hl : 1 ≤ f.stack.length) (hpc : f.pc ≤ 50000) (h1 : ¬ f.arg 0 < 18446744073709551616) : Calls Hvah.prog 205 #[.pointer (some ⟨g, 0, none⟩)] w fun e w' => e = .returned (.tuple #[]) ∧ ∃ c', MRep own w' g c' V { st with frames := f.settle 1 [0] 1 :: rest } (s :: sn) stale ∧ MStep own w own w' := by
  obtain ⟨hfr, hr7⟩ := h.frame hst
  have hsl := hfr.ok.sLen
  have hx0 := hfr.ok.argLt 0
  have HR := fun W (hW : Ext w W) => mRun (h.ext hW) hst hph
  have HO := fun W (hW : Ext w W) => mOp (h.ext hW) hst hph
  rw [ho] at HO
  have HA0 := fun W (hW : Ext w W) => mArg (h.ext hW) hst 0 (by decide)
  have KB := fun W (hW : Ext w W) => h.v.blk.ext hW
  have kN := h.m.env.number
  have hNl := h.m.env.nLt
  have HU := fun W => uU64 (f.arg 0) W hx0
  rw [show fit64 (f.arg 0) = false from decide_eq_false h1] at HU
  clear h1
  generalize low64 (f.arg 0) = lw at *
  have HS := mSetP h hst 1 1 0 (by omega) (by omega) (by decide) (by omega)
  go_enter Hvah.func205, Hvah.ntmps205
  go_wp2_with (first | (go_at_call 192; refine (HR _ (by (repeat (first | with_reducible exact Ext.refl _ | with_reducible assumption | refine Ext.trans ?_ (by with_reducible assumption) | refine Ext.alloc ?_ _ _ | refine Ext.drew ?_ | refine Ext.drewN ?_ _)))).mono ?_; rintro e w1 ⟨rfl, he⟩) | (go_at_call 117; refine (HO _ (by (repeat (first | with_reducible exact Ext.refl _ | with_reducible assumption | refine Ext.trans ?_ (by with_reducible assumption) | refine Ext.alloc ?_ _ _ | refine Ext.drew ?_ | refine Ext.drewN ?_ _)))).mono ?_; rintro e w1 ⟨rfl, he⟩) | ((with_reducible (refine Veil.out ?_; apply wl_allocW)); rintro B3 Wa3 ca3 ea3 ba3 aa3 ga3; have hC3 : w.heap.size ≤ B3 := Nat.le_trans (Ext.size (show Ext w _ from by (repeat (first | with_reducible exact Ext.refl _ | with_reducible assumption | refine Ext.trans ?_ (by with_reducible assumption) | refine Ext.alloc ?_ _ _ | refine Ext.drew ?_ | refine Ext.drewN ?_ _)))) ga3) | ((with_reducible (refine Veil.out ?_; apply wl_storeWB)); (case hx => rfl); (case hy => first | rfl | exact wv0.symm); (case hB => exact ba3.ext (by (repeat (first | with_reducible exact Ext.refl _ | with_reducible assumption | refine Ext.trans ?_ (by with_reducible assumption) | refine Ext.alloc ?_ _ _ | refine Ext.drew ?_ | refine Ext.drewN ?_ _)))); (case hi => decide); rintro W3 c3 b3 a3 _ m3; have hE3 : Ext w W3 := Ext.trans_mod (by (repeat (first | with_reducible exact Ext.refl _ | with_reducible assumption | refine Ext.trans ?_ (by with_reducible assumption) | refine Ext.alloc ?_ _ _ | refine Ext.drew ?_ | refine Ext.drewN ?_ _))) m3 (fun i hi => by have hi2 : i = _ := hi; rw [hi2]; exact hC3); clear ba3 aa3 m3) | (go_at_call_of 273 (Value.int IntKind.i64 0); refine (HA0 _ (by (repeat (first | with_reducible exact Ext.refl _ | with_reducible assumption | refine Ext.trans ?_ (by with_reducible assumption) | refine Ext.alloc ?_ _ _ | refine Ext.drew ?_ | refine Ext.drewN ?_ _)))).mono ?_; rintro e w1 ⟨rfl, he⟩) | (go_at_call 309; refine (HU _).mono ?_; rintro e w4 ⟨rfl, he4⟩) | ((with_reducible (refine Veil.out ?_; apply wl_loadWB)); (case hx => rfl); (case hB => first | exact b8.ext (by (repeat (first | with_reducible exact Ext.refl _ | with_reducible assumption | refine Ext.trans ?_ (by with_reducible assumption) | refine Ext.alloc ?_ _ _ | refine Ext.drew ?_ | refine Ext.drewN ?_ _))) | exact b3.ext (by (repeat (first | with_reducible exact Ext.refl _ | with_reducible assumption | refine Ext.trans ?_ (by with_reducible assumption) | refine Ext.alloc ?_ _ _ | refine Ext.drew ?_ | refine Ext.drewN ?_ _)))); (case hW => first | exact a8 | exact a3); (case hi => decide)) | (go_at_call 268; refine (HS _ (by (repeat (first | with_reducible exact Ext.refl _ | with_reducible assumption | refine Ext.trans ?_ (by with_reducible assumption) | refine Ext.alloc ?_ _ _ | refine Ext.drew ?_ | refine Ext.drewN ?_ _)))).mono ?_; rintro e w9 ⟨rfl, hfin⟩))
  go_end0
  exact ⟨rfl, hfin⟩
set_option maxRecDepth 100000 in
set_option maxHeartbeats 6400000 in
theorem mOpBlk64b (h : MRep own w g c V st (s :: sn) stale) (hst : st.frames = f :: rest) (hph : st.phase = 1) (ho : f.opcode = 64) (hl : 1 ≤ f.stack.length) (hpc : f.pc ≤ 50000) (h1 : f.arg 0 < 18446744073709551616) (h2 : ¬ f.arg 0 < st.env.number) : Calls Hvah.prog 205 #[.pointer (some ⟨g, 0, none⟩)] w fun e w' => e = .returned (.tuple #[]) ∧ ∃ c', MRep own w' g c' V { st with frames := f.settle 1 [0] 1 :: rest } (s :: sn) stale ∧ MStep own w own w' := by
  obtain ⟨hfr, hr7⟩ := h.frame hst
  have hsl := hfr.ok.sLen
  have hx0 := hfr.ok.argLt 0
  have HR := fun W (hW : Ext w W) => mRun (h.ext hW) hst hph
  have HO := fun W (hW : Ext w W) => mOp (h.ext hW) hst hph
  rw [ho] at HO
  have HA0 := fun W (hW : Ext w W) => mArg (h.ext hW) hst 0 (by decide)
  have KB := fun W (hW : Ext w W) => h.v.blk.ext hW
  have kN := h.m.env.number
  have hNl := h.m.env.nLt
  have HU := fun W => uU64 (f.arg 0) W hx0
  rw [show fit64 (f.arg 0) = true from decide_eq_true h1, show low64 (f.arg 0) = f.arg 0 from if_pos h1] at HU
  obtain ⟨a, ha⟩ : ∃ a, Hid (f.arg 0 = a) := ⟨_, rfl⟩
  obtain ⟨nb, hnb⟩ : ∃ a, Hid (st.env.number = a) := ⟨_, rfl⟩
  rw [ha.out] at h1 h2 HA0 HU hx0
  rw [hnb.out] at h2 kN hNl
  have z2 : ¬ (a : Int) < nb := by omega
  have HS := mSetP h hst 1 1 0 (by omega) (by omega) (by decide) (by omega)
  go_enter Hvah.func205, Hvah.ntmps205
  go_wp2_with (first | (go_at_call 192; refine (HR _ (by (repeat (first | with_reducible exact Ext.refl _ | with_reducible assumption | refine Ext.trans ?_ (by with_reducible assumption) | refine Ext.alloc ?_ _ _ | refine Ext.drew ?_ | refine Ext.drewN ?_ _)))).mono ?_; rintro e w1 ⟨rfl, he⟩) | (go_at_call 117; refine (HO _ (by (repeat (first | with_reducible exact Ext.refl _ | with_reducible assumption | refine Ext.trans ?_ (by with_reducible assumption) | refine Ext.alloc ?_ _ _ | refine Ext.drew ?_ | refine Ext.drewN ?_ _)))).mono ?_; rintro e w1 ⟨rfl, he⟩) | ((with_reducible (refine Veil.out ?_; apply wl_allocW)); rintro B3 Wa3 ca3 ea3 ba3 aa3 ga3; have hC3 : w.heap.size ≤ B3 := Nat.le_trans (Ext.size (show Ext w _ from by (repeat (first | with_reducible exact Ext.refl _ | with_reducible assumption | refine Ext.trans ?_ (by with_reducible assumption) | refine Ext.alloc ?_ _ _ | refine Ext.drew ?_ | refine Ext.drewN ?_ _)))) ga3) | ((with_reducible (refine Veil.out ?_; apply wl_storeWB)); (case hx => rfl); (case hy => first | rfl | exact wv0.symm); (case hB => exact ba3.ext (by (repeat (first | with_reducible exact Ext.refl _ | with_reducible assumption | refine Ext.trans ?_ (by with_reducible assumption) | refine Ext.alloc ?_ _ _ | refine Ext.drew ?_ | refine Ext.drewN ?_ _)))); (case hi => decide); rintro W3 c3 b3 a3 _ m3; have hE3 : Ext w W3 := Ext.trans_mod (by (repeat (first | with_reducible exact Ext.refl _ | with_reducible assumption | refine Ext.trans ?_ (by with_reducible assumption) | refine Ext.alloc ?_ _ _ | refine Ext.drew ?_ | refine Ext.drewN ?_ _))) m3 (fun i hi => by have hi2 : i = _ := hi; rw [hi2]; exact hC3); clear ba3 aa3 m3) | (go_at_call_of 273 (Value.int IntKind.i64 0); refine (HA0 _ (by (repeat (first | with_reducible exact Ext.refl _ | with_reducible assumption | refine Ext.trans ?_ (by with_reducible assumption) | refine Ext.alloc ?_ _ _ | refine Ext.drew ?_ | refine Ext.drewN ?_ _)))).mono ?_; rintro e w1 ⟨rfl, he⟩) | (go_at_call 309; refine (HU _).mono ?_; rintro e w4 ⟨rfl, he4⟩) | ((with_reducible (refine Veil.out ?_; apply wl_loadC onel26)); (case hw => go_simp); (case hx => rfl); (case hc => rw [(KB _ (by (repeat (first | with_reducible exact Ext.refl _ | with_reducible assumption | refine Ext.trans ?_ (by with_reducible assumption) | refine Ext.alloc ?_ _ _ | refine Ext.drew ?_ | refine Ext.drewN ?_ _)))).cell (by decide), kN])) | ((with_reducible (refine Veil.out ?_; apply wl_loadWB)); (case hx => rfl); (case hB => first | exact b8.ext (by (repeat (first | with_reducible exact Ext.refl _ | with_reducible assumption | refine Ext.trans ?_ (by with_reducible assumption) | refine Ext.alloc ?_ _ _ | refine Ext.drew ?_ | refine Ext.drewN ?_ _))) | exact b3.ext (by (repeat (first | with_reducible exact Ext.refl _ | with_reducible assumption | refine Ext.trans ?_ (by with_reducible assumption) | refine Ext.alloc ?_ _ _ | refine Ext.drew ?_ | refine Ext.drewN ?_ _)))); (case hW => first | exact a8 | exact a3); (case hi => decide)) | (go_at_call 268; refine (HS _ (by (repeat (first | with_reducible exact Ext.refl _ | with_reducible assumption | refine Ext.trans ?_ (by with_reducible assumption) | refine Ext.alloc ?_ _ _ | refine Ext.drew ?_ | refine Ext.drewN ?_ _)))).mono ?_; rintro e w9 ⟨rfl, hfin⟩))
  go_end0
  exact ⟨rfl, hfin⟩
set_option maxRecDepth 100000 in
set_option maxHeartbeats 6400000 in
theorem mOpBlk64c (h : MRep own w g c V st (s :: sn) stale) (hst : st.frames = f :: rest) (hph : st.phase = 1) (ho : f.opcode = 64) (hl : 1 ≤ f.stack.length) (hpc : f.pc ≤ 50000) (h2 : f.arg 0 < st.env.number) (h3 : ¬ st.env.number - (f.arg 0 + 1) < st.env.hashes.length) : Calls Hvah.prog 205 #[.pointer (some ⟨g, 0, none⟩)] w fun e w' => e = .returned (.tuple #[]) ∧ ∃ c', MRep own w' g c' V { st with frames := f.settle 1 [0] 1 :: rest } (s :: sn) stale ∧ MStep own w own w' := by
  obtain ⟨hfr, hr7⟩ := h.frame hst
  have hsl := hfr.ok.sLen
  have hx0 := hfr.ok.argLt 0
  have HR := fun W (hW : Ext w W) => mRun (h.ext hW) hst hph
  have HO := fun W (hW : Ext w W) => mOp (h.ext hW) hst hph
  rw [ho] at HO
  have HA0 := fun W (hW : Ext w W) => mArg (h.ext hW) hst 0 (by decide)
  have KB := fun W (hW : Ext w W) => h.v.blk.ext hW
  have kN := h.m.env.number
  have hNl := h.m.env.nLt
  have h1 : f.arg 0 < 18446744073709551616 := by omega
  have HU := fun W => uU64 (f.arg 0) W hx0
  rw [show fit64 (f.arg 0) = true from decide_eq_true h1, show low64 (f.arg 0) = f.arg 0 from if_pos h1] at HU
  obtain ⟨a, ha⟩ : ∃ a, Hid (f.arg 0 = a) := ⟨_, rfl⟩
  obtain ⟨nb, hnb⟩ : ∃ a, Hid (st.env.number = a) := ⟨_, rfl⟩
  rw [ha.out] at h1 h2 h3 HA0 HU hx0
  rw [hnb.out] at h2 h3 kN hNl
  have z2 : (a : Int) < nb := by omega
  have hwl := h.m.env.hashes
  have hfw := h.m.env.few
  obtain ⟨ix, hix⟩ : ∃ i, Hid (nb - (a + 1) = i) := ⟨_, rfl⟩
  rw [hix.out] at h3
  have w1 : IntKind.u64.wrap ((nb : Int) - a) = (nb : Int) - a := by rw [IntKind.wrap_u64]; omega
  have w2 : IntKind.u64.wrap ((nb : Int) - a - 1) = (ix : Nat) := by rw [← hix.out, IntKind.wrap_u64]; omega
  obtain ⟨lh, hlh⟩ : ∃ i, Hid (st.env.hashes.length = i) := ⟨_, rfl⟩
  rw [hlh.out] at h3 hfw
  have z3 : ¬ (ix : Int) < lh := by omega
  have w3 : IntKind.u64.wrap (lh : Int) = lh := by rw [IntKind.wrap_u64]; omega
  obtain ⟨vh, ch, hv⟩ : ∃ o cp, c (2260 + 119) = .slice o lh cp := by
    rcases hwl with ⟨q1, q2⟩ | ⟨b, off, cp, q1, _⟩
    · have : lh = 0 := by rw [← hlh.out, q1]; rfl
      exact ⟨none, 0, by rw [q2, this]⟩
    · exact ⟨some ⟨b, off, none⟩, cp, by rw [q1, hlh.out]⟩
  have HS := mSetP h hst 1 1 0 (by omega) (by omega) (by decide) (by omega)
  go_enter Hvah.func205, Hvah.ntmps205
  go_wp2_with (first | (go_at_call 192; refine (HR _ (by (repeat (first | with_reducible exact Ext.refl _ | with_reducible assumption | refine Ext.trans ?_ (by with_reducible assumption) | refine Ext.alloc ?_ _ _ | refine Ext.drew ?_ | refine Ext.drewN ?_ _)))).mono ?_; rintro e w1 ⟨rfl, he⟩) | (go_at_call 117; refine (HO _ (by (repeat (first | with_reducible exact Ext.refl _ | with_reducible assumption | refine Ext.trans ?_ (by with_reducible assumption) | refine Ext.alloc ?_ _ _ | refine Ext.drew ?_ | refine Ext.drewN ?_ _)))).mono ?_; rintro e w1 ⟨rfl, he⟩) | ((with_reducible (refine Veil.out ?_; apply wl_allocW)); rintro B3 Wa3 ca3 ea3 ba3 aa3 ga3; have hC3 : w.heap.size ≤ B3 := Nat.le_trans (Ext.size (show Ext w _ from by (repeat (first | with_reducible exact Ext.refl _ | with_reducible assumption | refine Ext.trans ?_ (by with_reducible assumption) | refine Ext.alloc ?_ _ _ | refine Ext.drew ?_ | refine Ext.drewN ?_ _)))) ga3) | ((with_reducible (refine Veil.out ?_; apply wl_storeWB)); (case hx => rfl); (case hy => first | rfl | exact wv0.symm); (case hB => exact ba3.ext (by (repeat (first | with_reducible exact Ext.refl _ | with_reducible assumption | refine Ext.trans ?_ (by with_reducible assumption) | refine Ext.alloc ?_ _ _ | refine Ext.drew ?_ | refine Ext.drewN ?_ _)))); (case hi => decide); rintro W3 c3 b3 a3 _ m3; have hE3 : Ext w W3 := Ext.trans_mod (by (repeat (first | with_reducible exact Ext.refl _ | with_reducible assumption | refine Ext.trans ?_ (by with_reducible assumption) | refine Ext.alloc ?_ _ _ | refine Ext.drew ?_ | refine Ext.drewN ?_ _))) m3 (fun i hi => by have hi2 : i = _ := hi; rw [hi2]; exact hC3); clear ba3 aa3 m3) | (go_at_call_of 273 (Value.int IntKind.i64 0); refine (HA0 _ (by (repeat (first | with_reducible exact Ext.refl _ | with_reducible assumption | refine Ext.trans ?_ (by with_reducible assumption) | refine Ext.alloc ?_ _ _ | refine Ext.drew ?_ | refine Ext.drewN ?_ _)))).mono ?_; rintro e w1 ⟨rfl, he⟩) | (go_at_call 309; refine (HU _).mono ?_; rintro e w4 ⟨rfl, he4⟩) | ((with_reducible (refine Veil.out ?_; apply wl_loadC onel26)); (case hw => go_simp); (case hx => rfl); (case hc => rw [(KB _ (by (repeat (first | with_reducible exact Ext.refl _ | with_reducible assumption | refine Ext.trans ?_ (by with_reducible assumption) | refine Ext.alloc ?_ _ _ | refine Ext.drew ?_ | refine Ext.drewN ?_ _)))).cell (by decide), kN])) | ((with_reducible (refine Veil.out ?_; apply wl_load1 onel28)); (case hx => rfl); (case hB => exact KB _ (by (repeat (first | with_reducible exact Ext.refl _ | with_reducible assumption | refine Ext.trans ?_ (by with_reducible assumption) | refine Ext.alloc ?_ _ _ | refine Ext.drew ?_ | refine Ext.drewN ?_ _)))); (case ho => decide); rw [hv]) | ((with_reducible (refine Veil.out ?_; apply wl_loadWB)); (case hx => rfl); (case hB => first | exact b8.ext (by (repeat (first | with_reducible exact Ext.refl _ | with_reducible assumption | refine Ext.trans ?_ (by with_reducible assumption) | refine Ext.alloc ?_ _ _ | refine Ext.drew ?_ | refine Ext.drewN ?_ _))) | exact b3.ext (by (repeat (first | with_reducible exact Ext.refl _ | with_reducible assumption | refine Ext.trans ?_ (by with_reducible assumption) | refine Ext.alloc ?_ _ _ | refine Ext.drew ?_ | refine Ext.drewN ?_ _)))); (case hW => first | exact a8 | exact a3); (case hi => decide)) | (go_at_call 268; refine (HS _ (by (repeat (first | with_reducible exact Ext.refl _ | with_reducible assumption | refine Ext.trans ?_ (by with_reducible assumption) | refine Ext.alloc ?_ _ _ | refine Ext.drew ?_ | refine Ext.drewN ?_ _)))).mono ?_; rintro e w9 ⟨rfl, hfin⟩))
  go_end0
  exact ⟨rfl, hfin⟩
set_option maxRecDepth 100000 in
set_option maxHeartbeats 6400000 in
theorem mOpBlk64d (h : MRep own w g c V st (s :: sn) stale) (hst : st.frames = f :: rest) (hph : st.phase = 1) (ho : f.opcode = 64) (hl : 1 ≤ f.stack.length) (hpc : f.pc ≤ 50000) (h2 : f.arg 0 < st.env.number) (h3 : st.env.number - (f.arg 0 + 1) < st.env.hashes.length) : Calls Hvah.prog 205 #[.pointer (some ⟨g, 0, none⟩)] w fun e w' => e = .returned (.tuple #[]) ∧ ∃ c', MRep own w' g c' V { st with frames := f.settle 1 [(st.env.hashes.getD (st.env.number - (f.arg 0 + 1)) 0)] 1 :: rest } (s :: sn) stale ∧ MStep own w own w' := by
  obtain ⟨hfr, hr7⟩ := h.frame hst
  have hsl := hfr.ok.sLen
  have hx0 := hfr.ok.argLt 0
  have HR := fun W (hW : Ext w W) => mRun (h.ext hW) hst hph
  have HO := fun W (hW : Ext w W) => mOp (h.ext hW) hst hph
  rw [ho] at HO
  have HA0 := fun W (hW : Ext w W) => mArg (h.ext hW) hst 0 (by decide)
  have KB := fun W (hW : Ext w W) => h.v.blk.ext hW
  have kN := h.m.env.number
  have hNl := h.m.env.nLt
  have h1 : f.arg 0 < 18446744073709551616 := by omega
  have HU := fun W => uU64 (f.arg 0) W hx0
  rw [show fit64 (f.arg 0) = true from decide_eq_true h1, show low64 (f.arg 0) = f.arg 0 from if_pos h1] at HU
  obtain ⟨a, ha⟩ : ∃ a, Hid (f.arg 0 = a) := ⟨_, rfl⟩
  obtain ⟨nb, hnb⟩ : ∃ a, Hid (st.env.number = a) := ⟨_, rfl⟩
  rw [ha.out] at h1 h2 h3 HA0 HU hx0
  rw [hnb.out] at h2 h3 kN hNl
  rw [ha.out, hnb.out]
  have z2 : (a : Int) < nb := by omega
  have hwl := h.m.env.hashes
  have hfw := h.m.env.few
  obtain ⟨ix, hix⟩ : ∃ i, Hid (nb - (a + 1) = i) := ⟨_, rfl⟩
  rw [hix.out] at h3
  have w1 : IntKind.u64.wrap ((nb : Int) - a) = (nb : Int) - a := by rw [IntKind.wrap_u64]; omega
  have w2 : IntKind.u64.wrap ((nb : Int) - a - 1) = (ix : Nat) := by rw [← hix.out, IntKind.wrap_u64]; omega
  obtain ⟨lh, hlh⟩ : ∃ i, Hid (st.env.hashes.length = i) := ⟨_, rfl⟩
  rw [hlh.out] at h3 hfw
  have z3 : (ix : Int) < lh := by omega
  have w3 : IntKind.u64.wrap (lh : Int) = lh := by rw [IntKind.wrap_u64]; omega
  rw [hix.out]
  have h3' : ix < st.env.hashes.length := by rw [hlh.out]; exact h3
  obtain ⟨vb, off, ch, hv0, q2, q3, q4, q5, q6⟩ : ∃ b off cap, c (2260 + 119) = .slice (some ⟨b, off, none⟩) st.env.hashes.length cap ∧ st.env.hashes.length ≤ cap ∧ cap ≤ 9223372036854775807 ∧ ¬ Mu own b ∧ b < w.heap.size ∧ ∀ (i : Nat) (h : i < st.env.hashes.length), st.env.hashes[i] < P256 ∧ RowIn w b (off + i * 32) (bw st.env.hashes[i]) := by
    rcases hwl with ⟨q1, _⟩ | q
    · rw [q1] at h3'; cases h3'
    · exact q
  obtain ⟨qx, hrow⟩ := q6 ix h3'
  have eg : st.env.hashes.getD ix 0 = st.env.hashes[ix] := by rw [List.getD_eq_getElem?_getD, List.getElem?_eq_getElem h3']; rfl
  rw [eg]
  clear eg q6 q3 q4
  generalize st.env.hashes[ix] = x at *
  have hv : c (2260 + 119) = .slice (some ⟨vb, off, none⟩) lh ch := by rw [hv0, hlh.out]
  have HF := fun W => uFromBytes (beL 32 x) W (len32 qx) (digits_beL 32 x)
  rw [bev_beL] at HF
  have HRw : ∀ W, Ext w W → RowIn W vb (off + ix * 32) (bw x) := fun W hW => hrow.ext q5 hW
  have hbs : (bw x).size = 32 := by simp [bw, bcells_length, len32 qx]
  clear hv0 hrow h3'
  have HS := mSetP h hst 1 1 x (by omega) (by omega) (qx) (by omega)
  go_enter Hvah.func205, Hvah.ntmps205
  go_wp2_with (first | (go_at_call 192; refine (HR _ (by (repeat (first | with_reducible exact Ext.refl _ | with_reducible assumption | refine Ext.trans ?_ (by with_reducible assumption) | refine Ext.alloc ?_ _ _ | refine Ext.drew ?_ | refine Ext.drewN ?_ _)))).mono ?_; rintro e w1 ⟨rfl, he⟩) | (go_at_call 117; refine (HO _ (by (repeat (first | with_reducible exact Ext.refl _ | with_reducible assumption | refine Ext.trans ?_ (by with_reducible assumption) | refine Ext.alloc ?_ _ _ | refine Ext.drew ?_ | refine Ext.drewN ?_ _)))).mono ?_; rintro e w1 ⟨rfl, he⟩) | ((with_reducible (refine Veil.out ?_; apply wl_allocW)); rintro B3 Wa3 ca3 ea3 ba3 aa3 ga3; have hC3 : w.heap.size ≤ B3 := Nat.le_trans (Ext.size (show Ext w _ from by (repeat (first | with_reducible exact Ext.refl _ | with_reducible assumption | refine Ext.trans ?_ (by with_reducible assumption) | refine Ext.alloc ?_ _ _ | refine Ext.drew ?_ | refine Ext.drewN ?_ _)))) ga3) | ((with_reducible (refine Veil.out ?_; apply wl_storeWB)); (case hx => rfl); (case hy => first | rfl | exact wv0.symm); (case hB => exact ba3.ext (by (repeat (first | with_reducible exact Ext.refl _ | with_reducible assumption | refine Ext.trans ?_ (by with_reducible assumption) | refine Ext.alloc ?_ _ _ | refine Ext.drew ?_ | refine Ext.drewN ?_ _)))); (case hi => decide); rintro W3 c3 b3 a3 _ m3; have hE3 : Ext w W3 := Ext.trans_mod (by (repeat (first | with_reducible exact Ext.refl _ | with_reducible assumption | refine Ext.trans ?_ (by with_reducible assumption) | refine Ext.alloc ?_ _ _ | refine Ext.drew ?_ | refine Ext.drewN ?_ _))) m3 (fun i hi => by have hi2 : i = _ := hi; rw [hi2]; exact hC3); clear ba3 aa3 m3) | (go_at_call_of 273 (Value.int IntKind.i64 0); refine (HA0 _ (by (repeat (first | with_reducible exact Ext.refl _ | with_reducible assumption | refine Ext.trans ?_ (by with_reducible assumption) | refine Ext.alloc ?_ _ _ | refine Ext.drew ?_ | refine Ext.drewN ?_ _)))).mono ?_; rintro e w1 ⟨rfl, he⟩) | (go_at_call 309; refine (HU _).mono ?_; rintro e w4 ⟨rfl, he4⟩) | ((with_reducible (refine Veil.out ?_; apply wl_loadC onel26)); (case hw => go_simp); (case hx => rfl); (case hc => rw [(KB _ (by (repeat (first | with_reducible exact Ext.refl _ | with_reducible assumption | refine Ext.trans ?_ (by with_reducible assumption) | refine Ext.alloc ?_ _ _ | refine Ext.drew ?_ | refine Ext.drewN ?_ _)))).cell (by decide), kN])) | ((with_reducible (refine Veil.out ?_; apply wl_load1 onel28)); (case hx => rfl); (case hB => exact KB _ (by (repeat (first | with_reducible exact Ext.refl _ | with_reducible assumption | refine Ext.trans ?_ (by with_reducible assumption) | refine Ext.alloc ?_ _ _ | refine Ext.drew ?_ | refine Ext.drewN ?_ _)))); (case ho => decide); rw [hv]) | ((with_reducible (refine Veil.out ?_; apply wl_loadR rt28q)); (case hx => rfl); (case hr => exact HRw _ (by (repeat (first | with_reducible exact Ext.refl _ | with_reducible assumption | refine Ext.trans ?_ (by with_reducible assumption) | refine Ext.alloc ?_ _ _ | refine Ext.drew ?_ | refine Ext.drewN ?_ _)))); (case hn => exact hbs)) | (go_at_call 92; refine (HF _).mono ?_; rintro e w7 ⟨rfl, he7⟩) | ((with_reducible (refine Veil.out ?_; apply wl_storeWB)); (case hx => rfl); (case hy => rfl); (case hB => exact b3.ext (by (repeat (first | with_reducible exact Ext.refl _ | with_reducible assumption | refine Ext.trans ?_ (by with_reducible assumption) | refine Ext.alloc ?_ _ _ | refine Ext.drew ?_ | refine Ext.drewN ?_ _)))); (case hi => decide); rintro W8 c8 b8 a8 _ m8; have E8 : Ext w W8 := Ext.trans_mod (by (repeat (first | with_reducible exact Ext.refl _ | with_reducible assumption | refine Ext.trans ?_ (by with_reducible assumption) | refine Ext.alloc ?_ _ _ | refine Ext.drew ?_ | refine Ext.drewN ?_ _))) m8 (fun i hi => by have hi2 : i = _ := hi; rw [hi2]; exact hC3)) | ((with_reducible (refine Veil.out ?_; apply wl_loadWB)); (case hx => rfl); (case hB => first | exact b8.ext (by (repeat (first | with_reducible exact Ext.refl _ | with_reducible assumption | refine Ext.trans ?_ (by with_reducible assumption) | refine Ext.alloc ?_ _ _ | refine Ext.drew ?_ | refine Ext.drewN ?_ _))) | exact b3.ext (by (repeat (first | with_reducible exact Ext.refl _ | with_reducible assumption | refine Ext.trans ?_ (by with_reducible assumption) | refine Ext.alloc ?_ _ _ | refine Ext.drew ?_ | refine Ext.drewN ?_ _)))); (case hW => first | exact a8 | exact a3); (case hi => decide)) | (go_at_call 268; refine (HS _ (by (repeat (first | with_reducible exact Ext.refl _ | with_reducible assumption | refine Ext.trans ?_ (by with_reducible assumption) | refine Ext.alloc ?_ _ _ | refine Ext.drew ?_ | refine Ext.drewN ?_ _)))).mono ?_; rintro e w9 ⟨rfl, hfin⟩))
  go_end0
  exact ⟨rfl, hfin⟩
end
end Go.Proofs.YgvahwGreat
