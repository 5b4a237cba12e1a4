import Derived.Test.YgvahwGreatVaPc
import Derived.Test.YgvahwGreatRowsN
import Derived.Test.YgvahwGreatMo
namespace Go.Proofs.YgvahwGreat
open Go.RowKit
set_option linter.unusedSimpArgs false
theorem one82 : OneT 95 := oneT_of (by kernel_rfl) (by kernel_rfl)
section
variable {own : Nat → Nat} {w : World} {g : Nat} {c : Nat → Value} {V : EV} {a k i : Nat}
set_option maxRecDepth 100000 in
set_option maxHeartbeats 6400000 in
theorem vFindTemp0 (hB : Blk w g 27024 105 c) (h : c 27018 = .slice none 0 0) : Calls Hvah.prog 391 #[.pointer (some ⟨g, 2435, none⟩), .int .i32 i, wv k] w fun e w' => e = .returned (.tuple #[.int .i32 (-1), .int .i32 (-1)]) ∧ Ext w w' := by
  have k0 := hB.cell (i := 27018) (by omega)
  rw [h] at k0
  go_enter Hvah.func391, Hvah.ntmps391
  go_wp2_with (first | ((with_reducible (refine Veil.out ?_; apply wl_boxW)); (case hx => rfl); rintro B2 W2 c2 e2 b2 a2 g2; replace k0 := (e2.cell (p := ⟨g, 27018, none⟩) hB.lt).trans k0))
  go_ret2
  exact ⟨rfl, by (repeat (first | with_reducible exact Ext.refl _ | with_reducible assumption | refine Ext.trans ?_ (by with_reducible assumption) | refine Ext.alloc ?_ _ _ | refine Ext.drew ?_ | refine Ext.drewN ?_ _))⟩
theorem vFindT_some (h : VRep own w g c V) (hi : i < 2560) (hk : k < P256) {j : Nat} (hj : ixG ETemp.kc (i, k) V.temps = some j) (W : World) (hW : Ext w W) :
    Calls Hvah.prog 391 #[.pointer (some ⟨g, 2435, none⟩), .int .i32 i, wv k] W fun e w' => e = .returned (.tuple #[.int .i32 j, .int .i32 (-1)]) ∧ Ext W w' := by
  have hne : V.temps ≠ [] := fun q => by rw [q] at hj; cases hj
  rcases h.tT with ⟨q, _⟩ | ⟨t, h1, h2⟩
  · exact absurd q hne
  refine (vFindTemp _ _ g i k c V.temps t W hi hk (h.blk.ext hW) h.nT h.wf.t1 ((h.ext hW).temps) (h1.ext hW) h2).mono ?_
  rintro e w' ⟨a, f, rfl, hf, he⟩
  rcases hf with ⟨q, hq, rfl, rfl⟩ | ⟨hq, _⟩
  · rw [hj] at hq; cases hq
    exact ⟨rfl, he⟩
  · rw [hj] at hq; cases hq
theorem vFindT_none (h : VRep own w g c V) (hi : i < 2560) (hk : k < P256) (hj : ixG ETemp.kc (i, k) V.temps = none) : ∃ f : Int, ∀ W, Ext w W → Calls Hvah.prog 391 #[.pointer (some ⟨g, 2435, none⟩), .int .i32 i, wv k] W fun e w' => e = .returned (.tuple #[.int .i32 (-1), .int .i32 f]) ∧ Ext W w' := by
  rcases h.tT with ⟨_, q⟩ | ⟨t, h1, h2⟩
  · exact ⟨-1, fun W hW => vFindTemp0 (h.blk.ext hW) q⟩
  obtain ⟨d, hd⟩ := h2.first (Nat.lt_of_le_of_lt h.nT (by decide)) (mixP i k % 16384)
  refine ⟨((mixP i k % 16384 + d) % 16384 : Nat), fun W hW => ?_⟩
  refine (vFindTemp _ _ g i k c V.temps t W hi hk (h.blk.ext hW) h.nT h.wf.t1 ((h.ext hW).temps) (h1.ext hW) h2).mono ?_
  rintro e w' ⟨a, f, rfl, hf, he⟩
  rcases hf with ⟨q, hq, _⟩ | ⟨_, rfl, d', p1, rfl, p2, p3⟩
  · rw [hj] at hq; cases hq
  · have : d' = d := by
      rcases Nat.lt_trichotomy d' d with q | q | q
      · have := hd.2.2 d' q; omega
      · exact q
      · have := p3 d q; rw [hd.2.1] at this; omega
    subst this
    exact ⟨rfl, he⟩
set_option maxRecDepth 100000 in
set_option maxHeartbeats 6400000 in
theorem vTLoad (h : VRep own w g c V) (ha : a < 2 ^ 160) (hk : k < P256) : Calls Hvah.prog 319 #[.pointer (some ⟨g, 2435, none⟩), .agg (av a), wv k] w fun e w' => e = .returned (wv (V.tp a k)) ∧ Ext w w' := by
  unfold EV.tp
  cases hj : V.ix a with
  | none =>
    obtain ⟨t, d, _, _, hd, _, _, HF⟩ := vFind_none h ha hj
    have hP : (((acctH a + d) % 4096 : Nat) : Int) < 4096 := by omega
    generalize (acctH a + d) % 4096 = P at *
    go_enter Hvah.func319, Hvah.ntmps319
    go_wp2_with (first | ((with_reducible (refine Veil.out ?_; apply wl_boxA)); (case hx => rfl); (case hn => exact ha); rintro B1 W1 c1 e1 b1 a1 g1) | ((with_reducible (refine Veil.out ?_; apply wl_boxW)); (case hx => rfl); rintro B2 W2 c2 e2 b2 a2 g2) | ((with_reducible (refine Veil.out ?_; apply wl_allocW)); rintro B3 W3 c3 e3 b3 a3 g3) | ((with_reducible (refine Veil.out ?_; apply wl_loadA)); (case hx => rfl); (case hB => exact b1.ext (by (repeat (first | with_reducible exact Ext.refl _ | with_reducible assumption | refine Ext.trans ?_ (by with_reducible assumption) | refine Ext.alloc ?_ _ _ | refine Ext.drew ?_ | refine Ext.drewN ?_ _)))); (case hA => exact a1); (case hs => exact ha); (case ho => decide)) | (go_at_call 168; refine (HF _ (by (repeat (first | with_reducible exact Ext.refl _ | with_reducible assumption | refine Ext.trans ?_ (by with_reducible assumption) | refine Ext.alloc ?_ _ _ | refine Ext.drew ?_ | refine Ext.drewN ?_ _)))).mono ?_; rintro e w4 ⟨rfl, he4⟩) | ((with_reducible (refine Veil.out ?_; apply wl_storeWB)); (case hx => rfl); (case hy => first | rfl | exact wv0.symm); (case hB => exact b3.ext (by (repeat (first | with_reducible exact Ext.refl _ | with_reducible assumption | refine Ext.trans ?_ (by with_reducible assumption) | refine Ext.alloc ?_ _ _ | refine Ext.drew ?_ | refine Ext.drewN ?_ _)))); (case hi => decide); rintro W7 c7 b7 a7 _ m7; have hE7 : Ext w W7 := Ext.trans_mod (by (repeat (first | with_reducible exact Ext.refl _ | with_reducible assumption | refine Ext.trans ?_ (by with_reducible assumption) | refine Ext.alloc ?_ _ _ | refine Ext.drew ?_ | refine Ext.drewN ?_ _))) m7 (fun i hi => by have hi2 : i = _ := hi; rw [hi2]; exact Nat.le_trans (Ext.size (show Ext w W2 by (repeat (first | with_reducible exact Ext.refl _ | with_reducible assumption | refine Ext.trans ?_ (by with_reducible assumption) | refine Ext.alloc ?_ _ _ | refine Ext.drew ?_ | refine Ext.drewN ?_ _)))) g3)))
    refine post_W Hvah.results319 rfl b7 a7 (by decide) rfl ⟨rfl, hE7⟩
  | some i =>
    have HF := vFind_some h ha hj
    have hi : i < 2560 := Nat.lt_of_lt_of_le (ix_lt_of hj) h.nA
    simp only [Option.bind_some]
    rw [look_ix]
    cases hs : ixG ETemp.kc (i, k) V.temps with
    | none =>
      obtain ⟨fr, HT⟩ := vFindT_none h hi hk hs
      go_enter Hvah.func319, Hvah.ntmps319
      go_wp2_with (first | ((with_reducible (refine Veil.out ?_; apply wl_boxA)); (case hx => rfl); (case hn => exact ha); rintro B1 W1 c1 e1 b1 a1 g1) | ((with_reducible (refine Veil.out ?_; apply wl_boxW)); (case hx => rfl); rintro B2 W2 c2 e2 b2 a2 g2) | ((with_reducible (refine Veil.out ?_; apply wl_allocW)); rintro B3 W3 c3 e3 b3 a3 g3) | ((with_reducible (refine Veil.out ?_; apply wl_loadA)); (case hx => rfl); (case hB => exact b1.ext (by (repeat (first | with_reducible exact Ext.refl _ | with_reducible assumption | refine Ext.trans ?_ (by with_reducible assumption) | refine Ext.alloc ?_ _ _ | refine Ext.drew ?_ | refine Ext.drewN ?_ _)))); (case hA => exact a1); (case hs => exact ha); (case ho => decide)) | ((with_reducible (refine Veil.out ?_; apply wl_loadWB)); (case hx => rfl); (case hB => exact b2.ext (by (repeat (first | with_reducible exact Ext.refl _ | with_reducible assumption | refine Ext.trans ?_ (by with_reducible assumption) | refine Ext.alloc ?_ _ _ | refine Ext.drew ?_ | refine Ext.drewN ?_ _)))); (case hW => exact a2); (case hi => decide)) | (go_at_call 168; refine (HF _ (by (repeat (first | with_reducible exact Ext.refl _ | with_reducible assumption | refine Ext.trans ?_ (by with_reducible assumption) | refine Ext.alloc ?_ _ _ | refine Ext.drew ?_ | refine Ext.drewN ?_ _)))).mono ?_; rintro e w4 ⟨rfl, he4⟩) | (go_at_call 391; refine (HT _ (by (repeat (first | with_reducible exact Ext.refl _ | with_reducible assumption | refine Ext.trans ?_ (by with_reducible assumption) | refine Ext.alloc ?_ _ _ | refine Ext.drew ?_ | refine Ext.drewN ?_ _)))).mono ?_; rintro e w5 ⟨rfl, he5⟩) | ((with_reducible (refine Veil.out ?_; apply wl_storeWB)); (case hx => rfl); (case hy => first | rfl | exact wv0.symm); (case hB => exact b3.ext (by (repeat (first | with_reducible exact Ext.refl _ | with_reducible assumption | refine Ext.trans ?_ (by with_reducible assumption) | refine Ext.alloc ?_ _ _ | refine Ext.drew ?_ | refine Ext.drewN ?_ _)))); (case hi => decide); rintro W7 c7 b7 a7 _ m7; have hE7 : Ext w W7 := Ext.trans_mod (by (repeat (first | with_reducible exact Ext.refl _ | with_reducible assumption | refine Ext.trans ?_ (by with_reducible assumption) | refine Ext.alloc ?_ _ _ | refine Ext.drew ?_ | refine Ext.drewN ?_ _))) m7 (fun i hi => by have hi2 : i = _ := hi; rw [hi2]; exact Nat.le_trans (Ext.size (show Ext w W2 by (repeat (first | with_reducible exact Ext.refl _ | with_reducible assumption | refine Ext.trans ?_ (by with_reducible assumption) | refine Ext.alloc ?_ _ _ | refine Ext.drew ?_ | refine Ext.drewN ?_ _)))) g3)))
      refine post_W Hvah.results319 rfl b7 a7 (by decide) rfl ⟨rfl, hE7⟩
    | some j =>
      have HT := vFindT_some h hi hk hs
      have hjl : j < V.temps.length := ix_lt_of hs
      obtain ⟨b, cap, ct, hv, hlc, hcm, hb, hob, hrows, hin⟩ := h.tempIx hjl
      have hval := (hrows j hjl).val
      have hjj : (j : Int) < V.temps.length := by omega
      have hnT := h.nT
      simp only [Option.bind_some, List.getElem?_eq_getElem hjl, Option.map_some, Option.getD_some]
      generalize V.temps[j].val = x at *
      clear hrows
      generalize V.temps.length = m at *
      go_enter Hvah.func319, Hvah.ntmps319
      go_wp2_with (first | ((with_reducible (refine Veil.out ?_; apply wl_boxA)); (case hx => rfl); (case hn => exact ha); rintro B1 W1 c1 e1 b1 a1 g1) | ((with_reducible (refine Veil.out ?_; apply wl_boxW)); (case hx => rfl); rintro B2 W2 c2 e2 b2 a2 g2) | ((with_reducible (refine Veil.out ?_; apply wl_allocW)); rintro B3 W3 c3 e3 b3 a3 g3) | ((with_reducible (refine Veil.out ?_; apply wl_loadA)); (case hx => rfl); (case hB => exact b1.ext (by (repeat (first | with_reducible exact Ext.refl _ | with_reducible assumption | refine Ext.trans ?_ (by with_reducible assumption) | refine Ext.alloc ?_ _ _ | refine Ext.drew ?_ | refine Ext.drewN ?_ _)))); (case hA => exact a1); (case hs => exact ha); (case ho => decide)) | ((with_reducible (refine Veil.out ?_; apply wl_loadWB)); (case hx => rfl); (case hB => exact b2.ext (by (repeat (first | with_reducible exact Ext.refl _ | with_reducible assumption | refine Ext.trans ?_ (by with_reducible assumption) | refine Ext.alloc ?_ _ _ | refine Ext.drew ?_ | refine Ext.drewN ?_ _)))); (case hW => exact a2); (case hi => decide)) | (go_at_call 168; refine (HF _ (by (repeat (first | with_reducible exact Ext.refl _ | with_reducible assumption | refine Ext.trans ?_ (by with_reducible assumption) | refine Ext.alloc ?_ _ _ | refine Ext.drew ?_ | refine Ext.drewN ?_ _)))).mono ?_; rintro e w4 ⟨rfl, he4⟩) | (go_at_call 391; refine (HT _ (by (repeat (first | with_reducible exact Ext.refl _ | with_reducible assumption | refine Ext.trans ?_ (by with_reducible assumption) | refine Ext.alloc ?_ _ _ | refine Ext.drew ?_ | refine Ext.drewN ?_ _)))).mono ?_; rintro e w5 ⟨rfl, he5⟩) | ((with_reducible (refine Veil.out ?_; apply wl_load1 one82)); (case hx => rfl); (case hB => exact h.blk.ext (by (repeat (first | with_reducible exact Ext.refl _ | with_reducible assumption | refine Ext.trans ?_ (by with_reducible assumption) | refine Ext.alloc ?_ _ _ | refine Ext.drew ?_ | refine Ext.drewN ?_ _)))); (case ho => decide); rw [hv]) | ((with_reducible (refine Veil.out ?_; apply wl_loadWB)); (case hx => rfl); (case hB => exact hb.ext (by (repeat (first | with_reducible exact Ext.refl _ | with_reducible assumption | refine Ext.trans ?_ (by with_reducible assumption) | refine Ext.alloc ?_ _ _ | refine Ext.drew ?_ | refine Ext.drewN ?_ _)))); (case hW => exact hval); (case hi => omega)) | ((with_reducible (refine Veil.out ?_; apply wl_storeWB)); (case hx => rfl); (case hy => first | rfl | exact wv0.symm); (case hB => exact b3.ext (by (repeat (first | with_reducible exact Ext.refl _ | with_reducible assumption | refine Ext.trans ?_ (by with_reducible assumption) | refine Ext.alloc ?_ _ _ | refine Ext.drew ?_ | refine Ext.drewN ?_ _)))); (case hi => decide); rintro W7 c7 b7 a7 _ m7; have hE7 : Ext w W7 := Ext.trans_mod (by (repeat (first | with_reducible exact Ext.refl _ | with_reducible assumption | refine Ext.trans ?_ (by with_reducible assumption) | refine Ext.alloc ?_ _ _ | refine Ext.drew ?_ | refine Ext.drewN ?_ _))) m7 (fun i hi => by have hi2 : i = _ := hi; rw [hi2]; exact Nat.le_trans (Ext.size (show Ext w W2 by (repeat (first | with_reducible exact Ext.refl _ | with_reducible assumption | refine Ext.trans ?_ (by with_reducible assumption) | refine Ext.alloc ?_ _ _ | refine Ext.drew ?_ | refine Ext.drewN ?_ _)))) g3)))
      refine post_W Hvah.results319 rfl b7 a7 (by decide) rfl ⟨rfl, hE7⟩
end
end Go.Proofs.YgvahwGreat
