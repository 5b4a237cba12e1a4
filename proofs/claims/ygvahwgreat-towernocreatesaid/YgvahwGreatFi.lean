import Derived.Test.YgvahwGreatLg
namespace Go.Proofs.YgvahwGreat
open Go.RowKit
set_option linter.unusedSimpArgs false

section
variable {w : World} {g : Nat} {P0 : Nat → Prop}
set_option maxRecDepth 100000 in
set_option maxHeartbeats 6400000 in
theorem eFinishW (hfr : ∀ b, w.heap.size ≤ b → ¬ P0 b) (A R : (Nat → Prop) → Array Value → Nat → World → Prop)
    (hA : ∀ P q N W W', A P q N W → Ext W W' → A P q N W') (hAf : ∀ P q N W, A P q N W → ∀ b, W.heap.size ≤ b → ¬ P b) (hAb : ∀ P q N W, A P q N W → W.cell? ⟨g, 27023, none⟩ = some (.bool false))
    (hR : ∀ P q N W W' B, R P q N W → ¬ P B → w.heap.size ≤ B → B < N → Mod (· = B) W W' → R P q N W') (hRN : ∀ P q N M W, R P q N W → M ≤ N → R P q M W)
    (HP : ∀ W, Ext w W → Calls Hvah.prog 47 #[.pointer (some ⟨g, 0, none⟩)] W fun e w' => ∃ P' q, e = .returned (.agg q) ∧ q.size = 25 ∧ Ones q ∧ cf q 0 = .int .u8 0 ∧ A P' q W.heap.size w' ∧ Kept P0 P' W w')
    (HR : ∀ P q N W, A P q N W → Calls Hvah.prog 49 #[.pointer (some ⟨g, 0, none⟩)] W fun e w' => ∃ P', e = .returned (.tuple #[]) ∧ R P' q N w' ∧ Kept P P' W w') :
    Calls Hvah.prog 26 #[.pointer (some ⟨g, 0, none⟩)] w fun e w' => ∃ P' q, e = .returned (.agg q) ∧ q.size = 25 ∧ Ones q ∧ R P' q w.heap.size w' ∧ Kept P0 P' w w' := by
  go_enter Hvah.func26, Hvah.ntmps26
  go_upto_region 1 with (first | ((with_reducible (refine Veil.out ?_; apply wl_allocB z46)); (case hn => exact z46s); rintro B2 W2 e2 b2 g2))
  go_upto_region 2 with (first | (go_at_call 47; refine (HP _ e2).mono ?_; rintro e w4 ⟨P4, q, rfl, hq1, hq2, hq0, hA4, k4⟩) | ((with_reducible (refine Veil.out ?_; apply wl_allocB z46)); (case hn => exact z46s); rintro B3 W5 e5 b5 g5) | ((with_reducible (refine Veil.out ?_; apply wl_storeRow rt46i)); (case hx => rfl); (case hy => rfl); (case hr => exact hq1); (case h1 => exact hq2); (case hB => exact b5); (case hi => decide); rintro W6 b6 m6))
  have hl2 := b2.lt
  have hP2 : ¬ P4 B2 := fun z => hfr B2 g2 ((k4.keep B2 hl2).1 z)
  have eA : Ext w4 W6 := Ext.trans_mod e5 m6 (fun z hz => by have hz2 : z = B3 := hz; rw [hz2]; exact g5)
  have b3 := blk_laid hq1 b6
  have b26 := (b2.mod k4.mod (fun z => hfr B2 g2 z)).ext eA
  have hP3 : ¬ P4 B3 := hAf _ _ _ _ hA4 B3 g5
  have hA6 := hA _ _ _ _ _ hA4 eA
  have hbt := hAb _ _ _ _ hA6
  have HZ := HR _ _ _ _ hA6
  have k06 : Kept P0 P4 w W6 := ((Kept.ext e2).trans k4).trans (Kept.ext eA)
  clear b2 b5 b6 m6 HP HR
  go_wp2_with (first | ((with_reducible (refine Veil.out ?_; apply wl_loadB one5i)); (case hx => rfl); (case hB => exact b3); (case hi => decide); rw [hq0]) | (go_at_call 49; refine HZ.mono ?_; rintro e w7 ⟨P7, rfl, hR7, k7⟩; have b37 := b3.mod k7.mod hP3; have b27 := b26.mod k7.mod hP2) | ((with_reducible (refine Veil.out ?_; apply wl_loadRow rt46i)); (case hx => rfl); (case hB => exact b37); (case hi => decide); rw [rowOf_cf hq1]) | ((with_reducible (refine Veil.out ?_; apply wl_storeRow rt46i)); (case hx => rfl); (case hy => rfl); (case hr => exact hq1); (case h1 => exact hq2); (case hB => exact b27); (case hi => decide); rintro W8 b8 m8))
  refine post_row rt46i q hq1 rfl rfl (fun i u hu => ?_) rfl ?_
  · have hi := (Array.getElem?_eq_some_iff.1 hu).1
    have hc := b8.cell (i := i) (by omega)
    have hly := layv_in (cf z46a) 0 q hi
    rw [Nat.zero_add] at hly ⊢
    rw [hc, hly, cf_get hu]
  · have hP7 : ¬ P7 B2 := fun z => hP2 ((k7.keep B2 b26.lt).1 z)
    have kk := k06.trans k7
    refine ⟨P7, q, rfl, hq1, hq2, hRN _ _ _ _ _ (hR P7 q _ w7 W8 B2 hR7 hP7 g2 hl2 m8) e2.size, ⟨kk.keep, ?_⟩⟩
    refine kk.mod.trans' m8 (fun b hb => Or.inr ?_)
    have hb2 : b = B2 := hb
    rw [hb2]; exact g2
end
end Go.Proofs.YgvahwGreat
