import Derived.Test.YgvahwGreatAp
import Derived.Test.YgvahwGreatShp
import Derived.Test.YgvahwGreatEd
namespace Go.Proofs.YgvahwGreat
open Go.RowKit
set_option linter.unusedSimpArgs false
set_option linter.unusedVariables false
section
variable {w : World} {p : Value} {r : Array Value} {P0 : Nat → Prop}
set_option maxRecDepth 100000 in
set_option maxHeartbeats 6400000 in
theorem yApplyDone2 {g : Nat} (hr : r.size = 174) (hfr : ∀ b, w.heap.size ≤ b → ¬ P0 b) (J : Nat → (Nat → Prop) → World → Prop) (J' : (Nat → Prop) → World → Prop) (R : (Nat → Prop) → Array Value → World → Prop) (hR : ∀ P q W W' B, R P q W → P B → w.heap.size ≤ B → Mod (· = B) W W' → R P q W')
    (HB : ∀ W, Ext w W → Calls Hvah.prog 29 #[.pointer (some ⟨g, 0, none⟩), .agg r] W fun e w' => ∃ P', e = .returned (.int .u8 0) ∧ (∃ n, J n P' w') ∧ Kept (fun b => P0 b ∨ (w.heap.size ≤ b ∧ b < W.heap.size)) P' W w')
    (HS : ∀ n P W, J (n + 1) P W → Calls Hvah.prog 30 #[.pointer (some ⟨g, 0, none⟩)] W fun e w' => ∃ P', e = .returned (.bool true) ∧ J n P' w' ∧ Kept P P' W w')
    (H0 : ∀ P W, J 0 P W → Calls Hvah.prog 30 #[.pointer (some ⟨g, 0, none⟩)] W fun e w' => ∃ P', e = .returned (.bool false) ∧ J' P' w' ∧ Kept P P' W w')
    (HF : ∀ P W, J' P W → Calls Hvah.prog 31 #[.pointer (some ⟨g, 0, none⟩)] W fun e w' => ∃ P' q, e = .returned (.agg q) ∧ q.size = 25 ∧ Ones q ∧ R P' q w' ∧ Kept P P' W w') :
    Calls Hvah.prog 13 #[.pointer (some ⟨g, 0, none⟩), .agg r] w fun e w' => ∃ P' q, e = .returned (.agg q) ∧ q.size = 25 ∧ R P' q w' ∧ Kept P0 P' w w' := by
  go_enter Hvah.func13, Hvah.ntmps13
  go_upto_region 4 with (first | ((with_reducible (refine Veil.out ?_; apply wl_boxB)); (case hx => rfl); (case hn => exact hr); rintro B3 W3 e3 b3 g3) | ((with_reducible (refine Veil.out ?_; apply wl_allocB z46)); (case hn => exact z46s); rintro B4 W4 e4 b4 g4) | ((with_reducible (refine Veil.out ?_; apply wl_loadRow rt35v)); (case hx => rfl); (case hB => exact b3.ext e4); (case hi => decide); rw [rowOf_cf hr]) | (go_at_call 29; refine (HB _ (e3.trans e4)).mono ?_; rintro e w5 ⟨P5, rfl, hJ5, k5⟩))
  try simp only [Act.put]
  obtain ⟨n5, hJ5⟩ := hJ5
  have hB4 : w.heap.size ≤ B4 := Nat.le_trans e3.size g4
  have b45 := b4.shp k5.mod
  have hP4 : P5 B4 := (k5.keep B4 b4.lt).2 (Or.inr ⟨hB4, b4.lt⟩)
  have eA : Ext w W4 := e3.trans e4
  have k05 : Kept P0 P5 w w5 := ⟨fun b hb => (k5.keep b (Nat.lt_of_lt_of_le hb eA.size)).trans ⟨fun q => q.elim id (fun q => by omega), Or.inl⟩, (eA.mod P0).trans' k5.mod (fun b hb => hb.elim Or.inl (fun q => Or.inr q.1))⟩
  clear b3 b4 k5 HB
  obtain ⟨pp, hpp⟩ : ∃ pp : World → Nat → Prop, ∀ W n, pp W n ↔ ∃ (P : Nat → Prop), J n P W ∧ Kept P0 P w W ∧ P B4 ∧ (∃ cB, Blk W B4 25 51 cB) := ⟨_, fun _ _ => Iff.rfl⟩
  go_loopw [] (fun wr => ∃ n, pp wr n) (fun wr => Classical.choose (least_all (pp wr)))
  case atStart => exact ⟨n5, (hpp _ _).2 ⟨P5, hJ5, k05, hP4, b45⟩⟩
  case round =>
    have hl := least_is hrel
    cases hn : Classical.choose (least_all (pp wr)) with
    | zero =>
      rw [hn] at hl
      obtain ⟨P, hJ, hk, hP, cB, hb⟩ := (hpp _ _).1 hl
      have HZ := H0 P wr hJ
      clear hrel hl hJ hJ5 H0 HS hpp hn b45 hP4 k05
      go_wp2_with (first | (go_at_call 30; refine HZ.mono ?_; rintro e w6 ⟨P6, rfl, hJ6, k6⟩; obtain ⟨cB6, b6⟩ := hb.shp k6.mod; have hP6 : P6 B4 := (k6.keep B4 hb.lt).2 hP; have HZ2 := HF P6 w6 hJ6) | (go_at_call 31; refine HZ2.mono ?_; rintro e w7 ⟨P7, q, rfl, hq1, hq2, hR7, k7⟩; obtain ⟨cB7, b7⟩ := b6.shp k7.mod) | ((with_reducible (refine Veil.out ?_; apply wl_storeRow rt46i)); (case hx => rfl); (case hy => rfl); (case hr => exact hq1); (case h1 => exact hq2); (case hB => exact b7); (case hi => decide); rintro W8 b8 m8))
      have hP7 : P7 B4 := (k7.keep B4 b6.lt).2 hP6
      refine post_row rt46i q hq1 rfl rfl (fun i u hu => ?_) rfl ?_
      · have hi := (Array.getElem?_eq_some_iff.1 hu).1
        have hc := b8.cell (i := i) (by omega)
        have hly := layv_in cB7 0 q hi
        rw [Nat.zero_add] at hly ⊢
        rw [hc, hly, cf_get hu]
      · have kk := (hk.trans k6).trans k7
        refine ⟨P7, q, rfl, hq1, hR P7 q w7 W8 B4 hR7 hP7 hB4 m8, ⟨kk.keep, ?_⟩⟩
        refine kk.mod.trans' m8 (fun b hb => Or.inr ?_)
        have hb2 : b = B4 := hb
        rw [hb2]; exact hB4
    | succ m =>
      rw [hn] at hl
      obtain ⟨P, hJ, hk, hP, cB, hb⟩ := (hpp _ _).1 hl
      have HZ := HS m P wr hJ
      have hmeas : Hid (Classical.choose (least_all (pp wr)) = m + 1) := hn
      clear hrel hl hJ hJ5 H0 HS HF hn b45 hP4 k05
      go_wp2_with (go_at_call 30; refine HZ.mono ?_; rintro e w6 ⟨P6, rfl, hJ6, k6⟩)
      have hpm : pp w6 m := (hpp _ _).2 ⟨P6, hJ6, hk.trans k6, (k6.keep B4 hb.lt).2 hP, hb.shp k6.mod⟩
      go_roundw
      case rel => exact ⟨m, hpm⟩
      case measure => have h1 := hmeas.out; have h2 := least_le hpm; omega
end
end Go.Proofs.YgvahwGreat
