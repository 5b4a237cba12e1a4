import Derived.Test.YgvahwGreatEf
import Derived.Test.YgvahwGreatAp0
import Derived.Test.YgvahwGreatAp1
namespace Go.Proofs.YgvahwGreat
open Go.RowKit
set_option linter.unusedSimpArgs false

theorem least_ex {p : Nat → Prop} : (∃ n, p n) → ∃ n, p n ∧ ∀ m, p m → n ≤ m := fun ⟨n, hn⟩ => by
  induction n using Nat.strongRecOn with
  | _ n ih =>
    by_cases h : ∃ m, m < n ∧ p m
    · obtain ⟨m, h1, h2⟩ := h
      exact ih m h1 h2
    · exact ⟨n, hn, fun m hm => Classical.byContradiction (fun q => h ⟨m, by omega, hm⟩)⟩
/-- The least number with a property. -/
theorem least_all (p : Nat → Prop) : ∃ n, (∀ m, p m → p n) ∧ ∀ m, p m → n ≤ m := by
  rcases Classical.em (∃ m, p m) with h | h
  · obtain ⟨n, h1, h2⟩ := least_ex h
    exact ⟨n, fun _ _ => h1, h2⟩
  · exact ⟨0, fun m hm => absurd ⟨m, hm⟩ h, fun m hm => absurd ⟨m, hm⟩ h⟩
theorem least_is {p : Nat → Prop} (h : ∃ n, p n) : p (Classical.choose (least_all p)) := by
  obtain ⟨m, hm⟩ := h
  exact (Classical.choose_spec (least_all p)).1 m hm
theorem least_le {p : Nat → Prop} {m : Nat} (h : p m) : Classical.choose (least_all p) ≤ m := (Classical.choose_spec (least_all p)).2 m h
section
variable {w : World} {p : Value} {r : Array Value} {P0 : Nat → Prop}
set_option maxRecDepth 100000 in
set_option maxHeartbeats 6400000 in
theorem eApplyRefused {g : Nat} (v : Nat) (hv : v ≠ 0) (hr : r.size = 174) (hfr : ∀ b, w.heap.size ≤ b → ¬ P0 b) (R : (Nat → Prop) → World → Prop) (hR : ∀ P W W' B, R P W → ¬ P B → w.heap.size ≤ B → Mod (· = B) W W' → R P W')
    (HB : ∀ W, Ext w W → Calls Hvah.prog 24 #[.pointer (some ⟨g, 0, none⟩), .agg r] W fun e w' => ∃ P', e = .returned (.int .u8 (v : Nat)) ∧ R P' w' ∧ Kept P0 P' W w') :
    Calls Hvah.prog 11 #[.pointer (some ⟨g, 0, none⟩), .agg r] w fun e w' => ∃ P', e = .returned (.agg (recV v)) ∧ R P' w' ∧ Kept P0 P' w w' := by
  have z0 : ¬ (v : Int) = 0 := by omega
  go_enter Hvah.func11, Hvah.ntmps11
  go_wp2_with (first | ((with_reducible (refine Veil.out ?_; apply wl_boxB)); (case hx => rfl); (case hn => exact hr); rintro B3 W3 e3 b3 g3) | ((with_reducible (refine Veil.out ?_; apply wl_allocB z46)); (case hn => exact z46s); rintro B4 W4 e4 b4 g4) | ((with_reducible (refine Veil.out ?_; apply wl_loadRow rt35v)); (case hx => rfl); (case hB => exact b3.ext e4); (case hi => decide); rw [rowOf_cf hr]) | (go_at_call 24; refine (HB _ (e3.trans e4)).mono ?_; rintro e w5 ⟨P', rfl, hR5, k5⟩; have b45 := b4.mod k5.mod (fun q => hfr B4 (Nat.le_trans e3.size g4) q)) | ((with_reducible (refine Veil.out ?_; apply wl_storeRow rt46i)); (case hx => rfl); (case hy => exact (show _ = Value.agg (recV v) from rfl)); (case hr => exact recV_size v); (case h1 => exact recV_ones v); (case hB => exact b45); (case hi => decide); rintro W6 b6 m6))
  have hB4 : w.heap.size ≤ B4 := Nat.le_trans e3.size g4
  have hP4 : ¬ P' B4 := fun q => hfr B4 hB4 ((k5.keep B4 b4.lt).1 q)
  refine post_row rt46i (recV v) (recV_size v) rfl rfl (fun i u hu => ?_) rfl ?_
  · have hi := (Array.getElem?_eq_some_iff.1 hu).1
    have hq := b6.cell (i := i) (by rw [recV_size] at hi; exact hi)
    have hl := layv_in (cf z46a) 0 (recV v) hi
    rw [Nat.zero_add] at hl ⊢
    rw [hq, hl, cf_get hu]
  · have k6 : Kept P' P' w5 W6 → True := fun _ => trivial
    refine ⟨P', rfl, hR P' w5 W6 B4 hR5 hP4 hB4 m6, ⟨fun b hb => (k5.keep b (Nat.lt_of_lt_of_le hb (e3.trans e4).size)), ?_⟩⟩
    refine (((e3.trans e4).mod P0).trans' k5.mod (fun b hb => Or.inl hb)).trans' m6 (fun b hb => Or.inr ?_)
    have hb2 : b = B4 := hb
    rw [hb2]; exact hB4
set_option maxRecDepth 100000 in
set_option maxHeartbeats 6400000 in
theorem eApplyDone {g : Nat} (hr : r.size = 174) (hfr : ∀ b, w.heap.size ≤ b → ¬ P0 b) (J : Nat → (Nat → Prop) → World → Prop) (J' : (Nat → Prop) → World → Prop) (R : (Nat → Prop) → Array Value → Nat → World → Prop) (hR : ∀ P q N W W' B, R P q N W → ¬ P B → w.heap.size ≤ B → B < N → Mod (· = B) W W' → R P q N W')
    (HB : ∀ W, Ext w W → Calls Hvah.prog 24 #[.pointer (some ⟨g, 0, none⟩), .agg r] W fun e w' => ∃ P', e = .returned (.int .u8 0) ∧ (∃ n, J n P' w') ∧ Kept P0 P' W w')
    (HS : ∀ n P W, J (n + 1) P W → Calls Hvah.prog 25 #[.pointer (some ⟨g, 0, none⟩)] W fun e w' => ∃ P', e = .returned (.bool true) ∧ J n P' w' ∧ Kept P P' W w')
    (H0 : ∀ P W, J 0 P W → Calls Hvah.prog 25 #[.pointer (some ⟨g, 0, none⟩)] W fun e w' => ∃ P', e = .returned (.bool false) ∧ J' P' w' ∧ Kept P P' W w')
    (HF : ∀ P W, J' P W → Calls Hvah.prog 26 #[.pointer (some ⟨g, 0, none⟩)] W fun e w' => ∃ P' q, e = .returned (.agg q) ∧ q.size = 25 ∧ Ones q ∧ R P' q W.heap.size w' ∧ Kept P P' W w') :
    Calls Hvah.prog 11 #[.pointer (some ⟨g, 0, none⟩), .agg r] w fun e w' => ∃ P' q N, e = .returned (.agg q) ∧ q.size = 25 ∧ R P' q N w' ∧ Kept P0 P' w w' := by
  go_enter Hvah.func11, Hvah.ntmps11
  go_upto_region 4 with (first | ((with_reducible (refine Veil.out ?_; apply wl_boxB)); (case hx => rfl); (case hn => exact hr); rintro B3 W3 e3 b3 g3) | ((with_reducible (refine Veil.out ?_; apply wl_allocB z46)); (case hn => exact z46s); rintro B4 W4 e4 b4 g4) | ((with_reducible (refine Veil.out ?_; apply wl_loadRow rt35v)); (case hx => rfl); (case hB => exact b3.ext e4); (case hi => decide); rw [rowOf_cf hr]) | (go_at_call 24; refine (HB _ (e3.trans e4)).mono ?_; rintro e w5 ⟨P5, rfl, hJ5, k5⟩))
  try simp only [Act.put]
  obtain ⟨n5, hJ5⟩ := hJ5
  have hB4 : w.heap.size ≤ B4 := Nat.le_trans e3.size g4
  have b45 := b4.mod k5.mod (fun q => hfr B4 hB4 q)
  have hP4 : ¬ P5 B4 := fun q => hfr B4 hB4 ((k5.keep B4 b4.lt).1 q)
  have k05 : Kept P0 P5 w w5 := (Kept.ext (e3.trans e4)).trans k5
  clear b3 b4 k5 HB
  obtain ⟨pp, hpp⟩ : ∃ pp : World → Nat → Prop, ∀ W n, pp W n ↔ ∃ (P : Nat → Prop), J n P W ∧ Kept P0 P w W ∧ ¬ P B4 ∧ Blk W B4 25 51 (cf z46a) := ⟨_, fun _ _ => Iff.rfl⟩
  go_loopw [] (fun wr => ∃ n, pp wr n) (fun wr => Classical.choose (least_all (pp wr)))
  case atStart => exact ⟨n5, (hpp _ _).2 ⟨P5, hJ5, k05, hP4, b45⟩⟩
  case round =>
    have hl := least_is hrel
    cases hn : Classical.choose (least_all (pp wr)) with
    | zero =>
      rw [hn] at hl
      obtain ⟨P, hJ, hk, hP, hb⟩ := (hpp _ _).1 hl
      have HZ := H0 P wr hJ
      clear hrel hl hJ hJ5 H0 HS hpp hn b45 hP4 k05
      go_wp2_with (first | (go_at_call 25; refine HZ.mono ?_; rintro e w6 ⟨P6, rfl, hJ6, k6⟩; have b6 := hb.mod k6.mod hP; have hP6 : ¬ P6 B4 := fun q => hP ((k6.keep B4 hb.lt).1 q); have HZ2 := HF P6 w6 hJ6) | (go_at_call 26; refine HZ2.mono ?_; rintro e w7 ⟨P7, q, rfl, hq1, hq2, hR7, k7⟩; have b7 := b6.mod k7.mod hP6) | ((with_reducible (refine Veil.out ?_; apply wl_storeRow rt46i)); (case hx => rfl); (case hy => rfl); (case hr => exact hq1); (case h1 => exact hq2); (case hB => exact b7); (case hi => decide); rintro W8 b8 m8))
      have hP7 : ¬ P7 B4 := fun z => hP6 ((k7.keep B4 b6.lt).1 z)
      refine post_row rt46i q hq1 rfl rfl (fun i u hu => ?_) rfl ?_
      · have hi := (Array.getElem?_eq_some_iff.1 hu).1
        have hc := b8.cell (i := i) (by omega)
        have hly := layv_in (cf z46a) 0 q hi
        rw [Nat.zero_add] at hly ⊢
        rw [hc, hly, cf_get hu]
      · have kk := (hk.trans k6).trans k7
        refine ⟨P7, q, w6.heap.size, rfl, hq1, hR P7 q _ w7 W8 B4 hR7 hP7 hB4 b6.lt m8, ⟨kk.keep, ?_⟩⟩
        refine kk.mod.trans' m8 (fun b hb => Or.inr ?_)
        have hb2 : b = B4 := hb
        rw [hb2]; exact hB4
    | succ m =>
      rw [hn] at hl
      obtain ⟨P, hJ, hk, hP, hb⟩ := (hpp _ _).1 hl
      have HZ := HS m P wr hJ
      have hmeas : Hid (Classical.choose (least_all (pp wr)) = m + 1) := hn
      clear hrel hl hJ hJ5 H0 HS HF hn b45 hP4 k05
      go_wp2_with (go_at_call 25; refine HZ.mono ?_; rintro e w6 ⟨P6, rfl, hJ6, k6⟩)
      have hpm : pp w6 m := (hpp _ _).2 ⟨P6, hJ6, hk.trans k6, fun q => hP ((k6.keep B4 hb.lt).1 q), hb.mod k6.mod hP⟩
      go_roundw
      case rel => exact ⟨m, hpm⟩
      case measure => have h1 := hmeas.out; have h2 := least_le hpm; omega
set_option maxRecDepth 100000 in
set_option maxHeartbeats 6400000 in
theorem yApplyRefused {g : Nat} (v : Nat) (hv : v ≠ 0) (hr : r.size = 174) (hfr : ∀ b, w.heap.size ≤ b → ¬ P0 b) (R : (Nat → Prop) → World → Prop) (hR : ∀ P W W' B, R P W → ¬ P B → w.heap.size ≤ B → Mod (· = B) W W' → R P W')
    (HB : ∀ W, Ext w W → Calls Hvah.prog 29 #[.pointer (some ⟨g, 0, none⟩), .agg r] W fun e w' => ∃ P', e = .returned (.int .u8 (v : Nat)) ∧ R P' w' ∧ Kept P0 P' W w') :
    Calls Hvah.prog 13 #[.pointer (some ⟨g, 0, none⟩), .agg r] w fun e w' => ∃ P', e = .returned (.agg (recV v)) ∧ R P' w' ∧ Kept P0 P' w w' := by
  have z0 : ¬ (v : Int) = 0 := by omega
  go_enter Hvah.func13, Hvah.ntmps13
  go_wp2_with (first | ((with_reducible (refine Veil.out ?_; apply wl_boxB)); (case hx => rfl); (case hn => exact hr); rintro B3 W3 e3 b3 g3) | ((with_reducible (refine Veil.out ?_; apply wl_allocB z46)); (case hn => exact z46s); rintro B4 W4 e4 b4 g4) | ((with_reducible (refine Veil.out ?_; apply wl_loadRow rt35v)); (case hx => rfl); (case hB => exact b3.ext e4); (case hi => decide); rw [rowOf_cf hr]) | (go_at_call 29; refine (HB _ (e3.trans e4)).mono ?_; rintro e w5 ⟨P', rfl, hR5, k5⟩; have b45 := b4.mod k5.mod (fun q => hfr B4 (Nat.le_trans e3.size g4) q)) | ((with_reducible (refine Veil.out ?_; apply wl_storeRow rt46i)); (case hx => rfl); (case hy => exact (show _ = Value.agg (recV v) from rfl)); (case hr => exact recV_size v); (case h1 => exact recV_ones v); (case hB => exact b45); (case hi => decide); rintro W6 b6 m6))
  have hB4 : w.heap.size ≤ B4 := Nat.le_trans e3.size g4
  have hP4 : ¬ P' B4 := fun q => hfr B4 hB4 ((k5.keep B4 b4.lt).1 q)
  refine post_row rt46i (recV v) (recV_size v) rfl rfl (fun i u hu => ?_) rfl ?_
  · have hi := (Array.getElem?_eq_some_iff.1 hu).1
    have hq := b6.cell (i := i) (by rw [recV_size] at hi; exact hi)
    have hl := layv_in (cf z46a) 0 (recV v) hi
    rw [Nat.zero_add] at hl ⊢
    rw [hq, hl, cf_get hu]
  · have k6 : Kept P' P' w5 W6 → True := fun _ => trivial
    refine ⟨P', rfl, hR P' w5 W6 B4 hR5 hP4 hB4 m6, ⟨fun b hb => (k5.keep b (Nat.lt_of_lt_of_le hb (e3.trans e4).size)), ?_⟩⟩
    refine (((e3.trans e4).mod P0).trans' k5.mod (fun b hb => Or.inl hb)).trans' m6 (fun b hb => Or.inr ?_)
    have hb2 : b = B4 := hb
    rw [hb2]; exact hB4
set_option maxRecDepth 100000 in
set_option maxHeartbeats 6400000 in
theorem yApplyDone {g : Nat} (hr : r.size = 174) (hfr : ∀ b, w.heap.size ≤ b → ¬ P0 b) (J : Nat → (Nat → Prop) → World → Prop) (J' : (Nat → Prop) → World → Prop) (R : (Nat → Prop) → Array Value → Nat → World → Prop) (hR : ∀ P q N W W' B, R P q N W → ¬ P B → w.heap.size ≤ B → B < N → Mod (· = B) W W' → R P q N W')
    (HB : ∀ W, Ext w W → Calls Hvah.prog 29 #[.pointer (some ⟨g, 0, none⟩), .agg r] W fun e w' => ∃ P', e = .returned (.int .u8 0) ∧ (∃ n, J n P' w') ∧ Kept P0 P' W w')
    (HS : ∀ n P W, J (n + 1) P W → Calls Hvah.prog 30 #[.pointer (some ⟨g, 0, none⟩)] W fun e w' => ∃ P', e = .returned (.bool true) ∧ J n P' w' ∧ Kept P P' W w')
    (H0 : ∀ P W, J 0 P W → Calls Hvah.prog 30 #[.pointer (some ⟨g, 0, none⟩)] W fun e w' => ∃ P', e = .returned (.bool false) ∧ J' P' w' ∧ Kept P P' W w')
    (HF : ∀ P W, J' P W → Calls Hvah.prog 31 #[.pointer (some ⟨g, 0, none⟩)] W fun e w' => ∃ P' q, e = .returned (.agg q) ∧ q.size = 25 ∧ Ones q ∧ R P' q W.heap.size w' ∧ Kept P P' W w') :
    Calls Hvah.prog 13 #[.pointer (some ⟨g, 0, none⟩), .agg r] w fun e w' => ∃ P' q N, e = .returned (.agg q) ∧ q.size = 25 ∧ R P' q N w' ∧ Kept P0 P' w w' := by
  go_enter Hvah.func13, Hvah.ntmps13
  go_upto_region 4 with (first | ((with_reducible (refine Veil.out ?_; apply wl_boxB)); (case hx => rfl); (case hn => exact hr); rintro B3 W3 e3 b3 g3) | ((with_reducible (refine Veil.out ?_; apply wl_allocB z46)); (case hn => exact z46s); rintro B4 W4 e4 b4 g4) | ((with_reducible (refine Veil.out ?_; apply wl_loadRow rt35v)); (case hx => rfl); (case hB => exact b3.ext e4); (case hi => decide); rw [rowOf_cf hr]) | (go_at_call 29; refine (HB _ (e3.trans e4)).mono ?_; rintro e w5 ⟨P5, rfl, hJ5, k5⟩))
  try simp only [Act.put]
  obtain ⟨n5, hJ5⟩ := hJ5
  have hB4 : w.heap.size ≤ B4 := Nat.le_trans e3.size g4
  have b45 := b4.mod k5.mod (fun q => hfr B4 hB4 q)
  have hP4 : ¬ P5 B4 := fun q => hfr B4 hB4 ((k5.keep B4 b4.lt).1 q)
  have k05 : Kept P0 P5 w w5 := (Kept.ext (e3.trans e4)).trans k5
  clear b3 b4 k5 HB
  obtain ⟨pp, hpp⟩ : ∃ pp : World → Nat → Prop, ∀ W n, pp W n ↔ ∃ (P : Nat → Prop), J n P W ∧ Kept P0 P w W ∧ ¬ P B4 ∧ Blk W B4 25 51 (cf z46a) := ⟨_, fun _ _ => Iff.rfl⟩
  go_loopw [] (fun wr => ∃ n, pp wr n) (fun wr => Classical.choose (least_all (pp wr)))
  case atStart => exact ⟨n5, (hpp _ _).2 ⟨P5, hJ5, k05, hP4, b45⟩⟩
  case round =>
    have hl := least_is hrel
    cases hn : Classical.choose (least_all (pp wr)) with
    | zero =>
      rw [hn] at hl
      obtain ⟨P, hJ, hk, hP, hb⟩ := (hpp _ _).1 hl
      have HZ := H0 P wr hJ
      clear hrel hl hJ hJ5 H0 HS hpp hn b45 hP4 k05
      go_wp2_with (first | (go_at_call 30; refine HZ.mono ?_; rintro e w6 ⟨P6, rfl, hJ6, k6⟩; have b6 := hb.mod k6.mod hP; have hP6 : ¬ P6 B4 := fun q => hP ((k6.keep B4 hb.lt).1 q); have HZ2 := HF P6 w6 hJ6) | (go_at_call 31; refine HZ2.mono ?_; rintro e w7 ⟨P7, q, rfl, hq1, hq2, hR7, k7⟩; have b7 := b6.mod k7.mod hP6) | ((with_reducible (refine Veil.out ?_; apply wl_storeRow rt46i)); (case hx => rfl); (case hy => rfl); (case hr => exact hq1); (case h1 => exact hq2); (case hB => exact b7); (case hi => decide); rintro W8 b8 m8))
      have hP7 : ¬ P7 B4 := fun z => hP6 ((k7.keep B4 b6.lt).1 z)
      refine post_row rt46i q hq1 rfl rfl (fun i u hu => ?_) rfl ?_
      · have hi := (Array.getElem?_eq_some_iff.1 hu).1
        have hc := b8.cell (i := i) (by omega)
        have hly := layv_in (cf z46a) 0 q hi
        rw [Nat.zero_add] at hly ⊢
        rw [hc, hly, cf_get hu]
      · have kk := (hk.trans k6).trans k7
        refine ⟨P7, q, w6.heap.size, rfl, hq1, hR P7 q _ w7 W8 B4 hR7 hP7 hB4 b6.lt m8, ⟨kk.keep, ?_⟩⟩
        refine kk.mod.trans' m8 (fun b hb => Or.inr ?_)
        have hb2 : b = B4 := hb
        rw [hb2]; exact hB4
    | succ m =>
      rw [hn] at hl
      obtain ⟨P, hJ, hk, hP, hb⟩ := (hpp _ _).1 hl
      have HZ := HS m P wr hJ
      have hmeas : Hid (Classical.choose (least_all (pp wr)) = m + 1) := hn
      clear hrel hl hJ hJ5 H0 HS HF hn b45 hP4 k05
      go_wp2_with (go_at_call 30; refine HZ.mono ?_; rintro e w6 ⟨P6, rfl, hJ6, k6⟩)
      have hpm : pp w6 m := (hpp _ _).2 ⟨P6, hJ6, hk.trans k6, fun q => hP ((k6.keep B4 hb.lt).1 q), hb.mod k6.mod hP⟩
      go_roundw
      case rel => exact ⟨m, hpm⟩
      case measure => have h1 := hmeas.out; have h2 := least_le hpm; omega
end
end Go.Proofs.YgvahwGreat
