import Derived.Test.YgvahwGreatLf
namespace Go.Proofs.YgvahwGreat
open Go.RowKit
set_option linter.unusedSimpArgs false

set_option maxRecDepth 100000 in
def z35a : Array Value := #[.int .u8 0, .int .u8 0, .int .u8 0, .int .u8 0, .int .u8 0, .int .u8 0, .int .u8 0, .int .u8 0, .int .u8 0, .int .u8 0, .int .u8 0, .int .u8 0, .int .u8 0, .int .u8 0, .int .u8 0, .int .u8 0, .int .u8 0, .int .u8 0, .int .u8 0, .int .u8 0, .int .u8 0, .int .u8 0, .int .u8 0, .int .u8 0, .int .u8 0, .int .u8 0, .int .u8 0, .int .u8 0, .int .u8 0, .int .u8 0, .int .u8 0, .int .u8 0, .int .u8 0, .int .u8 0, .int .u8 0, .int .u8 0, .int .u8 0, .int .u8 0, .int .u8 0, .int .u8 0, .bool false, .int .u64 0, .int .u64 0, .int .u8 0, .int .u8 0, .int .u8 0, .int .u8 0, .int .u8 0, .int .u8 0, .int .u8 0, .int .u8 0, .int .u8 0, .int .u8 0, .int .u8 0, .int .u8 0, .int .u8 0, .int .u8 0, .int .u8 0, .int .u8 0, .int .u8 0, .int .u8 0, .int .u8 0, .int .u8 0, .int .u8 0, .int .u8 0, .int .u8 0, .int .u8 0, .int .u8 0, .int .u8 0, .int .u8 0, .int .u8 0, .int .u8 0, .int .u8 0, .int .u8 0, .int .u8 0, .int .u8 0, .int .u8 0, .int .u8 0, .int .u8 0, .int .u8 0, .int .u8 0, .int .u8 0, .int .u8 0, .int .u8 0, .int .u8 0, .int .u8 0, .int .u8 0, .int .u8 0, .int .u8 0, .int .u8 0, .int .u8 0, .int .u8 0, .int .u8 0, .int .u8 0, .int .u8 0, .int .u8 0, .int .u8 0, .int .u8 0, .int .u8 0, .int .u8 0, .int .u8 0, .int .u8 0, .int .u8 0, .int .u8 0, .int .u8 0, .int .u8 0, .int .u8 0, .slice none 0 0, .bool false, .int .u8 0, .int .u8 0, .int .u8 0, .int .u8 0, .int .u8 0, .int .u8 0, .int .u8 0, .int .u8 0, .int .u8 0, .int .u8 0, .int .u8 0, .int .u8 0, .int .u8 0, .int .u8 0, .int .u8 0, .int .u8 0, .int .u8 0, .int .u8 0, .int .u8 0, .int .u8 0, .int .u8 0, .int .u8 0, .int .u8 0, .int .u8 0, .int .u8 0, .int .u8 0, .int .u8 0, .int .u8 0, .int .u8 0, .int .u8 0, .int .u8 0, .int .u8 0, .int .u8 0, .int .u8 0, .int .u8 0, .int .u8 0, .int .u8 0, .int .u8 0, .int .u8 0, .int .u8 0, .int .u8 0, .int .u8 0, .int .u8 0, .int .u8 0, .int .u8 0, .int .u8 0, .int .u8 0, .int .u8 0, .int .u8 0, .int .u8 0, .int .u8 0, .int .u8 0, .int .u8 0, .int .u8 0, .int .u8 0, .int .u8 0, .int .u8 0, .int .u8 0, .int .u8 0, .int .u8 0, .int .u8 0, .int .u8 0, .int .u8 0, .int .u8 0, .slice none 0 0]
set_option maxRecDepth 100000 in
theorem z35 : zeroOf Hvah.prog 40 = some z35a := by kernel_rfl
theorem under37 : Hvah.prog.underlying 42 = some (.slice 40) := by kernel_rfl
theorem info35 : Hvah.prog.info? 40 = some Hvah.t40 := by kernel_rfl
set_option maxRecDepth 100000 in
theorem zero35v : Hvah.t40.zero = some (.agg z35a) := by kernel_rfl
theorem size35v : Hvah.t40.size = 174 := by kernel_rfl
set_option maxRecDepth 100000 in
theorem z35s : z35a.size = 174 := rfl
theorem blk_laid {W : World} {B n : Nat} {t : TypeId} {z x : Array Value} (hx : x.size = n) (h : Blk W B n t (layv (cf z) 0 x)) : Blk W B n t (cf x) := h.same (fun i hi => by
  have := layv_in (cf z) 0 x (j := i) (by omega)
  rw [Nat.zero_add] at this
  exact this.symm)
section
variable {w : World} {v : Value} {r x : Array Value} {tb tc : Nat}
set_option maxRecDepth 100000 in
set_option maxHeartbeats 6400000 in
theorem lTower (hr : r.size = 120) (hx : x.size = 174) (hx1 : Ones x) (hrow : RowIn w tb 0 x) (htb : tb < w.heap.size)
    (C : Nat → Nat → (Nat → Prop) → World → Prop) (hC : ∀ g Y P W W', C g Y P W → Ext W W' → C g Y P W') (hCf : ∀ g Y P W, C g Y P W → ∀ b, W.heap.size ≤ b → ¬ P b) (hCn : ∀ g Y P W, C g Y P W → ∀ b, P b → w.heap.size ≤ b)
    (C1 : Nat → Nat → (Nat → Prop) → Array Value → World → Prop) (hC1' : ∀ g Y P q W W', C1 g Y P q W → Ext W W' → C1 g Y P q W') (hC1f : ∀ g Y P q W, C1 g Y P q W → ∀ b, W.heap.size ≤ b → ¬ P b)
    (C2 : Nat → Nat → (Nat → Prop) → Array Value → Array Value → World → Prop)
    (C3 : Nat → Nat → (Nat → Prop) → Array Value → Array Value → Value → World → Prop)
    (C4 : Nat → Nat → (Nat → Prop) → Array Value → Array Value → Value → Value → World → Prop)
    (H5 : ∀ W, Ext w W → Calls Hvah.prog 9 #[v, .agg r] W fun e w' => ∃ g Y P, e = .returned (.tuple #[.pointer (some ⟨g, 0, none⟩), .pointer (some ⟨Y, 0, none⟩), .bool true]) ∧ C g Y P w' ∧ Ext W w')
    (H7 : ∀ g Y P W, C g Y P W → Calls Hvah.prog 11 #[.pointer (some ⟨g, 0, none⟩), .agg x] W fun e w' => ∃ P' q, e = .returned (.agg q) ∧ q.size = 25 ∧ Ones q ∧ C1 g Y P' q w' ∧ Kept P P' W w')
    (H9 : ∀ g Y P q W, C1 g Y P q W → Calls Hvah.prog 13 #[.pointer (some ⟨Y, 0, none⟩), .agg x] W fun e w' => ∃ P' q2, e = .returned (.agg q2) ∧ C2 g Y P' q q2 w' ∧ Kept P P' W w')
    (H10 : ∀ g Y P q q2 W, C2 g Y P q q2 W → Calls Hvah.prog 14 #[.pointer (some ⟨g, 0, none⟩)] W fun e w' => ∃ v1, e = .returned v1 ∧ C3 g Y P q q2 v1 w' ∧ Ext W w')
    (H11 : ∀ g Y P q q2 v1 W, C3 g Y P q q2 v1 W → Calls Hvah.prog 15 #[.pointer (some ⟨Y, 0, none⟩)] W fun e w' => ∃ v2, e = .returned v2 ∧ C4 g Y P q q2 v1 v2 w' ∧ Ext W w')
    (H8 : ∀ g Y P q q2 v1 v2 W, C4 g Y P q q2 v1 v2 W → Calls Hvah.prog 12 #[.agg q, .agg q2, v1, v2] W fun e w' => e = .returned (.bool true) ∧ Ext W w') :
    Calls Hvah.prog 4 #[v, .agg r, .slice (some ⟨tb, 0, none⟩) 1 tc] w fun e w' => e = .returned (.bool true) ∧ Mod (fun _ => False) w w' := by
  go_enter Hvah.func4, Hvah.ntmps4
  go_upto_region 5 with (first | ((with_reducible (refine Veil.out ?_; apply wl_boxB)); (case hx => rfl); (case hn => exact hr); rintro B4 W4 e4 b4 g4) | ((with_reducible (refine Veil.out ?_; apply wl_loadRow rt31i)); (case hx => rfl); (case hB => exact b4); (case hi => decide); rw [rowOf_cf hr]) | (go_at_call 9; refine (H5 _ e4).mono ?_; rintro e w5 ⟨g, Y, P, rfl, hC5, e5⟩) | (go_at_call 10; refine (lCutTxs _ _ _).mono ?_; rintro e w6 ⟨rfl, hww⟩; replace hww := hww.symm; subst hww))
  try simp only [Act.put]
  have e05 : Ext w w5 := e4.trans e5
  go_loopw [26] (fun iv wr => (iv = .int .i64 0 ∧ wr = w5) ∨ (iv = .int .i64 1 ∧ Mod (fun _ => False) w wr)) (fun iv _ => 1 - (intOf iv).toNat)
  case atStart => exact Or.inl ⟨rfl, rfl⟩
  case round =>
    rcases hrel with ⟨rfl, rfl⟩ | ⟨rfl, hmf⟩
    · have hrw : RowIn wr tb (0 + 0 * 174) x := by
        rw [Nat.zero_mul, Nat.add_zero]; exact RowIn.ext hrow htb e05
      have hrw0 : RowIn wr tb 0 x := RowIn.ext hrow htb e05
      go_upto_region 7 with (first | ((with_reducible (refine Veil.out ?_; apply wl_loadR rt35v tb 0 x hx)); (case hx => rfl); (case hr => exact hrw0)) | ((with_reducible (refine Veil.out ?_; apply wl_allocB z35)); (case hn => exact z35s); rintro B11 W7 e7 b7 g7) | ((with_reducible (refine Veil.out ?_; apply wl_storeRow rt35v)); (case hx => rfl); (case hy => rfl); (case hr => exact hx); (case h1 => exact hx1); (case hB => exact b7); (case hi => decide); rintro W8 b8 m8))
      have eA : Ext wr W8 := Ext.trans_mod e7 m8 (fun q hq => by have hq2 : q = B11 := hq; rw [hq2]; exact g7)
      have b11 := blk_laid hx b8
      have hP11 : ¬ P B11 := hCf _ _ _ _ hC5 B11 g7
      have HZ := H7 _ _ _ _ (hC _ _ _ _ _ hC5 eA)
      clear b7 b8 m8 hrw hrw0
      go_upto_region 8 with (first | ((with_reducible (refine Veil.out ?_; apply wl_loadRow rt35v)); (case hx => rfl); (case hB => exact b11); (case hi => decide); rw [rowOf_cf hx]) | (go_at_call 11; refine HZ.mono ?_; rintro e w9 ⟨P9, q, rfl, hq1, hq2, h9, k9⟩) | ((with_reducible (refine Veil.out ?_; apply wl_allocB z46)); (case hn => exact z46s); rintro B12 W10 e10 b10 g10) | ((with_reducible (refine Veil.out ?_; apply wl_storeRow rt46i)); (case hx => rfl); (case hy => rfl); (case hr => exact hq1); (case h1 => exact hq2); (case hB => exact b10); (case hi => decide); rintro W11 b13 m11))
      have eB : Ext w9 W11 := Ext.trans_mod e10 m11 (fun z hz => by have hz2 : z = B12 := hz; rw [hz2]; exact g10)
      have b12 := blk_laid hq1 b13
      have b11l := b11.lt
      replace b11 := (b11.mod k9.mod hP11).ext eB
      replace hP11 : ¬ P9 B11 := fun z => hP11 ((k9.keep B11 b11l).1 z)
      have hP12 : ¬ P9 B12 := hC1f _ _ _ _ _ h9 B12 g10
      replace h9 := hC1' _ _ _ _ _ _ h9 eB
      have mW : Mod (fun _ => False) w W11 := Mod.trans_ext (Mod.trans' (Mod.trans_ext (e05.mod _) eA) k9.mod (fun b hb => Or.inr (hCn _ _ _ _ hC5 b hb))) eB
      have hn9 : ∀ b, P9 b → False ∨ w.heap.size ≤ b := fun b hb => by
        rcases Nat.lt_or_ge b w.heap.size with z | z
        · exact Or.inr (hCn _ _ _ _ hC5 b ((k9.keep b (Nat.lt_of_lt_of_le z (e05.trans eA).size)).1 hb))
        · exact Or.inr z
      clear b10 b13 m11 HZ
      refine w_ext ?_
      rintro W0 hW0
      refine wp_region_held_drew (S := fun w' => (Blk w' B12 25 51 (cf q) ∧ Blk w' B11 174 40 (cf x))) (by kernel_rfl) ⟨(b12.ext hW0).drew, (b11.ext hW0).drew⟩ (fun hHeld => ?_)
      have HH : Hid ((Blk _ B12 25 51 (cf q) ∧ Blk _ B11 174 40 (cf x))) := hHeld
      clear hHeld
      refine wpAnyH_take (i := 0) rfl (by kernel_rfl) (by kernel_rfl) (by kernel_rfl) (fun _ _ _ h => h) (cast_row rt46i (by rfl) rfl rfl (fun w hSw => hSw.1) hq1) HH.out ?_
      change wpAnyH _ _ _ _ _ _ _ (Act.put _ (some 33) _) _
      simp only [Act.put, List.setIfInBounds_toArray, List.set_cons_zero, List.set_cons_succ]
      refine wpAnyH_take (i := 1) (v := ?_) rfl (by kernel_rfl) (by kernel_rfl) (by kernel_rfl) (fun _ _ _ h => h) (Or.inl ⟨by rfl, ?_⟩) HH.out ?_
      rotate_left
      · intro w hSw; go_simp; try with_reducible rfl
      change wpAnyH _ _ _ _ _ _ _ (Act.put _ (some 34) _) _
      simp only [Act.put, List.setIfInBounds_toArray, List.set_cons_zero, List.set_cons_succ]
      refine wpAnyH_take (i := 2) rfl (by kernel_rfl) (by kernel_rfl) (by kernel_rfl) (fun _ _ _ h => h) (cast_row rt35v (by rfl) rfl rfl (fun w hSw => hSw.2) hx) HH.out ?_
      change wpAnyH _ _ _ _ _ _ _ (Act.put _ (some 35) _) _
      simp only [Act.put, List.setIfInBounds_toArray, List.set_cons_zero, List.set_cons_succ]
      refine wpAnyH_take (i := 4) (v := ?_) rfl (by kernel_rfl) (by kernel_rfl) (by kernel_rfl) (fun _ _ _ h => h) (Or.inl ⟨by rfl, ?_⟩) HH.out ?_
      rotate_left
      · intro w hSw; go_simp; try with_reducible rfl
      change wpAnyH _ _ _ _ _ _ _ (Act.put _ (some 37) _) _
      simp only [Act.put, List.setIfInBounds_toArray, List.set_cons_zero, List.set_cons_succ]
      refine wpAnyH_take (i := 6) (v := ?_) rfl (by kernel_rfl) (by kernel_rfl) (by kernel_rfl) (fun _ _ _ h => h) (Or.inl ⟨by rfl, ?_⟩) HH.out ?_
      rotate_left
      · intro w hSw; go_simp; try with_reducible rfl
      change wpAnyH _ _ _ _ _ _ _ (Act.put _ (some 39) _) _
      simp only [Act.put, List.setIfInBounds_toArray, List.set_cons_zero, List.set_cons_succ]
      refine wpAnyH_ready (rs := [3]) (by kernel_rfl) (by simp) ?_
      refine AllReadyH.cons rfl (fun K hK => ?_) AllReadyH.nil
      go_simp
      go_at_call 13; refine (H9 _ _ _ _ _ (hC1' _ _ _ _ _ _ h9 (by (repeat (first | with_reducible exact Ext.refl _ | with_reducible assumption | refine Ext.trans ?_ (by with_reducible assumption) | refine Ext.alloc ?_ _ _ | refine Ext.drew ?_ | refine Ext.drewN ?_ _))))).mono ?_; rintro e w12 ⟨P12, q2, rfl, h12, k12⟩; have m12 : Mod (fun _ => False) w w12 := Mod.trans' (Mod.trans_ext mW (show Ext W11 _ by (repeat (first | with_reducible exact Ext.refl _ | with_reducible assumption | refine Ext.trans ?_ (by with_reducible assumption) | refine Ext.alloc ?_ _ _ | refine Ext.drew ?_ | refine Ext.drewN ?_ _)))) k12.mod hn9; have he := True.intro
      refine hK.out _ _ ?_ (fun hHeld => ?_)
      · first | exact ⟨HH.out.1.ext he, HH.out.2.ext he⟩ | exact ⟨HH.out.1.mod k12.mod hP12, HH.out.2.mod k12.mod hP11⟩
      clear hK K HH
      have HH : Hid ((Blk _ B12 25 51 (cf q) ∧ Blk _ B11 174 40 (cf x))) := hHeld
      clear hHeld
      refine wpAnyH_ready (rs := [5]) (by kernel_rfl) (by simp) ?_
      refine AllReadyH.cons rfl (fun K hK => ?_) AllReadyH.nil
      go_simp
      go_at_call 14; refine (H10 _ _ _ _ _ _ h12).mono ?_; rintro e w13 ⟨v1, rfl, h13, e13⟩; have he := e13
      refine hK.out _ _ ?_ (fun hHeld => ?_)
      · first | exact ⟨HH.out.1.ext he, HH.out.2.ext he⟩ | exact ⟨HH.out.1.mod k12.mod hP12, HH.out.2.mod k12.mod hP11⟩
      clear hK K HH
      have HH : Hid ((Blk _ B12 25 51 (cf q) ∧ Blk _ B11 174 40 (cf x))) := hHeld
      clear hHeld
      refine wpAnyH_ready (rs := [7]) (by kernel_rfl) (by simp) ?_
      refine AllReadyH.cons rfl (fun K hK => ?_) AllReadyH.nil
      go_simp
      go_at_call 15; refine (H11 _ _ _ _ _ _ _ h13).mono ?_; rintro e w14 ⟨v2, rfl, h14, e14⟩; have he := e14
      refine hK.out _ _ ?_ (fun hHeld => ?_)
      · first | exact ⟨HH.out.1.ext he, HH.out.2.ext he⟩ | exact ⟨HH.out.1.mod k12.mod hP12, HH.out.2.mod k12.mod hP11⟩
      clear hK K HH
      have HH : Hid ((Blk _ B12 25 51 (cf q) ∧ Blk _ B11 174 40 (cf x))) := hHeld
      clear hHeld
      refine wpAnyH_ready (rs := [8]) (by kernel_rfl) (by simp) ?_
      refine AllReadyH.cons rfl (fun K hK => ?_) AllReadyH.nil
      go_simp
      go_at_call 12; refine (H8 _ _ _ _ _ _ _ _ h14).mono ?_; rintro e w15 ⟨rfl, e15⟩; have he := e15
      refine hK.out _ _ ?_ (fun hHeld => ?_)
      · first | exact ⟨HH.out.1.ext he, HH.out.2.ext he⟩ | exact ⟨HH.out.1.mod k12.mod hP12, HH.out.2.mod k12.mod hP11⟩
      clear hK K HH
      have HH : Hid ((Blk _ B12 25 51 (cf q) ∧ Blk _ B11 174 40 (cf x))) := hHeld
      clear hHeld
      refine wpAnyH_take (i := 9) (v := ?_) rfl (by kernel_rfl) (by kernel_rfl) (by kernel_rfl) (fun _ _ _ h => h) (Or.inl ⟨by rfl, ?_⟩) HH.out ?_
      rotate_left
      · intro w hSw; go_simp; try with_reducible rfl
      change wpAnyH _ _ _ _ _ _ _ (Act.put _ (some 42) _) _
      simp only [Act.put, List.setIfInBounds_toArray, List.set_cons_zero, List.set_cons_succ]
      refine wpAnyH_done (by kernel_rfl) ?_ _
      go_wp2
      go_roundw
      case rel => exact Or.inr ⟨rfl, Mod.trans_ext m12 (e13.trans (e14.trans e15))⟩
      case measure => simp [intOf]
    · go_wp2
      go_ret
      exact ⟨rfl, hmf⟩
end
end Go.Proofs.YgvahwGreat
