import Derived.Test.YgvahwGreatLg
import Derived.Test.YgvahwGreatEw6
import Derived.Test.YgvahwGreatYh3
import Derived.Test.YgvahwGreatNz1
namespace Go.Proofs.YgvahwGreat
open Go.RowKit
set_option linter.unusedSimpArgs false
set_option linter.unusedVariables false
section
variable {w : World} {v : Value} {r : Array Value}
set_option maxRecDepth 100000 in
set_option maxHeartbeats 6400000 in
theorem lBothGood2 (hr : r.size = 120) (A : Nat → World → Prop) (B : Nat → Nat → World → Prop) (hA : ∀ g W W', A g W → Ext W W' → A g W') (hB : ∀ g Y W W', B g Y W → Ext W W' → B g Y W')
    (HE : ∀ W, Ext w W → Calls Hvah.prog 21 #[v, .agg r] W fun e w' => ∃ g, e = .returned (.tuple #[.pointer (some ⟨g, 0, none⟩), .bool true]) ∧ A g w' ∧ Ext W w')
    (HY : ∀ W g, Ext w W → A g W → Calls Hvah.prog 22 #[v, .agg r] W fun e w' => ∃ Y, e = .returned (.tuple #[.pointer (some ⟨Y, 0, none⟩), .bool true]) ∧ B g Y w' ∧ Ext W w')
    (HN : ∀ W, Ext w W → Calls Hvah.prog 23 #[v, .agg r, .bool true, .bool true] W fun e w' => e = .returned (.bool true) ∧ Ext W w') :
    Calls Hvah.prog 9 #[v, .agg r] w fun e w' => ∃ g Y, e = .returned (.tuple #[.pointer (some ⟨g, 0, none⟩), .pointer (some ⟨Y, 0, none⟩), .bool true]) ∧ B g Y w' ∧ Ext w w' := by
  go_enter Hvah.func9, Hvah.ntmps9
  go_wp2_with (first
    | ((with_reducible (refine Veil.out ?_; apply wl_boxB)); (case hx => rfl); (case hn => exact hr); rintro B3 W3 e3 b3 g3)
    | ((with_reducible (refine Veil.out ?_; apply wl_loadRow rt31i)); (case hx => rfl); (case hB => exact b3.ext (by (repeat (first | with_reducible exact Ext.refl _ | with_reducible assumption | refine Ext.trans ?_ (by with_reducible assumption) | refine Ext.alloc ?_ _ _ | refine Ext.drew ?_ | refine Ext.drewN ?_ _)))); (case hi => decide); rw [rowOf_cf hr])
    | (go_at_call 21; refine (HE _ (by (repeat (first | with_reducible exact Ext.refl _ | with_reducible assumption | refine Ext.trans ?_ (by with_reducible assumption) | refine Ext.alloc ?_ _ _ | refine Ext.drew ?_ | refine Ext.drewN ?_ _)))).mono ?_; rintro e w4 ⟨g, rfl, hAg, e4⟩)
    | (go_at_call 22; refine (HY _ g (by (repeat (first | with_reducible exact Ext.refl _ | with_reducible assumption | refine Ext.trans ?_ (by with_reducible assumption) | refine Ext.alloc ?_ _ _ | refine Ext.drew ?_ | refine Ext.drewN ?_ _))) (hA _ _ _ hAg (by first | exact Ext.refl _ | exact (Ext.refl _).drew))).mono ?_; rintro e w5 ⟨Y, rfl, hBY, e5⟩)
    | (go_at_call 23; refine (HN _ (by (repeat (first | with_reducible exact Ext.refl _ | with_reducible assumption | refine Ext.trans ?_ (by with_reducible assumption) | refine Ext.alloc ?_ _ _ | refine Ext.drew ?_ | refine Ext.drewN ?_ _)))).mono ?_; rintro e w6 ⟨rfl, e6⟩))
  go_ret3
  exact ⟨g, Y, rfl, hB _ _ _ _ hBY e6, by (repeat (first | with_reducible exact Ext.refl _ | with_reducible assumption | refine Ext.trans ?_ (by with_reducible assumption) | refine Ext.alloc ?_ _ _ | refine Ext.drew ?_ | refine Ext.drewN ?_ _))⟩
end
/-- Both chains at the start: the engine's own blocks are told by own, the specification's are marked 9. -/
structure CBc (n0 : Nat) (l : List IAcct) (e : AEnv) (g Y : Nat) (W : World) (own : Nat → Nat) (c cY : Nat → Value) (n1 : Nat) : Prop where
  h : MRep own W g c (fillV l) (st0 l e) [] []
  old : ∀ b, b < n0 → own b = 0
  gl : n0 ≤ g
  nine : ∀ b, n1 ≤ b → b < W.heap.size → own b = 9
  yi : YI (OY (fun b => n0 ≤ b ∧ b < n1) Y) W Y cY (newW l) (st0 l e) (sumI l)
  y10 : cY 10 = .slice none 0 0
  yl : n1 ≤ Y
  nl : n0 ≤ n1
  gn : g < n1
def CB (w0 : World) (l : List IAcct) (e : AEnv) (g Y : Nat) (P : Nat → Prop) (w : World) : Prop :=
  ∃ W own c cY n1, CBc w0.heap.size l e g Y W own c cY n1 ∧ (∀ b, P b ↔ EP own b ∨ b = Y) ∧ Ext w0 W ∧ Ext W w
section
variable {w : World} {v : Value} {r : Array Value} {l : List IAcct} {e : AEnv}
theorem bothGood (hin : EL 55 (IAcC (fun _ => False) w) (fun _ => False) w v l) (hl : worldOKI l = true) (hr : r.size = 120) (h : EnvI (fun _ => False) w (cf r) e) (hf : e.hashes.length ≤ 4) {W : World} (eW : Ext w W) : Calls Hvah.prog 9 #[v, .agg r] W fun x w' => ∃ g Y P, x = .returned (.tuple #[.pointer (some ⟨g, 0, none⟩), .pointer (some ⟨Y, 0, none⟩), .bool true]) ∧ CB w l e g Y P w' ∧ Ext W w' := by
  have hin2 : ∀ W, Ext w W → EL 55 (IAcC (fun _ => False) W) (fun _ => False) W v l := fun W hW => hin.mono hW (fun _ _ _ k => k.ext hW)
  have reo : ∀ (W : World) (O : Nat → Prop), Ext w W → (∀ b, b < w.heap.size → ¬ O b) → EL 55 (IAcC O W) O W v l ∧ EnvI O W (cf r) e := fun W O hW hO => by
    refine ⟨(hin.reoS (R' := IAcC O w) (O' := O) (fun b hb q => hO b hb q) (fun _ _ _ k => k.reoS (fun b hb q => hO b hb q))).mono hW (fun _ _ _ k => k.ext hW), EnvI.ext (w := w) { h with hashes := h.hashes.reo (fun b hb q => hO b hb q) } hW⟩
  refine (lBothGood2 hr (fun g W1 => ∃ W0 own c, EIdle w.heap.size l e own W0 g c ∧ Ext W0 W1) (fun g Y W1 => ∃ P, CB w l e g Y P W1) ?_ ?_ (fun W1 e1 => ?_) (fun W1 g e1 hA => ?_) (fun W1 e1 => ?_)).mono ?_
  · rintro g W1 W2 ⟨W0, own, c, h1, h2⟩ e2
    exact ⟨W0, own, c, h1, h2.trans e2⟩
  · rintro g Y W1 W2 ⟨P, W0, own, c, cY, n1, h1, h2, h0, h3⟩ e2
    exact ⟨P, W0, own, c, cY, n1, h1, h2, h0, h3.trans e2⟩
  · have ew := eW.trans e1
    refine (eNewI (hin2 W1 ew) hl hr (h.ext ew) hf).mono ?_
    rintro x w' ⟨g, own, c, rfl, h1, h2⟩
    exact ⟨g, rfl, ⟨w', own, c, ⟨h1.h, fun b hb => h1.old b (Nat.lt_of_lt_of_le hb ew.size), Nat.le_trans ew.size h1.gl⟩, Ext.refl _⟩, h2⟩
  · obtain ⟨W0, own, c, h1, h2⟩ := hA
    have ew := eW.trans e1
    obtain ⟨q1, q2⟩ := reo W1 (fun b => w.heap.size ≤ b ∧ b < W1.heap.size) ew (fun b hb q => by omega)
    refine (yNewGood (fun b q => q.2) q1 hl hr q2 hf).mono ?_
    rintro x w' ⟨Y, cY, rfl, hY, h10, hYl, e2⟩
    have hR := h1.h.ext h2
    obtain ⟨own9, k1, k2, k3⟩ := hR.tag9 (P := fun b => W1.heap.size ≤ b ∧ b < w'.heap.size) e2 (fun b hb => hb)
    have hyi := hY (st0 l e) rfl rfl rfl rfl rfl
    exact ⟨Y, rfl, ⟨fun b => EP own9 b ∨ b = Y, w', own9, c, cY, W1.heap.size, ⟨k3, fun b hb => (k2 b (by have := ew.size; omega)).trans (h1.old b hb), h1.gl, fun b q1 q2 => k1 b ⟨q1, q2⟩, hyi, h10, hYl, ew.size, hR.v.blk.lt⟩, fun b => Iff.rfl, ew.trans e2, Ext.refl _⟩, e2⟩
  · have ew := eW.trans e1
    exact lNewsHold hr (h.ext ew) (hin2 W1 ew) true (by rw [hl, decide_eq_true hf]; rfl)
  · rintro x w' ⟨g, Y, rfl, ⟨P, hP⟩, e2⟩
    exact ⟨g, Y, P, rfl, hP, e2⟩
end
end Go.Proofs.YgvahwGreat
