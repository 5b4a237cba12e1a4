import Derived.Test.YgvahwGreatRowsM
import Derived.Test.YgvahwGreatMLd
namespace Go.Proofs.YgvahwGreat
open Go.RowKit
set_option linter.unusedSimpArgs false

theorem ret3 {k1 k2 k3 : IntKind} {a a' b b' c c' : Int} (h1 : a = a') (h2 : b = b') (h3 : c = c') : Ending.returned (.tuple #[.int k1 a, .int k2 b, .int k3 c]) = Ending.returned (.tuple #[.int k1 a', .int k2 b', .int k3 c']) := by rw [h1, h2, h3]
section
set_option maxRecDepth 100000 in
set_option maxHeartbeats 6400000 in
theorem mSstoreP (o v n : Nat) (cold : Bool) (ho : o < P256) (hv : v < P256) (hn : n < P256) (w : World) : Calls Hvah.prog 314 #[wv o, wv v, wv n, .bool cold] w fun e w' => e = .returned (.tuple #[.int .u64 (sstoreCost o v n cold : Nat), .int .u64 (sstorePlus o v n : Nat), .int .u64 (sstoreMinus o v n : Nat)]) ∧ Ext w w' := by
  obtain ⟨b1, h1⟩ : ∃ b, Hid (decide (n = v) = b) := ⟨_, rfl⟩
  obtain ⟨b2, h2⟩ : ∃ b, Hid (decide (v = o) = b) := ⟨_, rfl⟩
  obtain ⟨b3, h3⟩ : ∃ b, Hid (decide (n = o) = b) := ⟨_, rfl⟩
  obtain ⟨z1, g1⟩ : ∃ b, Hid (decide (o = 0) = b) := ⟨_, rfl⟩
  obtain ⟨z2, g2⟩ : ∃ b, Hid (decide (v = 0) = b) := ⟨_, rfl⟩
  obtain ⟨z3, g3⟩ : ∃ b, Hid (decide (n = 0) = b) := ⟨_, rfl⟩
  have E1 : ∀ W, (Op.equalIn 10000 79 (wv n) (wv v)).run Hvah.prog W = .ok b1 W := fun W => by rw [run_eq_wv W n v hn hv, h1.out]
  have E2 : ∀ W, (Op.equalIn 10000 79 (wv v) (wv o)).run Hvah.prog W = .ok b2 W := fun W => by rw [run_eq_wv W v o hv ho, h2.out]
  have E3 : ∀ W, (Op.equalIn 10000 79 (wv n) (wv o)).run Hvah.prog W = .ok b3 W := fun W => by rw [run_eq_wv W n o hn ho, h3.out]
  have Z1 : ∀ W, Calls Hvah.prog 87 #[wv o] W fun e w' => e = .returned (.bool z1) ∧ Ext W w' := fun W => by rw [← g1.out]; exact uIsZero o W ho
  have Z2 : ∀ W, Calls Hvah.prog 87 #[wv v] W fun e w' => e = .returned (.bool z2) ∧ Ext W w' := fun W => by rw [← g2.out]; exact uIsZero v W hv
  have Z3 : ∀ W, Calls Hvah.prog 87 #[wv n] W fun e w' => e = .returned (.bool z3) ∧ Ext W w' := fun W => by rw [← g3.out]; exact uIsZero n W hn
  clear ho hv hn
  cases cold with
  | true =>
    cases b1 with
    | true =>
      go_enter Hvah.func314, Hvah.ntmps314
      go_wp2_with (first | ((with_reducible (refine Veil.out ?_; apply wl_boxW)); (case hx => rfl); rintro B W c e b a hBg) | ((with_reducible (refine Veil.out ?_; apply wl_loadWB)); (case hx => rfl); (case hB => exact Blk.ext (by with_reducible assumption) (by (repeat (first | with_reducible exact Ext.refl _ | with_reducible assumption | refine Ext.trans ?_ (by with_reducible assumption) | refine Ext.alloc ?_ _ _ | refine Ext.drew ?_ | refine Ext.drewN ?_ _)))); (case hW => with_reducible assumption); (case hi => decide)) | (go_at_call 87; (first | with_reducible refine (Z1 _).mono ?_ | with_reducible refine (Z2 _).mono ?_ | with_reducible refine (Z3 _).mono ?_); rintro e w1 ⟨rfl, he⟩))
      go_ret3
      refine ⟨ret3 ?_ ?_ ?_, by (repeat (first | with_reducible exact Ext.refl _ | with_reducible assumption | refine Ext.trans ?_ (by with_reducible assumption) | refine Ext.alloc ?_ _ _ | refine Ext.drew ?_ | refine Ext.drewN ?_ _))⟩
      all_goals clear E1 E2 E3 Z1 Z2 Z3
      all_goals have q0 := h1.out
      all_goals simp only [decide_eq_true_eq, decide_eq_false_iff_not] at q0
      · unfold sstoreCost; (repeat' split) <;> first | omega | (simp_all; done) | (simp_all; omega)
      · unfold sstorePlus; (repeat' split) <;> first | omega | (simp_all; done) | (simp_all; omega)
      · unfold sstoreMinus; (repeat' split) <;> first | omega | (simp_all; done) | (simp_all; omega)
    | false =>
      cases b2 with
      | true =>
        cases z1 with
        | true =>
          go_enter Hvah.func314, Hvah.ntmps314
          go_wp2_with (first | ((with_reducible (refine Veil.out ?_; apply wl_boxW)); (case hx => rfl); rintro B W c e b a hBg) | ((with_reducible (refine Veil.out ?_; apply wl_loadWB)); (case hx => rfl); (case hB => exact Blk.ext (by with_reducible assumption) (by (repeat (first | with_reducible exact Ext.refl _ | with_reducible assumption | refine Ext.trans ?_ (by with_reducible assumption) | refine Ext.alloc ?_ _ _ | refine Ext.drew ?_ | refine Ext.drewN ?_ _)))); (case hW => with_reducible assumption); (case hi => decide)) | (go_at_call 87; (first | with_reducible refine (Z1 _).mono ?_ | with_reducible refine (Z2 _).mono ?_ | with_reducible refine (Z3 _).mono ?_); rintro e w1 ⟨rfl, he⟩))
          go_ret3
          refine ⟨ret3 ?_ ?_ ?_, by (repeat (first | with_reducible exact Ext.refl _ | with_reducible assumption | refine Ext.trans ?_ (by with_reducible assumption) | refine Ext.alloc ?_ _ _ | refine Ext.drew ?_ | refine Ext.drewN ?_ _))⟩
          all_goals clear E1 E2 E3 Z1 Z2 Z3
          all_goals have q0 := h1.out
          all_goals simp only [decide_eq_true_eq, decide_eq_false_iff_not] at q0
          all_goals have q1 := h2.out
          all_goals simp only [decide_eq_true_eq, decide_eq_false_iff_not] at q1
          all_goals have q2 := g1.out
          all_goals simp only [decide_eq_true_eq, decide_eq_false_iff_not] at q2
          · unfold sstoreCost; (repeat' split) <;> first | omega | (simp_all; done) | (simp_all; omega)
          · unfold sstorePlus; (repeat' split) <;> first | omega | (simp_all; done) | (simp_all; omega)
          · unfold sstoreMinus; (repeat' split) <;> first | omega | (simp_all; done) | (simp_all; omega)
        | false =>
          cases z3 with
          | true =>
            go_enter Hvah.func314, Hvah.ntmps314
            go_wp2_with (first | ((with_reducible (refine Veil.out ?_; apply wl_boxW)); (case hx => rfl); rintro B W c e b a hBg) | ((with_reducible (refine Veil.out ?_; apply wl_loadWB)); (case hx => rfl); (case hB => exact Blk.ext (by with_reducible assumption) (by (repeat (first | with_reducible exact Ext.refl _ | with_reducible assumption | refine Ext.trans ?_ (by with_reducible assumption) | refine Ext.alloc ?_ _ _ | refine Ext.drew ?_ | refine Ext.drewN ?_ _)))); (case hW => with_reducible assumption); (case hi => decide)) | (go_at_call 87; (first | with_reducible refine (Z1 _).mono ?_ | with_reducible refine (Z2 _).mono ?_ | with_reducible refine (Z3 _).mono ?_); rintro e w1 ⟨rfl, he⟩))
            go_ret3
            refine ⟨ret3 ?_ ?_ ?_, by (repeat (first | with_reducible exact Ext.refl _ | with_reducible assumption | refine Ext.trans ?_ (by with_reducible assumption) | refine Ext.alloc ?_ _ _ | refine Ext.drew ?_ | refine Ext.drewN ?_ _))⟩
            all_goals clear E1 E2 E3 Z1 Z2 Z3
            all_goals have q0 := h1.out
            all_goals simp only [decide_eq_true_eq, decide_eq_false_iff_not] at q0
            all_goals have q1 := h2.out
            all_goals simp only [decide_eq_true_eq, decide_eq_false_iff_not] at q1
            all_goals have q2 := g1.out
            all_goals simp only [decide_eq_true_eq, decide_eq_false_iff_not] at q2
            all_goals have q3 := g3.out
            all_goals simp only [decide_eq_true_eq, decide_eq_false_iff_not] at q3
            · unfold sstoreCost; (repeat' split) <;> first | omega | (simp_all; done) | (simp_all; omega)
            · unfold sstorePlus; (repeat' split) <;> first | omega | (simp_all; done) | (simp_all; omega)
            · unfold sstoreMinus; (repeat' split) <;> first | omega | (simp_all; done) | (simp_all; omega)
          | false =>
            go_enter Hvah.func314, Hvah.ntmps314
            go_wp2_with (first | ((with_reducible (refine Veil.out ?_; apply wl_boxW)); (case hx => rfl); rintro B W c e b a hBg) | ((with_reducible (refine Veil.out ?_; apply wl_loadWB)); (case hx => rfl); (case hB => exact Blk.ext (by with_reducible assumption) (by (repeat (first | with_reducible exact Ext.refl _ | with_reducible assumption | refine Ext.trans ?_ (by with_reducible assumption) | refine Ext.alloc ?_ _ _ | refine Ext.drew ?_ | refine Ext.drewN ?_ _)))); (case hW => with_reducible assumption); (case hi => decide)) | (go_at_call 87; (first | with_reducible refine (Z1 _).mono ?_ | with_reducible refine (Z2 _).mono ?_ | with_reducible refine (Z3 _).mono ?_); rintro e w1 ⟨rfl, he⟩))
            go_ret3
            refine ⟨ret3 ?_ ?_ ?_, by (repeat (first | with_reducible exact Ext.refl _ | with_reducible assumption | refine Ext.trans ?_ (by with_reducible assumption) | refine Ext.alloc ?_ _ _ | refine Ext.drew ?_ | refine Ext.drewN ?_ _))⟩
            all_goals clear E1 E2 E3 Z1 Z2 Z3
            all_goals have q0 := h1.out
            all_goals simp only [decide_eq_true_eq, decide_eq_false_iff_not] at q0
            all_goals have q1 := h2.out
            all_goals simp only [decide_eq_true_eq, decide_eq_false_iff_not] at q1
            all_goals have q2 := g1.out
            all_goals simp only [decide_eq_true_eq, decide_eq_false_iff_not] at q2
            all_goals have q3 := g3.out
            all_goals simp only [decide_eq_true_eq, decide_eq_false_iff_not] at q3
            · unfold sstoreCost; (repeat' split) <;> first | omega | (simp_all; done) | (simp_all; omega)
            · unfold sstorePlus; (repeat' split) <;> first | omega | (simp_all; done) | (simp_all; omega)
            · unfold sstoreMinus; (repeat' split) <;> first | omega | (simp_all; done) | (simp_all; omega)
      | false =>
        cases z1 with
        | true =>
          cases b3 with
          | true =>
            go_enter Hvah.func314, Hvah.ntmps314
            go_wp2_with (first | ((with_reducible (refine Veil.out ?_; apply wl_boxW)); (case hx => rfl); rintro B W c e b a hBg) | ((with_reducible (refine Veil.out ?_; apply wl_loadWB)); (case hx => rfl); (case hB => exact Blk.ext (by with_reducible assumption) (by (repeat (first | with_reducible exact Ext.refl _ | with_reducible assumption | refine Ext.trans ?_ (by with_reducible assumption) | refine Ext.alloc ?_ _ _ | refine Ext.drew ?_ | refine Ext.drewN ?_ _)))); (case hW => with_reducible assumption); (case hi => decide)) | (go_at_call 87; (first | with_reducible refine (Z1 _).mono ?_ | with_reducible refine (Z2 _).mono ?_ | with_reducible refine (Z3 _).mono ?_); rintro e w1 ⟨rfl, he⟩))
            go_ret3
            refine ⟨ret3 ?_ ?_ ?_, by (repeat (first | with_reducible exact Ext.refl _ | with_reducible assumption | refine Ext.trans ?_ (by with_reducible assumption) | refine Ext.alloc ?_ _ _ | refine Ext.drew ?_ | refine Ext.drewN ?_ _))⟩
            all_goals clear E1 E2 E3 Z1 Z2 Z3
            all_goals have q0 := h1.out
            all_goals simp only [decide_eq_true_eq, decide_eq_false_iff_not] at q0
            all_goals have q1 := h2.out
            all_goals simp only [decide_eq_true_eq, decide_eq_false_iff_not] at q1
            all_goals have q2 := g1.out
            all_goals simp only [decide_eq_true_eq, decide_eq_false_iff_not] at q2
            all_goals have q3 := h3.out
            all_goals simp only [decide_eq_true_eq, decide_eq_false_iff_not] at q3
            · unfold sstoreCost; (repeat' split) <;> first | omega | (simp_all; done) | (simp_all; omega)
            · unfold sstorePlus; (repeat' split) <;> first | omega | (simp_all; done) | (simp_all; omega)
            · unfold sstoreMinus; (repeat' split) <;> first | omega | (simp_all; done) | (simp_all; omega)
          | false =>
            go_enter Hvah.func314, Hvah.ntmps314
            go_wp2_with (first | ((with_reducible (refine Veil.out ?_; apply wl_boxW)); (case hx => rfl); rintro B W c e b a hBg) | ((with_reducible (refine Veil.out ?_; apply wl_loadWB)); (case hx => rfl); (case hB => exact Blk.ext (by with_reducible assumption) (by (repeat (first | with_reducible exact Ext.refl _ | with_reducible assumption | refine Ext.trans ?_ (by with_reducible assumption) | refine Ext.alloc ?_ _ _ | refine Ext.drew ?_ | refine Ext.drewN ?_ _)))); (case hW => with_reducible assumption); (case hi => decide)) | (go_at_call 87; (first | with_reducible refine (Z1 _).mono ?_ | with_reducible refine (Z2 _).mono ?_ | with_reducible refine (Z3 _).mono ?_); rintro e w1 ⟨rfl, he⟩))
            go_ret3
            refine ⟨ret3 ?_ ?_ ?_, by (repeat (first | with_reducible exact Ext.refl _ | with_reducible assumption | refine Ext.trans ?_ (by with_reducible assumption) | refine Ext.alloc ?_ _ _ | refine Ext.drew ?_ | refine Ext.drewN ?_ _))⟩
            all_goals clear E1 E2 E3 Z1 Z2 Z3
            all_goals have q0 := h1.out
            all_goals simp only [decide_eq_true_eq, decide_eq_false_iff_not] at q0
            all_goals have q1 := h2.out
            all_goals simp only [decide_eq_true_eq, decide_eq_false_iff_not] at q1
            all_goals have q2 := g1.out
            all_goals simp only [decide_eq_true_eq, decide_eq_false_iff_not] at q2
            all_goals have q3 := h3.out
            all_goals simp only [decide_eq_true_eq, decide_eq_false_iff_not] at q3
            · unfold sstoreCost; (repeat' split) <;> first | omega | (simp_all; done) | (simp_all; omega)
            · unfold sstorePlus; (repeat' split) <;> first | omega | (simp_all; done) | (simp_all; omega)
            · unfold sstoreMinus; (repeat' split) <;> first | omega | (simp_all; done) | (simp_all; omega)
        | false =>
          cases z2 with
          | true =>
            cases b3 with
            | true =>
              go_enter Hvah.func314, Hvah.ntmps314
              go_wp2_with (first | ((with_reducible (refine Veil.out ?_; apply wl_boxW)); (case hx => rfl); rintro B W c e b a hBg) | ((with_reducible (refine Veil.out ?_; apply wl_loadWB)); (case hx => rfl); (case hB => exact Blk.ext (by with_reducible assumption) (by (repeat (first | with_reducible exact Ext.refl _ | with_reducible assumption | refine Ext.trans ?_ (by with_reducible assumption) | refine Ext.alloc ?_ _ _ | refine Ext.drew ?_ | refine Ext.drewN ?_ _)))); (case hW => with_reducible assumption); (case hi => decide)) | (go_at_call 87; (first | with_reducible refine (Z1 _).mono ?_ | with_reducible refine (Z2 _).mono ?_ | with_reducible refine (Z3 _).mono ?_); rintro e w1 ⟨rfl, he⟩))
              go_ret3
              refine ⟨ret3 ?_ ?_ ?_, by (repeat (first | with_reducible exact Ext.refl _ | with_reducible assumption | refine Ext.trans ?_ (by with_reducible assumption) | refine Ext.alloc ?_ _ _ | refine Ext.drew ?_ | refine Ext.drewN ?_ _))⟩
              all_goals clear E1 E2 E3 Z1 Z2 Z3
              all_goals have q0 := h1.out
              all_goals simp only [decide_eq_true_eq, decide_eq_false_iff_not] at q0
              all_goals have q1 := h2.out
              all_goals simp only [decide_eq_true_eq, decide_eq_false_iff_not] at q1
              all_goals have q2 := g1.out
              all_goals simp only [decide_eq_true_eq, decide_eq_false_iff_not] at q2
              all_goals have q3 := g2.out
              all_goals simp only [decide_eq_true_eq, decide_eq_false_iff_not] at q3
              all_goals have q4 := h3.out
              all_goals simp only [decide_eq_true_eq, decide_eq_false_iff_not] at q4
              · unfold sstoreCost; (repeat' split) <;> first | omega | (simp_all; done) | (simp_all; omega)
              · unfold sstorePlus; (repeat' split) <;> first | omega | (simp_all; done) | (simp_all; omega)
              · unfold sstoreMinus; (repeat' split) <;> first | omega | (simp_all; done) | (simp_all; omega)
            | false =>
              go_enter Hvah.func314, Hvah.ntmps314
              go_wp2_with (first | ((with_reducible (refine Veil.out ?_; apply wl_boxW)); (case hx => rfl); rintro B W c e b a hBg) | ((with_reducible (refine Veil.out ?_; apply wl_loadWB)); (case hx => rfl); (case hB => exact Blk.ext (by with_reducible assumption) (by (repeat (first | with_reducible exact Ext.refl _ | with_reducible assumption | refine Ext.trans ?_ (by with_reducible assumption) | refine Ext.alloc ?_ _ _ | refine Ext.drew ?_ | refine Ext.drewN ?_ _)))); (case hW => with_reducible assumption); (case hi => decide)) | (go_at_call 87; (first | with_reducible refine (Z1 _).mono ?_ | with_reducible refine (Z2 _).mono ?_ | with_reducible refine (Z3 _).mono ?_); rintro e w1 ⟨rfl, he⟩))
              go_ret3
              refine ⟨ret3 ?_ ?_ ?_, by (repeat (first | with_reducible exact Ext.refl _ | with_reducible assumption | refine Ext.trans ?_ (by with_reducible assumption) | refine Ext.alloc ?_ _ _ | refine Ext.drew ?_ | refine Ext.drewN ?_ _))⟩
              all_goals clear E1 E2 E3 Z1 Z2 Z3
              all_goals have q0 := h1.out
              all_goals simp only [decide_eq_true_eq, decide_eq_false_iff_not] at q0
              all_goals have q1 := h2.out
              all_goals simp only [decide_eq_true_eq, decide_eq_false_iff_not] at q1
              all_goals have q2 := g1.out
              all_goals simp only [decide_eq_true_eq, decide_eq_false_iff_not] at q2
              all_goals have q3 := g2.out
              all_goals simp only [decide_eq_true_eq, decide_eq_false_iff_not] at q3
              all_goals have q4 := h3.out
              all_goals simp only [decide_eq_true_eq, decide_eq_false_iff_not] at q4
              · unfold sstoreCost; (repeat' split) <;> first | omega | (simp_all; done) | (simp_all; omega)
              · unfold sstorePlus; (repeat' split) <;> first | omega | (simp_all; done) | (simp_all; omega)
              · unfold sstoreMinus; (repeat' split) <;> first | omega | (simp_all; done) | (simp_all; omega)
          | false =>
            cases z3 with
            | true =>
              cases b3 with
              | true =>
                go_enter Hvah.func314, Hvah.ntmps314
                go_wp2_with (first | ((with_reducible (refine Veil.out ?_; apply wl_boxW)); (case hx => rfl); rintro B W c e b a hBg) | ((with_reducible (refine Veil.out ?_; apply wl_loadWB)); (case hx => rfl); (case hB => exact Blk.ext (by with_reducible assumption) (by (repeat (first | with_reducible exact Ext.refl _ | with_reducible assumption | refine Ext.trans ?_ (by with_reducible assumption) | refine Ext.alloc ?_ _ _ | refine Ext.drew ?_ | refine Ext.drewN ?_ _)))); (case hW => with_reducible assumption); (case hi => decide)) | (go_at_call 87; (first | with_reducible refine (Z1 _).mono ?_ | with_reducible refine (Z2 _).mono ?_ | with_reducible refine (Z3 _).mono ?_); rintro e w1 ⟨rfl, he⟩))
                go_ret3
                refine ⟨ret3 ?_ ?_ ?_, by (repeat (first | with_reducible exact Ext.refl _ | with_reducible assumption | refine Ext.trans ?_ (by with_reducible assumption) | refine Ext.alloc ?_ _ _ | refine Ext.drew ?_ | refine Ext.drewN ?_ _))⟩
                all_goals clear E1 E2 E3 Z1 Z2 Z3
                all_goals have q0 := h1.out
                all_goals simp only [decide_eq_true_eq, decide_eq_false_iff_not] at q0
                all_goals have q1 := h2.out
                all_goals simp only [decide_eq_true_eq, decide_eq_false_iff_not] at q1
                all_goals have q2 := g1.out
                all_goals simp only [decide_eq_true_eq, decide_eq_false_iff_not] at q2
                all_goals have q3 := g2.out
                all_goals simp only [decide_eq_true_eq, decide_eq_false_iff_not] at q3
                all_goals have q4 := g3.out
                all_goals simp only [decide_eq_true_eq, decide_eq_false_iff_not] at q4
                all_goals have q5 := h3.out
                all_goals simp only [decide_eq_true_eq, decide_eq_false_iff_not] at q5
                · unfold sstoreCost; (repeat' split) <;> first | omega | (simp_all; done) | (simp_all; omega)
                · unfold sstorePlus; (repeat' split) <;> first | omega | (simp_all; done) | (simp_all; omega)
                · unfold sstoreMinus; (repeat' split) <;> first | omega | (simp_all; done) | (simp_all; omega)
              | false =>
                go_enter Hvah.func314, Hvah.ntmps314
                go_wp2_with (first | ((with_reducible (refine Veil.out ?_; apply wl_boxW)); (case hx => rfl); rintro B W c e b a hBg) | ((with_reducible (refine Veil.out ?_; apply wl_loadWB)); (case hx => rfl); (case hB => exact Blk.ext (by with_reducible assumption) (by (repeat (first | with_reducible exact Ext.refl _ | with_reducible assumption | refine Ext.trans ?_ (by with_reducible assumption) | refine Ext.alloc ?_ _ _ | refine Ext.drew ?_ | refine Ext.drewN ?_ _)))); (case hW => with_reducible assumption); (case hi => decide)) | (go_at_call 87; (first | with_reducible refine (Z1 _).mono ?_ | with_reducible refine (Z2 _).mono ?_ | with_reducible refine (Z3 _).mono ?_); rintro e w1 ⟨rfl, he⟩))
                go_ret3
                refine ⟨ret3 ?_ ?_ ?_, by (repeat (first | with_reducible exact Ext.refl _ | with_reducible assumption | refine Ext.trans ?_ (by with_reducible assumption) | refine Ext.alloc ?_ _ _ | refine Ext.drew ?_ | refine Ext.drewN ?_ _))⟩
                all_goals clear E1 E2 E3 Z1 Z2 Z3
                all_goals have q0 := h1.out
                all_goals simp only [decide_eq_true_eq, decide_eq_false_iff_not] at q0
                all_goals have q1 := h2.out
                all_goals simp only [decide_eq_true_eq, decide_eq_false_iff_not] at q1
                all_goals have q2 := g1.out
                all_goals simp only [decide_eq_true_eq, decide_eq_false_iff_not] at q2
                all_goals have q3 := g2.out
                all_goals simp only [decide_eq_true_eq, decide_eq_false_iff_not] at q3
                all_goals have q4 := g3.out
                all_goals simp only [decide_eq_true_eq, decide_eq_false_iff_not] at q4
                all_goals have q5 := h3.out
                all_goals simp only [decide_eq_true_eq, decide_eq_false_iff_not] at q5
                · unfold sstoreCost; (repeat' split) <;> first | omega | (simp_all; done) | (simp_all; omega)
                · unfold sstorePlus; (repeat' split) <;> first | omega | (simp_all; done) | (simp_all; omega)
                · unfold sstoreMinus; (repeat' split) <;> first | omega | (simp_all; done) | (simp_all; omega)
            | false =>
              cases b3 with
              | true =>
                go_enter Hvah.func314, Hvah.ntmps314
                go_wp2_with (first | ((with_reducible (refine Veil.out ?_; apply wl_boxW)); (case hx => rfl); rintro B W c e b a hBg) | ((with_reducible (refine Veil.out ?_; apply wl_loadWB)); (case hx => rfl); (case hB => exact Blk.ext (by with_reducible assumption) (by (repeat (first | with_reducible exact Ext.refl _ | with_reducible assumption | refine Ext.trans ?_ (by with_reducible assumption) | refine Ext.alloc ?_ _ _ | refine Ext.drew ?_ | refine Ext.drewN ?_ _)))); (case hW => with_reducible assumption); (case hi => decide)) | (go_at_call 87; (first | with_reducible refine (Z1 _).mono ?_ | with_reducible refine (Z2 _).mono ?_ | with_reducible refine (Z3 _).mono ?_); rintro e w1 ⟨rfl, he⟩))
                go_ret3
                refine ⟨ret3 ?_ ?_ ?_, by (repeat (first | with_reducible exact Ext.refl _ | with_reducible assumption | refine Ext.trans ?_ (by with_reducible assumption) | refine Ext.alloc ?_ _ _ | refine Ext.drew ?_ | refine Ext.drewN ?_ _))⟩
                all_goals clear E1 E2 E3 Z1 Z2 Z3
                all_goals have q0 := h1.out
                all_goals simp only [decide_eq_true_eq, decide_eq_false_iff_not] at q0
                all_goals have q1 := h2.out
                all_goals simp only [decide_eq_true_eq, decide_eq_false_iff_not] at q1
                all_goals have q2 := g1.out
                all_goals simp only [decide_eq_true_eq, decide_eq_false_iff_not] at q2
                all_goals have q3 := g2.out
                all_goals simp only [decide_eq_true_eq, decide_eq_false_iff_not] at q3
                all_goals have q4 := g3.out
                all_goals simp only [decide_eq_true_eq, decide_eq_false_iff_not] at q4
                all_goals have q5 := h3.out
                all_goals simp only [decide_eq_true_eq, decide_eq_false_iff_not] at q5
                · unfold sstoreCost; (repeat' split) <;> first | omega | (simp_all; done) | (simp_all; omega)
                · unfold sstorePlus; (repeat' split) <;> first | omega | (simp_all; done) | (simp_all; omega)
                · unfold sstoreMinus; (repeat' split) <;> first | omega | (simp_all; done) | (simp_all; omega)
              | false =>
                go_enter Hvah.func314, Hvah.ntmps314
                go_wp2_with (first | ((with_reducible (refine Veil.out ?_; apply wl_boxW)); (case hx => rfl); rintro B W c e b a hBg) | ((with_reducible (refine Veil.out ?_; apply wl_loadWB)); (case hx => rfl); (case hB => exact Blk.ext (by with_reducible assumption) (by (repeat (first | with_reducible exact Ext.refl _ | with_reducible assumption | refine Ext.trans ?_ (by with_reducible assumption) | refine Ext.alloc ?_ _ _ | refine Ext.drew ?_ | refine Ext.drewN ?_ _)))); (case hW => with_reducible assumption); (case hi => decide)) | (go_at_call 87; (first | with_reducible refine (Z1 _).mono ?_ | with_reducible refine (Z2 _).mono ?_ | with_reducible refine (Z3 _).mono ?_); rintro e w1 ⟨rfl, he⟩))
                go_ret3
                refine ⟨ret3 ?_ ?_ ?_, by (repeat (first | with_reducible exact Ext.refl _ | with_reducible assumption | refine Ext.trans ?_ (by with_reducible assumption) | refine Ext.alloc ?_ _ _ | refine Ext.drew ?_ | refine Ext.drewN ?_ _))⟩
                all_goals clear E1 E2 E3 Z1 Z2 Z3
                all_goals have q0 := h1.out
                all_goals simp only [decide_eq_true_eq, decide_eq_false_iff_not] at q0
                all_goals have q1 := h2.out
                all_goals simp only [decide_eq_true_eq, decide_eq_false_iff_not] at q1
                all_goals have q2 := g1.out
                all_goals simp only [decide_eq_true_eq, decide_eq_false_iff_not] at q2
                all_goals have q3 := g2.out
                all_goals simp only [decide_eq_true_eq, decide_eq_false_iff_not] at q3
                all_goals have q4 := g3.out
                all_goals simp only [decide_eq_true_eq, decide_eq_false_iff_not] at q4
                all_goals have q5 := h3.out
                all_goals simp only [decide_eq_true_eq, decide_eq_false_iff_not] at q5
                · unfold sstoreCost; (repeat' split) <;> first | omega | (simp_all; done) | (simp_all; omega)
                · unfold sstorePlus; (repeat' split) <;> first | omega | (simp_all; done) | (simp_all; omega)
                · unfold sstoreMinus; (repeat' split) <;> first | omega | (simp_all; done) | (simp_all; omega)
  | false =>
    cases b1 with
    | true =>
      go_enter Hvah.func314, Hvah.ntmps314
      go_wp2_with (first | ((with_reducible (refine Veil.out ?_; apply wl_boxW)); (case hx => rfl); rintro B W c e b a hBg) | ((with_reducible (refine Veil.out ?_; apply wl_loadWB)); (case hx => rfl); (case hB => exact Blk.ext (by with_reducible assumption) (by (repeat (first | with_reducible exact Ext.refl _ | with_reducible assumption | refine Ext.trans ?_ (by with_reducible assumption) | refine Ext.alloc ?_ _ _ | refine Ext.drew ?_ | refine Ext.drewN ?_ _)))); (case hW => with_reducible assumption); (case hi => decide)) | (go_at_call 87; (first | with_reducible refine (Z1 _).mono ?_ | with_reducible refine (Z2 _).mono ?_ | with_reducible refine (Z3 _).mono ?_); rintro e w1 ⟨rfl, he⟩))
      go_ret3
      refine ⟨ret3 ?_ ?_ ?_, by (repeat (first | with_reducible exact Ext.refl _ | with_reducible assumption | refine Ext.trans ?_ (by with_reducible assumption) | refine Ext.alloc ?_ _ _ | refine Ext.drew ?_ | refine Ext.drewN ?_ _))⟩
      all_goals clear E1 E2 E3 Z1 Z2 Z3
      all_goals have q0 := h1.out
      all_goals simp only [decide_eq_true_eq, decide_eq_false_iff_not] at q0
      · unfold sstoreCost; (repeat' split) <;> first | omega | (simp_all; done) | (simp_all; omega)
      · unfold sstorePlus; (repeat' split) <;> first | omega | (simp_all; done) | (simp_all; omega)
      · unfold sstoreMinus; (repeat' split) <;> first | omega | (simp_all; done) | (simp_all; omega)
    | false =>
      cases b2 with
      | true =>
        cases z1 with
        | true =>
          go_enter Hvah.func314, Hvah.ntmps314
          go_wp2_with (first | ((with_reducible (refine Veil.out ?_; apply wl_boxW)); (case hx => rfl); rintro B W c e b a hBg) | ((with_reducible (refine Veil.out ?_; apply wl_loadWB)); (case hx => rfl); (case hB => exact Blk.ext (by with_reducible assumption) (by (repeat (first | with_reducible exact Ext.refl _ | with_reducible assumption | refine Ext.trans ?_ (by with_reducible assumption) | refine Ext.alloc ?_ _ _ | refine Ext.drew ?_ | refine Ext.drewN ?_ _)))); (case hW => with_reducible assumption); (case hi => decide)) | (go_at_call 87; (first | with_reducible refine (Z1 _).mono ?_ | with_reducible refine (Z2 _).mono ?_ | with_reducible refine (Z3 _).mono ?_); rintro e w1 ⟨rfl, he⟩))
          go_ret3
          refine ⟨ret3 ?_ ?_ ?_, by (repeat (first | with_reducible exact Ext.refl _ | with_reducible assumption | refine Ext.trans ?_ (by with_reducible assumption) | refine Ext.alloc ?_ _ _ | refine Ext.drew ?_ | refine Ext.drewN ?_ _))⟩
          all_goals clear E1 E2 E3 Z1 Z2 Z3
          all_goals have q0 := h1.out
          all_goals simp only [decide_eq_true_eq, decide_eq_false_iff_not] at q0
          all_goals have q1 := h2.out
          all_goals simp only [decide_eq_true_eq, decide_eq_false_iff_not] at q1
          all_goals have q2 := g1.out
          all_goals simp only [decide_eq_true_eq, decide_eq_false_iff_not] at q2
          · unfold sstoreCost; (repeat' split) <;> first | omega | (simp_all; done) | (simp_all; omega)
          · unfold sstorePlus; (repeat' split) <;> first | omega | (simp_all; done) | (simp_all; omega)
          · unfold sstoreMinus; (repeat' split) <;> first | omega | (simp_all; done) | (simp_all; omega)
        | false =>
          cases z3 with
          | true =>
            go_enter Hvah.func314, Hvah.ntmps314
            go_wp2_with (first | ((with_reducible (refine Veil.out ?_; apply wl_boxW)); (case hx => rfl); rintro B W c e b a hBg) | ((with_reducible (refine Veil.out ?_; apply wl_loadWB)); (case hx => rfl); (case hB => exact Blk.ext (by with_reducible assumption) (by (repeat (first | with_reducible exact Ext.refl _ | with_reducible assumption | refine Ext.trans ?_ (by with_reducible assumption) | refine Ext.alloc ?_ _ _ | refine Ext.drew ?_ | refine Ext.drewN ?_ _)))); (case hW => with_reducible assumption); (case hi => decide)) | (go_at_call 87; (first | with_reducible refine (Z1 _).mono ?_ | with_reducible refine (Z2 _).mono ?_ | with_reducible refine (Z3 _).mono ?_); rintro e w1 ⟨rfl, he⟩))
            go_ret3
            refine ⟨ret3 ?_ ?_ ?_, by (repeat (first | with_reducible exact Ext.refl _ | with_reducible assumption | refine Ext.trans ?_ (by with_reducible assumption) | refine Ext.alloc ?_ _ _ | refine Ext.drew ?_ | refine Ext.drewN ?_ _))⟩
            all_goals clear E1 E2 E3 Z1 Z2 Z3
            all_goals have q0 := h1.out
            all_goals simp only [decide_eq_true_eq, decide_eq_false_iff_not] at q0
            all_goals have q1 := h2.out
            all_goals simp only [decide_eq_true_eq, decide_eq_false_iff_not] at q1
            all_goals have q2 := g1.out
            all_goals simp only [decide_eq_true_eq, decide_eq_false_iff_not] at q2
            all_goals have q3 := g3.out
            all_goals simp only [decide_eq_true_eq, decide_eq_false_iff_not] at q3
            · unfold sstoreCost; (repeat' split) <;> first | omega | (simp_all; done) | (simp_all; omega)
            · unfold sstorePlus; (repeat' split) <;> first | omega | (simp_all; done) | (simp_all; omega)
            · unfold sstoreMinus; (repeat' split) <;> first | omega | (simp_all; done) | (simp_all; omega)
          | false =>
            go_enter Hvah.func314, Hvah.ntmps314
            go_wp2_with (first | ((with_reducible (refine Veil.out ?_; apply wl_boxW)); (case hx => rfl); rintro B W c e b a hBg) | ((with_reducible (refine Veil.out ?_; apply wl_loadWB)); (case hx => rfl); (case hB => exact Blk.ext (by with_reducible assumption) (by (repeat (first | with_reducible exact Ext.refl _ | with_reducible assumption | refine Ext.trans ?_ (by with_reducible assumption) | refine Ext.alloc ?_ _ _ | refine Ext.drew ?_ | refine Ext.drewN ?_ _)))); (case hW => with_reducible assumption); (case hi => decide)) | (go_at_call 87; (first | with_reducible refine (Z1 _).mono ?_ | with_reducible refine (Z2 _).mono ?_ | with_reducible refine (Z3 _).mono ?_); rintro e w1 ⟨rfl, he⟩))
            go_ret3
            refine ⟨ret3 ?_ ?_ ?_, by (repeat (first | with_reducible exact Ext.refl _ | with_reducible assumption | refine Ext.trans ?_ (by with_reducible assumption) | refine Ext.alloc ?_ _ _ | refine Ext.drew ?_ | refine Ext.drewN ?_ _))⟩
            all_goals clear E1 E2 E3 Z1 Z2 Z3
            all_goals have q0 := h1.out
            all_goals simp only [decide_eq_true_eq, decide_eq_false_iff_not] at q0
            all_goals have q1 := h2.out
            all_goals simp only [decide_eq_true_eq, decide_eq_false_iff_not] at q1
            all_goals have q2 := g1.out
            all_goals simp only [decide_eq_true_eq, decide_eq_false_iff_not] at q2
            all_goals have q3 := g3.out
            all_goals simp only [decide_eq_true_eq, decide_eq_false_iff_not] at q3
            · unfold sstoreCost; (repeat' split) <;> first | omega | (simp_all; done) | (simp_all; omega)
            · unfold sstorePlus; (repeat' split) <;> first | omega | (simp_all; done) | (simp_all; omega)
            · unfold sstoreMinus; (repeat' split) <;> first | omega | (simp_all; done) | (simp_all; omega)
      | false =>
        cases z1 with
        | true =>
          cases b3 with
          | true =>
            go_enter Hvah.func314, Hvah.ntmps314
            go_wp2_with (first | ((with_reducible (refine Veil.out ?_; apply wl_boxW)); (case hx => rfl); rintro B W c e b a hBg) | ((with_reducible (refine Veil.out ?_; apply wl_loadWB)); (case hx => rfl); (case hB => exact Blk.ext (by with_reducible assumption) (by (repeat (first | with_reducible exact Ext.refl _ | with_reducible assumption | refine Ext.trans ?_ (by with_reducible assumption) | refine Ext.alloc ?_ _ _ | refine Ext.drew ?_ | refine Ext.drewN ?_ _)))); (case hW => with_reducible assumption); (case hi => decide)) | (go_at_call 87; (first | with_reducible refine (Z1 _).mono ?_ | with_reducible refine (Z2 _).mono ?_ | with_reducible refine (Z3 _).mono ?_); rintro e w1 ⟨rfl, he⟩))
            go_ret3
            refine ⟨ret3 ?_ ?_ ?_, by (repeat (first | with_reducible exact Ext.refl _ | with_reducible assumption | refine Ext.trans ?_ (by with_reducible assumption) | refine Ext.alloc ?_ _ _ | refine Ext.drew ?_ | refine Ext.drewN ?_ _))⟩
            all_goals clear E1 E2 E3 Z1 Z2 Z3
            all_goals have q0 := h1.out
            all_goals simp only [decide_eq_true_eq, decide_eq_false_iff_not] at q0
            all_goals have q1 := h2.out
            all_goals simp only [decide_eq_true_eq, decide_eq_false_iff_not] at q1
            all_goals have q2 := g1.out
            all_goals simp only [decide_eq_true_eq, decide_eq_false_iff_not] at q2
            all_goals have q3 := h3.out
            all_goals simp only [decide_eq_true_eq, decide_eq_false_iff_not] at q3
            · unfold sstoreCost; (repeat' split) <;> first | omega | (simp_all; done) | (simp_all; omega)
            · unfold sstorePlus; (repeat' split) <;> first | omega | (simp_all; done) | (simp_all; omega)
            · unfold sstoreMinus; (repeat' split) <;> first | omega | (simp_all; done) | (simp_all; omega)
          | false =>
            go_enter Hvah.func314, Hvah.ntmps314
            go_wp2_with (first | ((with_reducible (refine Veil.out ?_; apply wl_boxW)); (case hx => rfl); rintro B W c e b a hBg) | ((with_reducible (refine Veil.out ?_; apply wl_loadWB)); (case hx => rfl); (case hB => exact Blk.ext (by with_reducible assumption) (by (repeat (first | with_reducible exact Ext.refl _ | with_reducible assumption | refine Ext.trans ?_ (by with_reducible assumption) | refine Ext.alloc ?_ _ _ | refine Ext.drew ?_ | refine Ext.drewN ?_ _)))); (case hW => with_reducible assumption); (case hi => decide)) | (go_at_call 87; (first | with_reducible refine (Z1 _).mono ?_ | with_reducible refine (Z2 _).mono ?_ | with_reducible refine (Z3 _).mono ?_); rintro e w1 ⟨rfl, he⟩))
            go_ret3
            refine ⟨ret3 ?_ ?_ ?_, by (repeat (first | with_reducible exact Ext.refl _ | with_reducible assumption | refine Ext.trans ?_ (by with_reducible assumption) | refine Ext.alloc ?_ _ _ | refine Ext.drew ?_ | refine Ext.drewN ?_ _))⟩
            all_goals clear E1 E2 E3 Z1 Z2 Z3
            all_goals have q0 := h1.out
            all_goals simp only [decide_eq_true_eq, decide_eq_false_iff_not] at q0
            all_goals have q1 := h2.out
            all_goals simp only [decide_eq_true_eq, decide_eq_false_iff_not] at q1
            all_goals have q2 := g1.out
            all_goals simp only [decide_eq_true_eq, decide_eq_false_iff_not] at q2
            all_goals have q3 := h3.out
            all_goals simp only [decide_eq_true_eq, decide_eq_false_iff_not] at q3
            · unfold sstoreCost; (repeat' split) <;> first | omega | (simp_all; done) | (simp_all; omega)
            · unfold sstorePlus; (repeat' split) <;> first | omega | (simp_all; done) | (simp_all; omega)
            · unfold sstoreMinus; (repeat' split) <;> first | omega | (simp_all; done) | (simp_all; omega)
        | false =>
          cases z2 with
          | true =>
            cases b3 with
            | true =>
              go_enter Hvah.func314, Hvah.ntmps314
              go_wp2_with (first | ((with_reducible (refine Veil.out ?_; apply wl_boxW)); (case hx => rfl); rintro B W c e b a hBg) | ((with_reducible (refine Veil.out ?_; apply wl_loadWB)); (case hx => rfl); (case hB => exact Blk.ext (by with_reducible assumption) (by (repeat (first | with_reducible exact Ext.refl _ | with_reducible assumption | refine Ext.trans ?_ (by with_reducible assumption) | refine Ext.alloc ?_ _ _ | refine Ext.drew ?_ | refine Ext.drewN ?_ _)))); (case hW => with_reducible assumption); (case hi => decide)) | (go_at_call 87; (first | with_reducible refine (Z1 _).mono ?_ | with_reducible refine (Z2 _).mono ?_ | with_reducible refine (Z3 _).mono ?_); rintro e w1 ⟨rfl, he⟩))
              go_ret3
              refine ⟨ret3 ?_ ?_ ?_, by (repeat (first | with_reducible exact Ext.refl _ | with_reducible assumption | refine Ext.trans ?_ (by with_reducible assumption) | refine Ext.alloc ?_ _ _ | refine Ext.drew ?_ | refine Ext.drewN ?_ _))⟩
              all_goals clear E1 E2 E3 Z1 Z2 Z3
              all_goals have q0 := h1.out
              all_goals simp only [decide_eq_true_eq, decide_eq_false_iff_not] at q0
              all_goals have q1 := h2.out
              all_goals simp only [decide_eq_true_eq, decide_eq_false_iff_not] at q1
              all_goals have q2 := g1.out
              all_goals simp only [decide_eq_true_eq, decide_eq_false_iff_not] at q2
              all_goals have q3 := g2.out
              all_goals simp only [decide_eq_true_eq, decide_eq_false_iff_not] at q3
              all_goals have q4 := h3.out
              all_goals simp only [decide_eq_true_eq, decide_eq_false_iff_not] at q4
              · unfold sstoreCost; (repeat' split) <;> first | omega | (simp_all; done) | (simp_all; omega)
              · unfold sstorePlus; (repeat' split) <;> first | omega | (simp_all; done) | (simp_all; omega)
              · unfold sstoreMinus; (repeat' split) <;> first | omega | (simp_all; done) | (simp_all; omega)
            | false =>
              go_enter Hvah.func314, Hvah.ntmps314
              go_wp2_with (first | ((with_reducible (refine Veil.out ?_; apply wl_boxW)); (case hx => rfl); rintro B W c e b a hBg) | ((with_reducible (refine Veil.out ?_; apply wl_loadWB)); (case hx => rfl); (case hB => exact Blk.ext (by with_reducible assumption) (by (repeat (first | with_reducible exact Ext.refl _ | with_reducible assumption | refine Ext.trans ?_ (by with_reducible assumption) | refine Ext.alloc ?_ _ _ | refine Ext.drew ?_ | refine Ext.drewN ?_ _)))); (case hW => with_reducible assumption); (case hi => decide)) | (go_at_call 87; (first | with_reducible refine (Z1 _).mono ?_ | with_reducible refine (Z2 _).mono ?_ | with_reducible refine (Z3 _).mono ?_); rintro e w1 ⟨rfl, he⟩))
              go_ret3
              refine ⟨ret3 ?_ ?_ ?_, by (repeat (first | with_reducible exact Ext.refl _ | with_reducible assumption | refine Ext.trans ?_ (by with_reducible assumption) | refine Ext.alloc ?_ _ _ | refine Ext.drew ?_ | refine Ext.drewN ?_ _))⟩
              all_goals clear E1 E2 E3 Z1 Z2 Z3
              all_goals have q0 := h1.out
              all_goals simp only [decide_eq_true_eq, decide_eq_false_iff_not] at q0
              all_goals have q1 := h2.out
              all_goals simp only [decide_eq_true_eq, decide_eq_false_iff_not] at q1
              all_goals have q2 := g1.out
              all_goals simp only [decide_eq_true_eq, decide_eq_false_iff_not] at q2
              all_goals have q3 := g2.out
              all_goals simp only [decide_eq_true_eq, decide_eq_false_iff_not] at q3
              all_goals have q4 := h3.out
              all_goals simp only [decide_eq_true_eq, decide_eq_false_iff_not] at q4
              · unfold sstoreCost; (repeat' split) <;> first | omega | (simp_all; done) | (simp_all; omega)
              · unfold sstorePlus; (repeat' split) <;> first | omega | (simp_all; done) | (simp_all; omega)
              · unfold sstoreMinus; (repeat' split) <;> first | omega | (simp_all; done) | (simp_all; omega)
          | false =>
            cases z3 with
            | true =>
              cases b3 with
              | true =>
                go_enter Hvah.func314, Hvah.ntmps314
                go_wp2_with (first | ((with_reducible (refine Veil.out ?_; apply wl_boxW)); (case hx => rfl); rintro B W c e b a hBg) | ((with_reducible (refine Veil.out ?_; apply wl_loadWB)); (case hx => rfl); (case hB => exact Blk.ext (by with_reducible assumption) (by (repeat (first | with_reducible exact Ext.refl _ | with_reducible assumption | refine Ext.trans ?_ (by with_reducible assumption) | refine Ext.alloc ?_ _ _ | refine Ext.drew ?_ | refine Ext.drewN ?_ _)))); (case hW => with_reducible assumption); (case hi => decide)) | (go_at_call 87; (first | with_reducible refine (Z1 _).mono ?_ | with_reducible refine (Z2 _).mono ?_ | with_reducible refine (Z3 _).mono ?_); rintro e w1 ⟨rfl, he⟩))
                go_ret3
                refine ⟨ret3 ?_ ?_ ?_, by (repeat (first | with_reducible exact Ext.refl _ | with_reducible assumption | refine Ext.trans ?_ (by with_reducible assumption) | refine Ext.alloc ?_ _ _ | refine Ext.drew ?_ | refine Ext.drewN ?_ _))⟩
                all_goals clear E1 E2 E3 Z1 Z2 Z3
                all_goals have q0 := h1.out
                all_goals simp only [decide_eq_true_eq, decide_eq_false_iff_not] at q0
                all_goals have q1 := h2.out
                all_goals simp only [decide_eq_true_eq, decide_eq_false_iff_not] at q1
                all_goals have q2 := g1.out
                all_goals simp only [decide_eq_true_eq, decide_eq_false_iff_not] at q2
                all_goals have q3 := g2.out
                all_goals simp only [decide_eq_true_eq, decide_eq_false_iff_not] at q3
                all_goals have q4 := g3.out
                all_goals simp only [decide_eq_true_eq, decide_eq_false_iff_not] at q4
                all_goals have q5 := h3.out
                all_goals simp only [decide_eq_true_eq, decide_eq_false_iff_not] at q5
                · unfold sstoreCost; (repeat' split) <;> first | omega | (simp_all; done) | (simp_all; omega)
                · unfold sstorePlus; (repeat' split) <;> first | omega | (simp_all; done) | (simp_all; omega)
                · unfold sstoreMinus; (repeat' split) <;> first | omega | (simp_all; done) | (simp_all; omega)
              | false =>
                go_enter Hvah.func314, Hvah.ntmps314
                go_wp2_with (first | ((with_reducible (refine Veil.out ?_; apply wl_boxW)); (case hx => rfl); rintro B W c e b a hBg) | ((with_reducible (refine Veil.out ?_; apply wl_loadWB)); (case hx => rfl); (case hB => exact Blk.ext (by with_reducible assumption) (by (repeat (first | with_reducible exact Ext.refl _ | with_reducible assumption | refine Ext.trans ?_ (by with_reducible assumption) | refine Ext.alloc ?_ _ _ | refine Ext.drew ?_ | refine Ext.drewN ?_ _)))); (case hW => with_reducible assumption); (case hi => decide)) | (go_at_call 87; (first | with_reducible refine (Z1 _).mono ?_ | with_reducible refine (Z2 _).mono ?_ | with_reducible refine (Z3 _).mono ?_); rintro e w1 ⟨rfl, he⟩))
                go_ret3
                refine ⟨ret3 ?_ ?_ ?_, by (repeat (first | with_reducible exact Ext.refl _ | with_reducible assumption | refine Ext.trans ?_ (by with_reducible assumption) | refine Ext.alloc ?_ _ _ | refine Ext.drew ?_ | refine Ext.drewN ?_ _))⟩
                all_goals clear E1 E2 E3 Z1 Z2 Z3
                all_goals have q0 := h1.out
                all_goals simp only [decide_eq_true_eq, decide_eq_false_iff_not] at q0
                all_goals have q1 := h2.out
                all_goals simp only [decide_eq_true_eq, decide_eq_false_iff_not] at q1
                all_goals have q2 := g1.out
                all_goals simp only [decide_eq_true_eq, decide_eq_false_iff_not] at q2
                all_goals have q3 := g2.out
                all_goals simp only [decide_eq_true_eq, decide_eq_false_iff_not] at q3
                all_goals have q4 := g3.out
                all_goals simp only [decide_eq_true_eq, decide_eq_false_iff_not] at q4
                all_goals have q5 := h3.out
                all_goals simp only [decide_eq_true_eq, decide_eq_false_iff_not] at q5
                · unfold sstoreCost; (repeat' split) <;> first | omega | (simp_all; done) | (simp_all; omega)
                · unfold sstorePlus; (repeat' split) <;> first | omega | (simp_all; done) | (simp_all; omega)
                · unfold sstoreMinus; (repeat' split) <;> first | omega | (simp_all; done) | (simp_all; omega)
            | false =>
              cases b3 with
              | true =>
                go_enter Hvah.func314, Hvah.ntmps314
                go_wp2_with (first | ((with_reducible (refine Veil.out ?_; apply wl_boxW)); (case hx => rfl); rintro B W c e b a hBg) | ((with_reducible (refine Veil.out ?_; apply wl_loadWB)); (case hx => rfl); (case hB => exact Blk.ext (by with_reducible assumption) (by (repeat (first | with_reducible exact Ext.refl _ | with_reducible assumption | refine Ext.trans ?_ (by with_reducible assumption) | refine Ext.alloc ?_ _ _ | refine Ext.drew ?_ | refine Ext.drewN ?_ _)))); (case hW => with_reducible assumption); (case hi => decide)) | (go_at_call 87; (first | with_reducible refine (Z1 _).mono ?_ | with_reducible refine (Z2 _).mono ?_ | with_reducible refine (Z3 _).mono ?_); rintro e w1 ⟨rfl, he⟩))
                go_ret3
                refine ⟨ret3 ?_ ?_ ?_, by (repeat (first | with_reducible exact Ext.refl _ | with_reducible assumption | refine Ext.trans ?_ (by with_reducible assumption) | refine Ext.alloc ?_ _ _ | refine Ext.drew ?_ | refine Ext.drewN ?_ _))⟩
                all_goals clear E1 E2 E3 Z1 Z2 Z3
                all_goals have q0 := h1.out
                all_goals simp only [decide_eq_true_eq, decide_eq_false_iff_not] at q0
                all_goals have q1 := h2.out
                all_goals simp only [decide_eq_true_eq, decide_eq_false_iff_not] at q1
                all_goals have q2 := g1.out
                all_goals simp only [decide_eq_true_eq, decide_eq_false_iff_not] at q2
                all_goals have q3 := g2.out
                all_goals simp only [decide_eq_true_eq, decide_eq_false_iff_not] at q3
                all_goals have q4 := g3.out
                all_goals simp only [decide_eq_true_eq, decide_eq_false_iff_not] at q4
                all_goals have q5 := h3.out
                all_goals simp only [decide_eq_true_eq, decide_eq_false_iff_not] at q5
                · unfold sstoreCost; (repeat' split) <;> first | omega | (simp_all; done) | (simp_all; omega)
                · unfold sstorePlus; (repeat' split) <;> first | omega | (simp_all; done) | (simp_all; omega)
                · unfold sstoreMinus; (repeat' split) <;> first | omega | (simp_all; done) | (simp_all; omega)
              | false =>
                go_enter Hvah.func314, Hvah.ntmps314
                go_wp2_with (first | ((with_reducible (refine Veil.out ?_; apply wl_boxW)); (case hx => rfl); rintro B W c e b a hBg) | ((with_reducible (refine Veil.out ?_; apply wl_loadWB)); (case hx => rfl); (case hB => exact Blk.ext (by with_reducible assumption) (by (repeat (first | with_reducible exact Ext.refl _ | with_reducible assumption | refine Ext.trans ?_ (by with_reducible assumption) | refine Ext.alloc ?_ _ _ | refine Ext.drew ?_ | refine Ext.drewN ?_ _)))); (case hW => with_reducible assumption); (case hi => decide)) | (go_at_call 87; (first | with_reducible refine (Z1 _).mono ?_ | with_reducible refine (Z2 _).mono ?_ | with_reducible refine (Z3 _).mono ?_); rintro e w1 ⟨rfl, he⟩))
                go_ret3
                refine ⟨ret3 ?_ ?_ ?_, by (repeat (first | with_reducible exact Ext.refl _ | with_reducible assumption | refine Ext.trans ?_ (by with_reducible assumption) | refine Ext.alloc ?_ _ _ | refine Ext.drew ?_ | refine Ext.drewN ?_ _))⟩
                all_goals clear E1 E2 E3 Z1 Z2 Z3
                all_goals have q0 := h1.out
                all_goals simp only [decide_eq_true_eq, decide_eq_false_iff_not] at q0
                all_goals have q1 := h2.out
                all_goals simp only [decide_eq_true_eq, decide_eq_false_iff_not] at q1
                all_goals have q2 := g1.out
                all_goals simp only [decide_eq_true_eq, decide_eq_false_iff_not] at q2
                all_goals have q3 := g2.out
                all_goals simp only [decide_eq_true_eq, decide_eq_false_iff_not] at q3
                all_goals have q4 := g3.out
                all_goals simp only [decide_eq_true_eq, decide_eq_false_iff_not] at q4
                all_goals have q5 := h3.out
                all_goals simp only [decide_eq_true_eq, decide_eq_false_iff_not] at q5
                · unfold sstoreCost; (repeat' split) <;> first | omega | (simp_all; done) | (simp_all; omega)
                · unfold sstorePlus; (repeat' split) <;> first | omega | (simp_all; done) | (simp_all; omega)
                · unfold sstoreMinus; (repeat' split) <;> first | omega | (simp_all; done) | (simp_all; omega)
end
end Go.Proofs.YgvahwGreat
