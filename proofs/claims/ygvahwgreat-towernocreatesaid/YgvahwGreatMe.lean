import Derived.Test.YgvahwGreatMd
namespace Go.Proofs.YgvahwGreat
open Go.RowKit
set_option linter.unusedSimpArgs false
theorem joinB2 {P Fc : Nat → Nat → World → (Nat → Value) → (Nat → Value) → Prop} {G : Prop} (h : (∀ A B W c d, Fc A B W c d → P A B W c d) → G) (k : ∀ A B W c d, Fc A B W c d → P A B W c d) : G := h k
section
variable {own : Nat → Nat} {w : World} {g : Nat} {c : Nat → Value} {V : EV} {st : ASt} {sn stale : List Nat} {s : Nat} {f : AFrame} {rest : List AFrame}
set_option maxRecDepth 100000 in
set_option maxHeartbeats 6400000 in
theorem mWrites (h : MRep own w g c V st (s :: sn) stale) (hst : st.frames = f :: rest) (o : Nat) (ho : o < 256) : Calls Hvah.prog 272 #[.pointer (some ⟨g, 0, none⟩), .pointer (some ⟨g, 1803 + rest.length * 65, none⟩), .int .u8 o] w fun e w' => e = .returned (.bool (f.writes o)) ∧ Ext w w' := by
  have h256 : (o : Int) < 256 := by omega
  obtain ⟨hfr, hr7⟩ := h.frame hst
  have hx : f.arg 2 < P256 := hfr.ok.argLt 2
  have HA := fun W (hW : Ext w W) => mArg (h.ext hW) hst 2 (by decide)
  obtain ⟨zb, hzb⟩ : ∃ b, Hid (decide (f.arg 2 = 0) = b) := ⟨_, rfl⟩
  have HZ : ∀ W, Calls Hvah.prog 87 #[wv (f.arg 2)] W fun e w' => e = .returned (.bool zb) ∧ Ext W w' := fun W => by rw [← hzb.out]; exact uIsZero _ W hx
  have hq : f.arg 2 = 0 ↔ zb = true := by rw [← hzb.out]; simp
  have HQ : Hid (_ ↔ _) := hq
  clear hq
  go_enter Hvah.func272, Hvah.ntmps272
  go_wp2_with (first | (go_at_call 273; refine (HA _ (by (repeat (first | with_reducible exact Ext.refl _ | with_reducible assumption | refine Ext.trans ?_ (by with_reducible assumption) | refine Ext.alloc ?_ _ _ | refine Ext.drew ?_ | refine Ext.drewN ?_ _)))).mono ?_; rintro e w1 ⟨rfl, he⟩) | ((with_reducible (refine Veil.out ?_; apply wl_allocW)); rintro B2 W2 c2 e2 b2 a2 g2) | ((with_reducible (refine Veil.out ?_; apply wl_storeWB)); (case hx => rfl); (case hy => rfl); (case hB => exact b2); (case hi => decide); rintro W3 c3 b3 a3 _ m3; have hE3 : Ext w W3 := Ext.trans_mod (by (repeat (first | with_reducible exact Ext.refl _ | with_reducible assumption | refine Ext.trans ?_ (by with_reducible assumption) | refine Ext.alloc ?_ _ _ | refine Ext.drew ?_ | refine Ext.drewN ?_ _))) m3 (fun i hi => by have hi2 : i = B2 := hi; rw [hi2]; exact Nat.le_trans (Ext.size (by (repeat (first | with_reducible exact Ext.refl _ | with_reducible assumption | refine Ext.trans ?_ (by with_reducible assumption) | refine Ext.alloc ?_ _ _ | refine Ext.drew ?_ | refine Ext.drewN ?_ _)))) g2)) | ((with_reducible (refine Veil.out ?_; apply wl_loadWB)); (case hx => rfl); (case hB => exact b3); (case hW => exact a3); (case hi => decide)) | (go_at_call 87; refine (HZ _).mono ?_; rintro e w4 ⟨rfl, he4⟩))
  all_goals go_ret
  all_goals refine ⟨ret_b ?_, by (repeat (first | with_reducible exact Ext.refl _ | with_reducible assumption | refine Ext.trans ?_ (by with_reducible assumption) | refine Ext.alloc ?_ _ _ | refine Ext.drew ?_ | refine Ext.drewN ?_ _))⟩
  all_goals (have hQ := HQ.out; clear HQ HZ HA hzb h)
  all_goals rw [Bool.eq_iff_iff]
  all_goals (unfold AFrame.writes; simp only [Bool.or_eq_true, Bool.and_eq_true, beq_iff_eq, decide_eq_true_eq, Bool.not_eq_true', decide_eq_false_iff_not, true_iff, false_iff, Bool.false_eq_true, ne_eq, hQ])
  all_goals clear hQ
  all_goals cases zb
  all_goals (try simp only [beq_iff_eq, beq_eq_false_iff_ne, ne_eq, reduceCtorEq, not_false_eq_true, not_true_eq_false, and_true, and_false, or_false, true_iff, false_iff] at *)
  all_goals omega
set_option maxRecDepth 100000 in
set_option maxHeartbeats 6400000 in
theorem mFlat (o : Nat) (ho : o < 256) (w : World) : Calls Hvah.prog 275 #[.int .u8 o] w fun e w' => e = .returned (.bool (decide ((o < 32 ∧ o ≠ 10) ∨ (95 ≤ o ∧ o ≤ 159) ∨ (88 ≤ o ∧ o ≤ 91)))) ∧ Ext w w' := by
  have h256 : (o : Int) < 256 := by omega
  go_enter Hvah.func275, Hvah.ntmps275
  go_wp2
  all_goals go_ret
  all_goals refine ⟨ret_b ?_, by (repeat (first | with_reducible exact Ext.refl _ | with_reducible assumption | refine Ext.trans ?_ (by with_reducible assumption) | refine Ext.alloc ?_ _ _ | refine Ext.drew ?_ | refine Ext.drewN ?_ _))⟩
  all_goals rw [Bool.eq_iff_iff]
  all_goals (try simp only [beq_iff_eq, bne_iff_ne, beq_eq_false_iff_ne, ne_eq, decide_eq_true_eq, decide_eq_false_iff_not, true_iff, false_iff, Bool.false_eq_true, Bool.or_eq_true, Bool.and_eq_true, Bool.not_eq_true'] at *)
  all_goals omega
set_option maxRecDepth 100000 in
set_option maxHeartbeats 6400000 in
theorem mPast (h : MRep own w g c V st sn stale) (a b : Nat) (ha : a < P256) (hb : b < P256) : Calls Hvah.prog 274 #[.pointer (some ⟨g, 0, none⟩), wv a, wv b] w fun e w' => e = .returned (.bool (decide (st.ret.length < a + b))) ∧ Ext w w' := by
  obtain ⟨ro, rc, hre, hr1, hr2, hr3⟩ := h.m.ret
  have hrl : (st.ret.length : Int) ≤ 140737488355328 := by omega
  have hlw : IntKind.u64.wrap (st.ret.length : Int) = st.ret.length := by rw [IntKind.wrap_u64]; omega
  have kk : ∀ W, Ext w W → W.cell? ⟨g, 2259, none⟩ = some (.slice ro st.ret.length rc) := fun W hW => by rw [(h.v.blk.ext hW).cell (by decide), hre]
  have HO := fun W => uAddOver a b W ha hb
  have hs : (a + b) % P256 < P256 := Nat.mod_lt _ pos256
  have HU := fun W => uU64 ((a + b) % P256) W hs
  have hP : (18446744073709551616 : Nat) ≤ P256 := by decide
  have hfin : decide (st.ret.length < a + b) = (decide (P256 ≤ a + b) || (!fit64 ((a + b) % P256) || decide (st.ret.length < low64 ((a + b) % P256)))) := by
    rw [Bool.eq_iff_iff]
    simp only [decide_eq_true_eq, Bool.or_eq_true, Bool.not_eq_true']
    by_cases h1 : P256 ≤ a + b
    · constructor
      · intro _; exact Or.inl h1
      · intro _; omega
    · rw [Nat.mod_eq_of_lt (by omega)]
      unfold fit64 low64
      simp only [decide_eq_false_iff_not]
      split <;> omega
  rw [hfin]
  clear hfin hs hP ha hb hre hr1 hr2 hr3
  generalize decide (P256 ≤ a + b) = ov at *
  generalize fit64 ((a + b) % P256) = ft at *
  have hlo : low64 ((a + b) % P256) < 18446744073709551616 := by unfold low64; split <;> omega
  generalize low64 ((a + b) % P256) = lo at *
  generalize (a + b) % P256 = sm at *
  have HLT : ((st.ret.length : Int) < lo) ↔ st.ret.length < lo := by omega
  cases ov <;> cases ft
  · go_enter Hvah.func274, Hvah.ntmps274
    go_wp2_with (first | ((with_reducible (refine Veil.out ?_; apply wl_boxW)); (case hx => rfl); rintro B1 W1 c1 e1 b1 a1 g1) | ((with_reducible (refine Veil.out ?_; apply wl_loadWB)); (case hx => rfl); (case hB => exact Blk.ext (by with_reducible assumption) (by (repeat (first | with_reducible exact Ext.refl _ | with_reducible assumption | refine Ext.trans ?_ (by with_reducible assumption) | refine Ext.alloc ?_ _ _ | refine Ext.drew ?_ | refine Ext.drewN ?_ _)))); (case hW => with_reducible assumption); (case hi => decide)) | (go_at_call 173; refine (HO _).mono ?_; rintro e w1 ⟨rfl, he⟩) | ((with_reducible (refine Veil.out ?_; apply wl_allocW)); rintro B2 W2 c2 e2 b2 a2 g2) | ((with_reducible (refine Veil.out ?_; apply wl_storeWB)); (case hx => rfl); (case hy => rfl); (case hB => exact b2); (case hi => decide); rintro W3 c3 b3 a3 _ m3; have hE3 : Ext w W3 := Ext.trans_mod (by (repeat (first | with_reducible exact Ext.refl _ | with_reducible assumption | refine Ext.trans ?_ (by with_reducible assumption) | refine Ext.alloc ?_ _ _ | refine Ext.drew ?_ | refine Ext.drewN ?_ _))) m3 (fun i hi => by have hi2 : i = B2 := hi; rw [hi2]; exact Nat.le_trans (Ext.size (by (repeat (first | with_reducible exact Ext.refl _ | with_reducible assumption | refine Ext.trans ?_ (by with_reducible assumption) | refine Ext.alloc ?_ _ _ | refine Ext.drew ?_ | refine Ext.drewN ?_ _)))) g2); clear b2 a2) | (go_at_call 309; refine (HU _).mono ?_; rintro e w4 ⟨rfl, he4⟩; have kk2 := kk _ (show Ext w w4 by (repeat (first | with_reducible exact Ext.refl _ | with_reducible assumption | refine Ext.trans ?_ (by with_reducible assumption) | refine Ext.alloc ?_ _ _ | refine Ext.drew ?_ | refine Ext.drewN ?_ _)))))
    all_goals go_ret
    all_goals refine ⟨ret_b ?_, by (repeat (first | with_reducible exact Ext.refl _ | with_reducible assumption | refine Ext.trans ?_ (by with_reducible assumption) | refine Ext.alloc ?_ _ _ | refine Ext.drew ?_ | refine Ext.drewN ?_ _))⟩
    all_goals (try rw [Bool.eq_iff_iff])
    all_goals simp [HLT]
  · go_enter Hvah.func274, Hvah.ntmps274
    go_wp2_with (first | ((with_reducible (refine Veil.out ?_; apply wl_boxW)); (case hx => rfl); rintro B1 W1 c1 e1 b1 a1 g1) | ((with_reducible (refine Veil.out ?_; apply wl_loadWB)); (case hx => rfl); (case hB => exact Blk.ext (by with_reducible assumption) (by (repeat (first | with_reducible exact Ext.refl _ | with_reducible assumption | refine Ext.trans ?_ (by with_reducible assumption) | refine Ext.alloc ?_ _ _ | refine Ext.drew ?_ | refine Ext.drewN ?_ _)))); (case hW => with_reducible assumption); (case hi => decide)) | (go_at_call 173; refine (HO _).mono ?_; rintro e w1 ⟨rfl, he⟩) | ((with_reducible (refine Veil.out ?_; apply wl_allocW)); rintro B2 W2 c2 e2 b2 a2 g2) | ((with_reducible (refine Veil.out ?_; apply wl_storeWB)); (case hx => rfl); (case hy => rfl); (case hB => exact b2); (case hi => decide); rintro W3 c3 b3 a3 _ m3; have hE3 : Ext w W3 := Ext.trans_mod (by (repeat (first | with_reducible exact Ext.refl _ | with_reducible assumption | refine Ext.trans ?_ (by with_reducible assumption) | refine Ext.alloc ?_ _ _ | refine Ext.drew ?_ | refine Ext.drewN ?_ _))) m3 (fun i hi => by have hi2 : i = B2 := hi; rw [hi2]; exact Nat.le_trans (Ext.size (by (repeat (first | with_reducible exact Ext.refl _ | with_reducible assumption | refine Ext.trans ?_ (by with_reducible assumption) | refine Ext.alloc ?_ _ _ | refine Ext.drew ?_ | refine Ext.drewN ?_ _)))) g2); clear b2 a2) | (go_at_call 309; refine (HU _).mono ?_; rintro e w4 ⟨rfl, he4⟩; have kk2 := kk _ (show Ext w w4 by (repeat (first | with_reducible exact Ext.refl _ | with_reducible assumption | refine Ext.trans ?_ (by with_reducible assumption) | refine Ext.alloc ?_ _ _ | refine Ext.drew ?_ | refine Ext.drewN ?_ _)))))
    all_goals go_ret
    all_goals refine ⟨ret_b ?_, by (repeat (first | with_reducible exact Ext.refl _ | with_reducible assumption | refine Ext.trans ?_ (by with_reducible assumption) | refine Ext.alloc ?_ _ _ | refine Ext.drew ?_ | refine Ext.drewN ?_ _))⟩
    all_goals (try rw [Bool.eq_iff_iff])
    all_goals simp [HLT]
  · go_enter Hvah.func274, Hvah.ntmps274
    go_wp2_with (first | ((with_reducible (refine Veil.out ?_; apply wl_boxW)); (case hx => rfl); rintro B1 W1 c1 e1 b1 a1 g1) | ((with_reducible (refine Veil.out ?_; apply wl_loadWB)); (case hx => rfl); (case hB => exact Blk.ext (by with_reducible assumption) (by (repeat (first | with_reducible exact Ext.refl _ | with_reducible assumption | refine Ext.trans ?_ (by with_reducible assumption) | refine Ext.alloc ?_ _ _ | refine Ext.drew ?_ | refine Ext.drewN ?_ _)))); (case hW => with_reducible assumption); (case hi => decide)) | (go_at_call 173; refine (HO _).mono ?_; rintro e w1 ⟨rfl, he⟩) | ((with_reducible (refine Veil.out ?_; apply wl_allocW)); rintro B2 W2 c2 e2 b2 a2 g2) | ((with_reducible (refine Veil.out ?_; apply wl_storeWB)); (case hx => rfl); (case hy => rfl); (case hB => exact b2); (case hi => decide); rintro W3 c3 b3 a3 _ m3; have hE3 : Ext w W3 := Ext.trans_mod (by (repeat (first | with_reducible exact Ext.refl _ | with_reducible assumption | refine Ext.trans ?_ (by with_reducible assumption) | refine Ext.alloc ?_ _ _ | refine Ext.drew ?_ | refine Ext.drewN ?_ _))) m3 (fun i hi => by have hi2 : i = B2 := hi; rw [hi2]; exact Nat.le_trans (Ext.size (by (repeat (first | with_reducible exact Ext.refl _ | with_reducible assumption | refine Ext.trans ?_ (by with_reducible assumption) | refine Ext.alloc ?_ _ _ | refine Ext.drew ?_ | refine Ext.drewN ?_ _)))) g2); clear b2 a2) | (go_at_call 309; refine (HU _).mono ?_; rintro e w4 ⟨rfl, he4⟩; have kk2 := kk _ (show Ext w w4 by (repeat (first | with_reducible exact Ext.refl _ | with_reducible assumption | refine Ext.trans ?_ (by with_reducible assumption) | refine Ext.alloc ?_ _ _ | refine Ext.drew ?_ | refine Ext.drewN ?_ _)))))
    all_goals go_ret
    all_goals refine ⟨ret_b ?_, by (repeat (first | with_reducible exact Ext.refl _ | with_reducible assumption | refine Ext.trans ?_ (by with_reducible assumption) | refine Ext.alloc ?_ _ _ | refine Ext.drew ?_ | refine Ext.drewN ?_ _))⟩
    all_goals (try rw [Bool.eq_iff_iff])
    all_goals simp [HLT]
  · go_enter Hvah.func274, Hvah.ntmps274
    go_wp2_with (first | ((with_reducible (refine Veil.out ?_; apply wl_boxW)); (case hx => rfl); rintro B1 W1 c1 e1 b1 a1 g1) | ((with_reducible (refine Veil.out ?_; apply wl_loadWB)); (case hx => rfl); (case hB => exact Blk.ext (by with_reducible assumption) (by (repeat (first | with_reducible exact Ext.refl _ | with_reducible assumption | refine Ext.trans ?_ (by with_reducible assumption) | refine Ext.alloc ?_ _ _ | refine Ext.drew ?_ | refine Ext.drewN ?_ _)))); (case hW => with_reducible assumption); (case hi => decide)) | (go_at_call 173; refine (HO _).mono ?_; rintro e w1 ⟨rfl, he⟩) | ((with_reducible (refine Veil.out ?_; apply wl_allocW)); rintro B2 W2 c2 e2 b2 a2 g2) | ((with_reducible (refine Veil.out ?_; apply wl_storeWB)); (case hx => rfl); (case hy => rfl); (case hB => exact b2); (case hi => decide); rintro W3 c3 b3 a3 _ m3; have hE3 : Ext w W3 := Ext.trans_mod (by (repeat (first | with_reducible exact Ext.refl _ | with_reducible assumption | refine Ext.trans ?_ (by with_reducible assumption) | refine Ext.alloc ?_ _ _ | refine Ext.drew ?_ | refine Ext.drewN ?_ _))) m3 (fun i hi => by have hi2 : i = B2 := hi; rw [hi2]; exact Nat.le_trans (Ext.size (by (repeat (first | with_reducible exact Ext.refl _ | with_reducible assumption | refine Ext.trans ?_ (by with_reducible assumption) | refine Ext.alloc ?_ _ _ | refine Ext.drew ?_ | refine Ext.drewN ?_ _)))) g2); clear b2 a2) | (go_at_call 309; refine (HU _).mono ?_; rintro e w4 ⟨rfl, he4⟩; have kk2 := kk _ (show Ext w w4 by (repeat (first | with_reducible exact Ext.refl _ | with_reducible assumption | refine Ext.trans ?_ (by with_reducible assumption) | refine Ext.alloc ?_ _ _ | refine Ext.drew ?_ | refine Ext.drewN ?_ _)))))
    all_goals go_ret
    all_goals refine ⟨ret_b ?_, by (repeat (first | with_reducible exact Ext.refl _ | with_reducible assumption | refine Ext.trans ?_ (by with_reducible assumption) | refine Ext.alloc ?_ _ _ | refine Ext.drew ?_ | refine Ext.drewN ?_ _))⟩
    all_goals (try rw [Bool.eq_iff_iff])
    all_goals simp [HLT]
end
end Go.Proofs.YgvahwGreat
