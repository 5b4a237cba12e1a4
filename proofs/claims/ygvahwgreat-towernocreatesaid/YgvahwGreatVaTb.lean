import Derived.Test.YgvahwGreatVaTa
import Derived.Test.YgvahwGreatVaTb0
import Derived.Deep.CutBlock
import Derived.Deep.DeepCutAuto
namespace Go.Proofs.YgvahwGreat
open Go.RowKit
set_option linter.unusedSimpArgs false
theorem el21 : ElT 21 1 #[.int .i32 0] := ⟨⟨Hvah.t21, .int .i32 0, by kernel_rfl, by kernel_rfl, rfl, by kernel_rfl, by decide +kernel⟩, rfl, by decide⟩
theorem one83 : OneT 96 := oneT_of (by kernel_rfl) (by kernel_rfl)
theorem b431 (i k : Nat) : ∀ w, (Instr.build 439 ([(0, .int .i32 (i : Nat)), (1, wv k)] : List (Nat × Value)).toArray).run Hvah.prog w = .ok (.agg (tempZ i k)) w := fun w => by
  rw [run_build_gen (pl := [(0, 1), (1, 4), (5, 4)]) (z := #[.int .i32 0, .int .u64 0, .int .u64 0, .int .u64 0, .int .u64 0, .int .u64 0, .int .u64 0, .int .u64 0, .int .u64 0]) (by kernel_rfl) (by kernel_rfl) ([(0, .int .i32 (i : Nat)), (1, wv k)] : List (Nat × Value)) ⟨0, 1, rfl, rfl, by decide, 1, 4, rfl, rfl, by decide, trivial⟩]
  rfl
section
variable {own : Nat → Nat} {w : World} {g : Nat} {c : Nat → Value} {V : EV} {a k i : Nat}
theorem VRep.tempsLen (h : VRep own w g c V) : ∃ o cap, c 27017 = .slice o V.temps.length cap := by
  rcases h.temps with ⟨q1, q2⟩ | ⟨b, cap, c3, q1, _⟩
  · rw [q1, q2]; exact ⟨none, 0, rfl⟩
  · exact ⟨_, _, q1⟩
set_option maxRecDepth 100000 in
set_option maxHeartbeats 6400000 in
theorem vTempOf_f (h : VRep own w g c V) (ha : a < 2 ^ 160) (hk : k < P256) {i j : Nat} (hj : V.ix a = some i) (hs : ixG ETemp.kc (i, k) V.temps = some j) : Calls Hvah.prog 392 #[.pointer (some ⟨g, 2435, none⟩), .agg (av a), wv k] w fun e w' => e = .returned (.tuple #[.int .i32 (V.atAT a k : Nat), .bool true]) ∧ ∃ own' c', VRep own' w' g c' (V.needAT a k) ∧ VStep own w c own' w' c' := by
  have HF := vFind_some h ha hj
  have hi : i < 2560 := Nat.lt_of_lt_of_le (ix_lt_of hj) h.nA
  have HT := vFindT_some h hi hk hs
  have hjl : j < V.temps.length := ix_lt_of hs
  have hnT := h.nT
  have e0 : V.need a = V := by unfold EV.need; rw [hj]; rfl
  have e1 : V.at_ a = i := by unfold EV.at_; rw [hj]; rfl
  have e2 : V.needAT a k = V := by unfold EV.needAT; rw [e0, e1]; unfold EV.needT; rw [hs]; rfl
  have e3 : V.atAT a k = j := by unfold EV.atAT; rw [e0, e1]; unfold EV.atT; rw [hs]; rfl
  rw [e2, e3]
  clear e0 e1 e2 e3
  go_enter Hvah.func392, Hvah.ntmps392
  go_wp2_with (first | ((with_reducible (refine Veil.out ?_; apply wl_boxA)); (case hx => rfl); (case hn => exact ha); rintro B1 W1 c1 e1 b1 a1 g1) | ((with_reducible (refine Veil.out ?_; apply wl_boxW)); (case hx => rfl); rintro B2 W2 c2 e2 b2 a2 g2) | ((with_reducible (refine Veil.out ?_; apply wl_loadA)); (case hx => rfl); (case hB => exact b1.ext (by (repeat (first | with_reducible exact Ext.refl _ | with_reducible assumption | refine Ext.trans ?_ (by with_reducible assumption) | refine Ext.alloc ?_ _ _ | refine Ext.drew ?_ | refine Ext.drewN ?_ _)))); (case hA => exact a1); (case hs => exact ha); (case ho => decide)) | ((with_reducible (refine Veil.out ?_; apply wl_loadWB)); (case hx => rfl); (case hB => exact b2.ext (by (repeat (first | with_reducible exact Ext.refl _ | with_reducible assumption | refine Ext.trans ?_ (by with_reducible assumption) | refine Ext.alloc ?_ _ _ | refine Ext.drew ?_ | refine Ext.drewN ?_ _)))); (case hW => exact a2); (case hi => decide)) | (go_at_call 168; refine (HF _ (by (repeat (first | with_reducible exact Ext.refl _ | with_reducible assumption | refine Ext.trans ?_ (by with_reducible assumption) | refine Ext.alloc ?_ _ _ | refine Ext.drew ?_ | refine Ext.drewN ?_ _)))).mono ?_; rintro e w4 ⟨rfl, he4⟩) | (go_at_call 391; refine (HT _ (by (repeat (first | with_reducible exact Ext.refl _ | with_reducible assumption | refine Ext.trans ?_ (by with_reducible assumption) | refine Ext.alloc ?_ _ _ | refine Ext.drew ?_ | refine Ext.drewN ?_ _)))).mono ?_; rintro e w5 ⟨rfl, he5⟩))
  go_ret2
  exact ⟨rfl, own, c, h.ext (by (repeat (first | with_reducible exact Ext.refl _ | with_reducible assumption | refine Ext.trans ?_ (by with_reducible assumption) | refine Ext.alloc ?_ _ _ | refine Ext.drew ?_ | refine Ext.drewN ?_ _))), VStep.ext (by (repeat (first | with_reducible exact Ext.refl _ | with_reducible assumption | refine Ext.trans ?_ (by with_reducible assumption) | refine Ext.alloc ?_ _ _ | refine Ext.drew ?_ | refine Ext.drewN ?_ _)))⟩
theorem vFindT_tab (h : VRep own w g c V) (hi : i < 2560) (hk : k < P256) (hj : ixG ETemp.kc (i, k) V.temps = none) {t : Nat → Int} (h1 : TTab (Ow own 6) w (c 27018) t) (h2 : TOK 16384 V.temps.length (fun i => mixP (V.temps.getD i (ETemp.new 0 0)).acct (V.temps.getD i (ETemp.new 0 0)).key % 16384) t) : ∃ d : Nat, d < 16384 ∧ t ((mixP i k % 16384 + d) % 16384) = -1 ∧ (∀ e, e < d → 0 ≤ t ((mixP i k % 16384 + e) % 16384)) ∧ ∀ W, Ext w W → Calls Hvah.prog 391 #[.pointer (some ⟨g, 2435, none⟩), .int .i32 i, wv k] W fun e w' => e = .returned (.tuple #[.int .i32 (-1), .int .i32 ((mixP i k % 16384 + d) % 16384 : Nat)]) ∧ Ext W w' := by
  obtain ⟨d, hd⟩ := h2.first (Nat.lt_of_le_of_lt h.nT (by decide)) (mixP i k % 16384)
  refine ⟨d, hd.1, hd.2.1, hd.2.2, fun W hW => ?_⟩
  refine (vFindTemp _ _ g i k c V.temps t W hi hk (h.blk.ext hW) h.nT h.wf.t1 ((h.ext hW).temps) (h1.ext hW) h2).mono ?_
  rintro e w' ⟨a, f, rfl, hf, he⟩
  rcases hf with ⟨q, hq, _⟩ | ⟨_, rfl, d', p1, rfl, p2, p3⟩
  · rw [hj] at hq; cases hq
  · have : d' = d := by
      rcases Nat.lt_trichotomy d' d with q | q | q
      · have := hd.2.2 d' q; omega
      · exact q
      · have := p3 d q; rw [hd.2.1] at this; omega
    subst this
    exact ⟨rfl, he⟩
theorem need_temps (V : EV) (a : Nat) : (V.need a).temps = V.temps := by unfold EV.need; split <;> rfl
theorem needT_none {V : EV} (hw : V.WF) (a k : Nat) (hs : ∀ i, V.ix a = some i → ixG ETemp.kc (i, k) V.temps = none) : ixG ETemp.kc (V.at_ a, k) V.temps = none := by
  unfold EV.at_
  cases hj : V.ix a with
  | some i => exact hs i hj
  | none =>
    show ixG ETemp.kc (V.accts.length, k) V.temps = none
    cases hx : ixG ETemp.kc (V.accts.length, k) V.temps with
    | none => rfl
    | some j =>
      obtain ⟨hl, he⟩ := ix_some hx
      have := hw.tA V.temps[j] (List.getElem_mem hl)
      have h2 : V.temps[j].acct = V.accts.length := congrArg Prod.fst he
      omega
end
end Go.Proofs.YgvahwGreat
