import Derived.Test.YgvahwGreatDyA
import Derived.Test.YgvahwGreatDyB
import Derived.Test.YgvahwGreatDyC
import Derived.Test.YgvahwGreatDyD
import Derived.Test.YgvahwGreatDv
import Derived.Test.YgvahwGreatMd
import Derived.Test.YgvahwGreatMe
namespace Go.Proofs.YgvahwGreat
open Go.RowKit
set_option linter.unusedSimpArgs false
theorem uDivide (g b : Nat) (t : TypeId) (x : List Nat) (w : World) (hx : UB w g t x) (hb : b < 2 ^ 256) (lx : x.length = 8) (dx : L64 x) : Calls Hvah.prog 417 #[.pointer (some ⟨g, 0, none⟩), wv b] w fun e w' => ∃ ql pv, e = .returned (.tuple #[wv (dmod (lv x) b), .agg pv]) ∧ ql.length = 8 ∧ L64 ql ∧ pv.size = 3 ∧ Ones pv ∧ lv ql = lv x / b ∧ UB w' g t ql ∧ Mod (fun q => q = g) w w' := by
  obtain ⟨top, ht, hxz, hxt⟩ := top_of x
  obtain ⟨n, hn, hmz, hmt⟩ := top_of (limbs b)
  rw [lx] at ht hxz
  rw [show (limbs b).length = 4 from rfl] at hn hmz
  rcases Nat.eq_zero_or_pos n with h0 | h0
  · subst h0
    have hb0 : b = 0 := by rw [← lv_limbs hb]; exact lv_zero _ (fun i hi => hmz i (Nat.zero_le _) hi)
    subst hb0
    exact uDivA g t x w hx lx
  · rcases Nat.lt_or_ge top n with h1 | h1
    · exact uDivB g b n top t x w hx hb lx dx hn hmz hmt ht hxz hxt h1
    · rcases Nat.lt_or_ge n 2 with h2 | h2
      · obtain rfl : n = 1 := by omega
        exact uDivC g b top t x w hx hb lx dx hmz hmt ht hxz hxt h1
      · exact uDivD g b n top t x w hx hb lx dx hn hmz hmt ht hxz hxt h2 h1
theorem post_rrr {fn : Func} {R : Ending → World → Prop} {ac : Act} {w : World} {t u v : Tmp} {ty1 ty2 ty3 : TypeId} {n1 n2 n3 b b2 b3 : Nat} (rt : RowT ty1 n1) (rt' : RowT ty2 n2) (rt'' : RowT ty3 n3) (r r2 r3 : Array Value) (hn : r.size = n1) (hn2 : r2.size = n2) (hn3 : r3.size = n3) (hf : fn.results = #[.cell t ty1, .cell u ty2, .cell v ty3]) (ht : ac.tmps.getD t undef = .pointer (some ⟨b, 0, none⟩)) (hu : ac.tmps.getD u undef = .pointer (some ⟨b2, 0, none⟩)) (hv : ac.tmps.getD v undef = .pointer (some ⟨b3, 0, none⟩)) (hr : RowIn w b 0 r) (hr2 : RowIn w b2 0 r2) (hr3 : RowIn w b3 0 r3) (hdf : ac.defers = [])
    (h : R (.returned (.tuple #[.agg r, .agg r2, .agg r3])) w) : bodyPost Hvah.prog fn R .ret ac w := by
  refine bodyPost_ret (v := .tuple #[.agg r, .agg r2, .agg r3]) ?_ hdf h
  obtain ⟨d, h1, h2⟩ := rt.desc
  obtain ⟨d', h1', h2'⟩ := rt'.desc
  obtain ⟨d'', h1'', h2''⟩ := rt''.desc
  have q1 := run_loadVar_mid (P := Hvah.prog) w b 0 ty1 r.toList d (fun j v hv => hr j v (by simpa using hv)) h1 h2 (by rw [rt.size]; simp [hn])
  have q2 := run_loadVar_mid (P := Hvah.prog) w b2 0 ty2 r2.toList d' (fun j v hv => hr2 j v (by simpa using hv)) h1' h2' (by rw [rt'.size]; simp [hn2])
  have q3 := run_loadVar_mid (P := Hvah.prog) w b3 0 ty3 r3.toList d'' (fun j v hv => hr3 j v (by simpa using hv)) h1'' h2'' (by rw [rt''.size]; simp [hn3])
  rw [Array.getD_eq_getD_getElem?] at ht hu hv
  simp [results, hf, ht, hu, hv, asAddr, q1, q2, q3, Result.andThen]
theorem b69 (a b c d : Nat) : ∀ w, (Instr.build 82 ([(0, .int .u64 (a : Int)), (1, .int .u64 (b : Int)), (2, .int .u64 (c : Int)), (3, .int .u64 (d : Int))] : List (Nat × Value)).toArray).run Hvah.prog w = .ok (.agg (ucells [a, b, c, d, 0, 0, 0, 0]).toArray) w := fun w => by kernel_rfl
theorem rt69 : RowT 82 8 := rowT_of (by kernel_rfl) (by kernel_rfl)
theorem z69 : ∃ i, Hvah.prog.info? 82 = some i ∧ i.zero = some (.agg (Array.replicate 8 (.int .u64 0))) := ⟨Hvah.t82, by kernel_rfl, by kernel_rfl⟩
theorem lv_limbs8 {x : Nat} (hx : x < 2 ^ 256) : lv [lim x 0, lim x 1, lim x 2, lim x 3, 0, 0, 0, 0] = x := by
  have h := lv_limbs hx
  rw [show ([lim x 0, lim x 1, lim x 2, lim x 3, 0, 0, 0, 0] : List Nat) = limbs x ++ [0, 0, 0, 0] from rfl, lv_append, h]
  simp [lv]
theorem l64_limbs8 (x : Nat) : L64 [lim x 0, lim x 1, lim x 2, lim x 3, 0, 0, 0, 0] := by
  rw [show ([lim x 0, lim x 1, lim x 2, lim x 3, 0, 0, 0, 0] : List Nat) = limbs x ++ [0, 0, 0, 0] from rfl]
  exact (limbs_l64 x).append (fun d hd => by simp at hd; rw [hd]; decide)
theorem wat_row {c : Nat → Value} {x : Nat} (h : WAt c 0 x) : rowOf c 0 4 = wvA x := by
  have e : rowOf c 0 4 = #[c 0, c 1, c 2, c 3] := rfl
  have h1 := h.c1
  have h2 := h.c2
  have h3 := h.c3
  simp only [Nat.zero_add] at h1 h2 h3
  rw [e, h.c0, h1, h2, h3]
theorem wat_ones {c : Nat → Value} {x : Nat} (h : WAt c 0 x) : Ones (rowOf c 0 4) := by
  rw [wat_row h]
  intro v hv
  simp at hv
  rcases hv with rfl | rfl | rfl | rfl <;> rfl
theorem p256_eq : P256 = 2 ^ 256 := by decide
theorem cf_ones {r : Array Value} {n : Nat} (h : Ones r) (hn : r.size = n) : Ones (rowOf (cf r) 0 n) := ones_of (fun q hq => by
  rw [rowOf_size] at hq
  rw [cf_rowOf _ _ _ hq, Nat.zero_add]
  exact h _ (by unfold cf; rw [Array.getD_eq_getD_getElem?]; simp [hn, hq]))
theorem cf_row {r : Array Value} {n : Nat} (hn : r.size = n) : rowOf (cf r) 0 n = r := by
  apply Array.ext_getElem?
  intro i
  rw [rowOf_get]
  split
  · rename_i h; unfold cf; rw [Array.getD_eq_getD_getElem?, Nat.zero_add, Array.getElem?_eq_getElem (by omega)]; rfl
  · rw [Array.getElem?_eq_none (by omega)]
set_option maxRecDepth 100000 in
set_option maxHeartbeats 6400000 in
theorem uDivRem (x y : Nat) (w : World) (hx : x < P256) (hy : y < P256) : Calls Hvah.prog 383 #[wv x, wv y] w fun e w' => ∃ pv, e = .returned (.tuple #[wv (x / y), wv (dmod x y), .agg pv]) ∧ pv.size = 3 ∧ Ones pv ∧ Ext w w' := by
  rw [p256_eq] at hx hy
  go_enter Hvah.func383, Hvah.ntmps383
  go_upto_region 1 with (first | ((with_reducible (refine Veil.out ?_; apply wl_boxW (x := Operand.tmp 0))); (case hx => rfl); rintro B1 W1 c1 e1 b1 a1 g1) | ((with_reducible (refine Veil.out ?_; apply wl_boxW (x := Operand.tmp 1))); (case hx => rfl); rintro B2 W2 c2 e2 b2 a2 g2) | ((with_reducible (refine Veil.out ?_; apply wl_allocW (dst := some 4))); rintro B3 W3 c3 e3 b3 _ g3) | ((with_reducible (refine Veil.out ?_; apply wl_allocW (dst := some 5))); rintro B4 W4 c4 e4 b4 _ g4) | ((with_reducible (refine Veil.out ?_; apply wl_allocF z408 (dst := some 6))); rintro B5 W5 e5 b5 g5))
  have g3w : w.heap.size ≤ B3 := Nat.le_trans (e1.trans e2).size g3
  have g4w : w.heap.size ≤ B4 := Nat.le_trans ((e1.trans e2).trans e3).size g4
  have g5w : w.heap.size ≤ B5 := Nat.le_trans (((e1.trans e2).trans e3).trans e4).size g5
  have hQR : ¬ B3 = B4 := fun q => by have := b3.lt; omega
  have hQP : ¬ B3 = B5 := fun q => by have := (b3.ext e4).lt; omega
  have hRP : ¬ B4 = B5 := fun q => by have := b4.lt; omega
  have KA : ∀ W, Ext W1 W → ∀ i v, lim x i = v → i < 4 → W.cell? ⟨B1, i, none⟩ = some (.int .u64 (v : Nat)) := fun W hW i v hv hi => by
    rw [((wat_ub b1 a1).ext hW).atD (show i < 4 from hi), ← hv]
    rcases (show i = 0 ∨ i = 1 ∨ i = 2 ∨ i = 3 by omega) with rfl | rfl | rfl | rfl <;> rfl
  go_upto_region 2 with (first | ((with_reducible (refine Veil.out ?_; apply wl_loadC onet26k (x := Operand.tmp 8))); (case hw => rfl); (case hx => rfl); (case hc => exact KA _ (by (repeat (first | with_reducible exact Ext.refl _ | with_reducible assumption | refine Ext.trans ?_ (by with_reducible assumption) | refine Ext.alloc ?_ _ _ | refine Ext.drew ?_ | refine Ext.drewN ?_ _))) 0 _ rfl (by decide))) | ((with_reducible (refine Veil.out ?_; apply wl_loadC onet26k (x := Operand.tmp 10))); (case hw => rfl); (case hx => rfl); (case hc => exact KA _ (by (repeat (first | with_reducible exact Ext.refl _ | with_reducible assumption | refine Ext.trans ?_ (by with_reducible assumption) | refine Ext.alloc ?_ _ _ | refine Ext.drew ?_ | refine Ext.drewN ?_ _))) 1 _ rfl (by decide))) | ((with_reducible (refine Veil.out ?_; apply wl_loadC onet26k (x := Operand.tmp 12))); (case hw => rfl); (case hx => rfl); (case hc => exact KA _ (by (repeat (first | with_reducible exact Ext.refl _ | with_reducible assumption | refine Ext.trans ?_ (by with_reducible assumption) | refine Ext.alloc ?_ _ _ | refine Ext.drew ?_ | refine Ext.drewN ?_ _))) 2 _ rfl (by decide))) | ((with_reducible (refine Veil.out ?_; apply wl_loadC onet26k (x := Operand.tmp 14))); (case hw => rfl); (case hx => rfl); (case hc => exact KA _ (by (repeat (first | with_reducible exact Ext.refl _ | with_reducible assumption | refine Ext.trans ?_ (by with_reducible assumption) | refine Ext.alloc ?_ _ _ | refine Ext.drew ?_ | refine Ext.drewN ?_ _))) 3 _ rfl (by decide))) | ((with_reducible (refine Veil.out ?_; apply wl_buildV (hb := b69 (lim x 0) (lim x 1) (lim x 2) (lim x 3)))); (case he => first | rfl | simp [Act.eval])) | ((with_reducible (refine Veil.out ?_; apply wl_allocF z69)); rintro X W6 e6 b6 g6) | ((with_reducible (refine Veil.out ?_; apply wl_storeRow rt69 (x := Operand.tmp 7) (r := (ucells [lim x 0, lim x 1, lim x 2, lim x 3, 0, 0, 0, 0]).toArray))); (case hx => rfl); (case hy => rfl); (case hr => exact rfl); (case h1 => exact ones_ucells _); (case hB => exact b6); (case hi => decide); rintro W7 b7 m7))
  have uX7 : UB W7 X 82 [lim x 0, lim x 1, lim x 2, lim x 3, 0, 0, 0, 0] := ub_lay b7 rfl
  have hE5 : Ext w W5 := (((e1.trans e2).trans e3).trans e4).trans e5
  have gXw : w.heap.size ≤ X := Nat.le_trans hE5.size g6
  have hE7 : Ext w W7 := Ext.trans_mod (hE5.trans e6) m7 (fun q hq => by have hq2 : q = X := hq; rw [hq2]; exact gXw)
  have h2X : ¬ B2 = X := fun q => by have := (b2.ext ((e3.trans e4).trans e5)).lt; omega
  have hXR : ¬ X = B4 := fun q => by have := (b4.ext e5).lt; omega
  have hXP : ¬ X = B5 := fun q => by have := b5.lt; omega
  have hQX : ¬ B3 = X := fun q => by have := (b3.ext (e4.trans e5)).lt; omega
  have b2' := (b2.ext (((e3.trans e4).trans e5).trans e6)).mod m7 h2X
  have bR8 := (b4.ext (e5.trans e6)).mod m7 (fun q => hXR q.symm)
  have bP8 := (b5.ext e6).mod m7 (fun q => hXP q.symm)
  have bQ8 := (b3.ext ((e4.trans e5).trans e6)).mod m7 hQX
  have HD := uDivide X y 82 _ W7 uX7 hy rfl (l64_limbs8 x)
  rw [lv_limbs8 hx] at HD
  go_upto_region 3 with (first | ((with_reducible (refine Veil.out ?_; apply wl_loadWB (x := Operand.tmp 3))); (case hx => rfl); (case hB => exact b2'.ext (by (repeat (first | with_reducible exact Ext.refl _ | with_reducible assumption | refine Ext.trans ?_ (by with_reducible assumption) | refine Ext.alloc ?_ _ _ | refine Ext.drew ?_ | refine Ext.drewN ?_ _)))); (case hW => exact a2); (case hi => decide)) | (go_at_call 417; refine HD.mono ?_; rintro e W8 ⟨ql, pv, rfl, lq, dq, ps, po, hq, u8, m8⟩) | ((with_reducible (refine Veil.out ?_; apply wl_storeWB (x := Operand.tmp 5) (v := dmod x y))); (case hx => rfl); (case hy => rfl); (case hB => exact bR8.mod m8 (fun q => hXR q.symm)); (case hi => decide); rintro W9 c9 b9 a9 _ m9) | ((with_reducible (refine Veil.out ?_; apply wl_storeRow rt408 (x := Operand.tmp 6) (r := pv))); (case hx => rfl); (case hy => rfl); (case hr => exact ps); (case h1 => exact po); (case hB => exact (bP8.mod m8 (fun q => hXP q.symm)).mod m9 (fun q => hRP q.symm)); (case hi => decide); rintro W10 b10 m10))
  have hE8 : Ext w W8 := Ext.trans_mod hE7 m8 (fun q hq => by have hq2 : q = X := hq; rw [hq2]; exact gXw)
  have hE9 : Ext w W9 := Ext.trans_mod hE8 m9 (fun q hq => by have hq2 : q = B4 := hq; rw [hq2]; exact g4w)
  have hE10 : Ext w W10 := Ext.trans_mod hE9 m10 (fun q hq => by have hq2 : q = B5 := hq; rw [hq2]; exact g5w)
  have u10 := (u8.mod m9 hXR).mod m10 hXP
  have b9' := b9.mod m10 hRP
  have bQ10 := ((bQ8.mod m8 hQX).mod m9 hQR).mod m10 hQP
  have HPA := fun W => run_arrayAt W 79 24 4 4 8 (some ⟨X, 0, none⟩) under66d (Nat.le_refl _)
  refine w_ext ?_
  rintro W0 hW0
  have hq0 : Ext W10 W0 := hW0
  refine wp_region_held_drew (S := fun w' => (Ext w (w') ∧ UB (w') X 82 ql ∧ Blk (w') B4 4 79 c9 ∧ Blk (w') B5 3 416 (cf pv))) (by kernel_rfl) ⟨hE10.trans hq0.drew, u10.ext hq0.drew, b9'.ext hq0.drew, (blk_lay b10 ps).ext hq0.drew⟩ (fun hHeld => ?_)
  have HH : Hid ((Ext w (_) ∧ UB (_) X 82 ql ∧ Blk (_) B4 4 79 c9 ∧ Blk (_) B5 3 416 (cf pv))) := hHeld
  clear hHeld
  refine wpAnyH_take (i := 0) (v := ?_) rfl (by kernel_rfl) (by kernel_rfl) (by kernel_rfl) (fun _ _ _ h => h) (Or.inl ⟨by rfl, ?_⟩) HH.out ?_
  rotate_left
  · intro w hSw; go_simp; try with_reducible rfl
  change wpAnyH _ _ _ _ _ _ _ (Act.put _ (some 22) _) _
  simp only [Act.put, List.setIfInBounds_toArray, List.set_cons_zero, List.set_cons_succ]
  refine wpAnyH_take (i := 1) (v := ?_) rfl (by kernel_rfl) (by kernel_rfl) (by kernel_rfl) (fun _ _ _ h => h) (Or.inl ⟨by rfl, ?_⟩) HH.out ?_
  rotate_left
  · intro w hSw; go_simp; try with_reducible rfl
  change wpAnyH _ _ _ _ _ _ _ (Act.put _ (some 23) _) _
  simp only [Act.put, List.setIfInBounds_toArray, List.set_cons_zero, List.set_cons_succ]
  refine wpAnyH_take (i := 2) rfl (by kernel_rfl) (by kernel_rfl) (by kernel_rfl) (fun _ _ _ h => h) (yields_row rt66 (by rfl) rfl rfl (fun W hW => hW.2.1.toB lq) (by decide)) HH.out ?_
  change wpAnyH _ _ _ _ _ _ _ (Act.put _ (some 24) _) _
  simp only [Act.put, List.setIfInBounds_toArray, List.set_cons_zero, List.set_cons_succ]
  refine wpAnyH_take (i := 3) rfl (by kernel_rfl) (by kernel_rfl) (by kernel_rfl) (fun _ _ _ h => h) (yields_row rt66 (by rfl) rfl rfl (fun W hW => hW.2.2.1) (by decide)) HH.out ?_
  change wpAnyH _ _ _ _ _ _ _ (Act.put _ (some 25) _) _
  simp only [Act.put, List.setIfInBounds_toArray, List.set_cons_zero, List.set_cons_succ]
  refine wpAnyH_take (i := 4) rfl (by kernel_rfl) (by kernel_rfl) (by kernel_rfl) (fun _ _ _ h => h) (yields_row rt408 (by rfl) rfl rfl (fun W hW => hW.2.2.2) (by decide)) HH.out ?_
  change wpAnyH _ _ _ _ _ _ _ (Act.put _ (some 26) _) _
  simp only [Act.put, List.setIfInBounds_toArray, List.set_cons_zero, List.set_cons_succ]
  refine wpAnyH_ready (rs := [5]) (by kernel_rfl) (by simp) ?_
  refine AllReadyH.cons rfl (fun K hK => ?_) AllReadyH.nil
  refine step_any rfl (op_storeRow rfl rt66 rfl rfl (rowOf_size _ _ _) (ones_lf _ _ _) (bQ10.ext hq0.drew) (by decide) ?_)
  rintro Wa ba ma
  refine hK.out _ _ ⟨Ext.trans_mod HH.out.1 ma (fun q hq => by have hq2 : q = B3 := hq; rw [hq2]; exact g3w), HH.out.2.1.mod ma (fun q => hQX q.symm), HH.out.2.2.1.mod ma (fun q => hQR q.symm), HH.out.2.2.2.mod ma (fun q => hQP q.symm)⟩ (fun hHeld => ?_)
  clear hK K HH
  have HH : Hid ((Ext w (_) ∧ UB (_) X 82 ql ∧ Blk (_) B4 4 79 c9 ∧ Blk (_) B5 3 416 (cf pv))) := hHeld
  clear hHeld
  change wpAnyH _ _ _ _ _ _ _ (Act.put _ none _) _
  simp only [Act.put, List.setIfInBounds_toArray, List.set_cons_zero, List.set_cons_succ]
  refine wpAnyH_ready (rs := [6]) (by kernel_rfl) (by simp) ?_
  refine AllReadyH.cons rfl (fun K hK => ?_) AllReadyH.nil
  refine step_any rfl (op_storeRow rfl rt66 rfl rfl (rowOf_size _ _ _) (wat_ones a9) HH.out.2.2.1 (by decide) ?_)
  rintro Wb bb mb
  refine hK.out _ _ ⟨Ext.trans_mod HH.out.1 mb (fun q hq => by have hq2 : q = B4 := hq; rw [hq2]; exact g4w), HH.out.2.1.mod mb hXR, bb.laySelf, HH.out.2.2.2.mod mb (fun q => hRP q.symm)⟩ (fun hHeld => ?_)
  clear hK K HH
  have HH : Hid ((Ext w (_) ∧ UB (_) X 82 ql ∧ Blk (_) B4 4 79 c9 ∧ Blk (_) B5 3 416 (cf pv))) := hHeld
  clear hHeld
  change wpAnyH _ _ _ _ _ _ _ (Act.put _ none _) _
  simp only [Act.put, List.setIfInBounds_toArray, List.set_cons_zero, List.set_cons_succ]
  refine wpAnyH_ready (rs := [7]) (by kernel_rfl) (by simp) ?_
  refine AllReadyH.cons rfl (fun K hK => ?_) AllReadyH.nil
  refine step_any rfl (op_storeRow rfl rt408 rfl rfl (rowOf_size _ _ _) (cf_ones po ps) HH.out.2.2.2 (by decide) ?_)
  rintro Wc bc mc
  refine hK.out _ _ ⟨Ext.trans_mod HH.out.1 mc (fun q hq => by have hq2 : q = B5 := hq; rw [hq2]; exact g5w), HH.out.2.1.mod mc hXP, HH.out.2.2.1.mod mc hRP, bc.laySelf⟩ (fun hHeld => ?_)
  clear hK K HH
  have HH : Hid ((Ext w (_) ∧ UB (_) X 82 ql ∧ Blk (_) B4 4 79 c9 ∧ Blk (_) B5 3 416 (cf pv))) := hHeld
  clear hHeld
  change wpAnyH _ _ _ _ _ _ _ (Act.put _ none _) _
  simp only [Act.put, List.setIfInBounds_toArray, List.set_cons_zero, List.set_cons_succ]
  refine wpAnyH_done (by kernel_rfl) ?_ _
  go_wp2
  obtain ⟨hEf, uXf, bRf, bPf⟩ := HH.out
  have bQf := ((ba.same (c' := lf ql) (fun i hi => (lay_over _ (lf ql) 4 i hi).symm)).mod mb hQR).mod mc hQP
  refine post_rrr rt66 rt66 rt408 (rowOf (lf ql) 0 4) (rowOf c9 0 4) (rowOf (cf pv) 0 3) (rowOf_size _ _ _) (rowOf_size _ _ _) (rowOf_size _ _ _) rfl rfl rfl rfl (bQf.rowIn (by decide)) (bRf.rowIn (by decide)) (bPf.rowIn (by decide)) rfl ?_
  have hq4 : lv ql < Bn 4 := by rw [hq, Bn_two]; exact Nat.lt_of_le_of_lt (Nat.div_le_self _ _) hx
  have e4' := lv_of_zeros ql 4 (by omega) (fun i h1 h2 => zeros_of_lt ql 4 hq4 i h1 h2)
  rw [rowOf_lf ql 4 (by omega), wv_lv (by simp [lq]) (dq.take 4), ← e4', hq, wat_row a9, cf_row ps]
  exact ⟨pv, rfl, ps, po, hEf⟩
set_option maxRecDepth 100000 in
set_option maxHeartbeats 6400000 in
theorem uRem512 (l : List Nat) (m : Nat) (w : World) (hl : l.length = 8) (dl : L64 l) (hm : m < P256) : Calls Hvah.prog 388 #[.agg (ucells l).toArray, wv m] w fun e w' => ∃ pv, e = .returned (.tuple #[wv (dmod (lv l) m), .agg pv]) ∧ pv.size = 3 ∧ Ones pv ∧ Ext w w' := by
  rw [p256_eq] at hm
  go_enter Hvah.func388, Hvah.ntmps388
  go_upto_region 1 with (first | ((with_reducible (refine Veil.out ?_; apply wl_boxB (x := Operand.tmp 0) (r := (ucells l).toArray) (n := 8))); (case hx => rfl); (case hn => exact (ucells_size _).trans hl); rintro B1 W1 e1 b1 g1) | ((with_reducible (refine Veil.out ?_; apply wl_boxW (x := Operand.tmp 1))); (case hx => rfl); rintro B2 W2 c2 e2 b2 a2 g2) | ((with_reducible (refine Veil.out ?_; apply wl_allocW (dst := some 4))); rintro B3 W3 c3 e3 b3 _ g3) | ((with_reducible (refine Veil.out ?_; apply wl_allocF z408 (dst := some 5))); rintro B4 W4 e4 b4 g4))
  have g3w : w.heap.size ≤ B3 := Nat.le_trans (e1.trans e2).size g3
  have g4w : w.heap.size ≤ B4 := Nat.le_trans ((e1.trans e2).trans e3).size g4
  have h1R : ¬ B1 = B3 := fun q => by have := (b1.ext e2).lt; omega
  have h1P : ¬ B1 = B4 := fun q => by have := (b1.ext (e2.trans e3)).lt; omega
  have hRP : ¬ B3 = B4 := fun q => by have := b3.lt; omega
  have uX : UB W4 B1 82 l := (b1.ext ((e2.trans e3).trans e4)).toUB hl (fun i hi => by
    unfold cf
    simp [ucells, List.getD_eq_getElem?_getD, Array.getD_eq_getD_getElem?, show i < l.length by omega])
  have HD := uDivide B1 m 82 _ W4 uX hm hl dl
  go_wp2_with (first | ((with_reducible (refine Veil.out ?_; apply wl_loadWB (x := Operand.tmp 3))); (case hx => rfl); (case hB => exact b2.ext (by (repeat (first | with_reducible exact Ext.refl _ | with_reducible assumption | refine Ext.trans ?_ (by with_reducible assumption) | refine Ext.alloc ?_ _ _ | refine Ext.drew ?_ | refine Ext.drewN ?_ _)))); (case hW => exact a2); (case hi => decide)) | (go_at_call 417; refine HD.mono ?_; rintro e W8 ⟨ql, pv, rfl, lq, dq, ps, po, hq, u8, m8⟩) | ((with_reducible (refine Veil.out ?_; apply wl_storeWB (x := Operand.tmp 4) (v := dmod (lv l) m))); (case hx => rfl); (case hy => rfl); (case hB => exact (b3.ext e4).mod m8 (fun q => h1R q.symm)); (case hi => decide); rintro W9 c9 b9 a9 _ m9) | ((with_reducible (refine Veil.out ?_; apply wl_storeRow rt408 (x := Operand.tmp 5) (r := pv))); (case hx => rfl); (case hy => rfl); (case hr => exact ps); (case h1 => exact po); (case hB => exact (b4.mod m8 (fun q => h1P q.symm)).mod m9 (fun q => hRP q.symm)); (case hi => decide); rintro W10 b10 m10))
  have hE4 : Ext w W4 := ((e1.trans e2).trans e3).trans e4
  have hE8 : Ext w W8 := Ext.trans_mod hE4 m8 (fun q hq => by have hq2 : q = B1 := hq; rw [hq2]; exact g1)
  have hE10 : Ext w W10 := Ext.trans_mod (Ext.trans_mod hE8 m9 (fun q hq => by have hq2 : q = B3 := hq; rw [hq2]; exact g3w)) m10 (fun q hq => by have hq2 : q = B4 := hq; rw [hq2]; exact g4w)
  refine post_rr rt66 rt408 (rowOf c9 0 4) pv (rowOf_size _ _ _) ps rfl rfl rfl ((b9.mod m10 hRP).rowIn (by decide)) ?_ rfl ?_
  · have h9 := (blk_lay b10 ps).rowIn (o := 0) (m := 3) (by decide)
    rwa [cf_row ps] at h9
  · rw [wat_row a9]
    exact ⟨pv, rfl, ps, po, hE10⟩
set_option maxRecDepth 100000 in
set_option maxHeartbeats 6400000 in
theorem uDiv (x y : Nat) (w : World) (hx : x < P256) (hy : y < P256) : Calls Hvah.prog 282 #[wv x, wv y] w fun e w' => e = .returned (wv (x / y)) ∧ Ext w w' := by
  have HD := fun W => uDivRem x y W hx hy
  go_enter Hvah.func282, Hvah.ntmps282
  go_upto_region 2 with (first | ((with_reducible (refine Veil.out ?_; apply wl_boxW (x := Operand.tmp 0))); (case hx => rfl); rintro B1 W1 c1 e1 b1 a1 g1) | ((with_reducible (refine Veil.out ?_; apply wl_boxW (x := Operand.tmp 1))); (case hx => rfl); rintro B2 W2 c2 e2 b2 a2 g2) | ((with_reducible (refine Veil.out ?_; apply wl_allocW (dst := some 4))); rintro B3 W3 c3 e3 b3 _ g3) | ((with_reducible (refine Veil.out ?_; apply wl_loadWB (x := Operand.tmp 2))); (case hx => rfl); (case hB => exact b1.ext (by (repeat (first | with_reducible exact Ext.refl _ | with_reducible assumption | refine Ext.trans ?_ (by with_reducible assumption) | refine Ext.alloc ?_ _ _ | refine Ext.drew ?_ | refine Ext.drewN ?_ _)))); (case hW => exact a1); (case hi => decide)) | ((with_reducible (refine Veil.out ?_; apply wl_loadWB (x := Operand.tmp 3))); (case hx => rfl); (case hB => exact b2.ext (by (repeat (first | with_reducible exact Ext.refl _ | with_reducible assumption | refine Ext.trans ?_ (by with_reducible assumption) | refine Ext.alloc ?_ _ _ | refine Ext.drew ?_ | refine Ext.drewN ?_ _)))); (case hW => exact a2); (case hi => decide)) | (go_at_call 383; refine (HD _).mono ?_; rintro e W10 ⟨pv, rfl, ps, po, e10⟩) | ((with_reducible (refine Veil.out ?_; apply wl_allocW (dst := some 5))); rintro B4 W4 c4 e4 b4 _ g4) | ((with_reducible (refine Veil.out ?_; apply wl_allocW (dst := some 6))); rintro B5 W5 c5 e5 b5 _ g5) | ((with_reducible (refine Veil.out ?_; apply wl_allocF z408 (dst := some 7))); rintro B6 W6 e6 b6 g6) | ((with_reducible (refine Veil.out ?_; apply wl_storeWB (x := Operand.tmp 5) (v := x / y))); (case hx => rfl); (case hy => rfl); (case hB => exact b4.ext (by (repeat (first | with_reducible exact Ext.refl _ | with_reducible assumption | refine Ext.trans ?_ (by with_reducible assumption) | refine Ext.alloc ?_ _ _ | refine Ext.drew ?_ | refine Ext.drewN ?_ _)))); (case hi => decide); rintro W11 c11 b11 a11 _ m11) | ((with_reducible (refine Veil.out ?_; apply wl_storeWB (x := Operand.tmp 6) (v := dmod x y))); (case hx => rfl); (case hy => rfl); (case hB => exact (b5.ext (by (repeat (first | with_reducible exact Ext.refl _ | with_reducible assumption | refine Ext.trans ?_ (by with_reducible assumption) | refine Ext.alloc ?_ _ _ | refine Ext.drew ?_ | refine Ext.drewN ?_ _)))).mod m11 (fun q => by have := b4.lt; have hq : B5 = B4 := q; omega)); (case hi => decide); rintro W12 c12 b12 a12 _ m12) | ((with_reducible (refine Veil.out ?_; apply wl_storeRow rt408 (x := Operand.tmp 7) (r := pv))); (case hx => rfl); (case hy => rfl); (case hr => exact ps); (case h1 => exact po); (case hB => exact (b6.mod m11 (fun q => by have := (b4.ext e5).lt; have hq : B6 = B4 := q; omega)).mod m12 (fun q => by have := b5.lt; have hq : B6 = B5 := q; omega)); (case hi => decide); rintro W13 b13 m13))
  have h45 : ¬ B4 = B5 := fun q => by have := b4.lt; omega
  have h46 : ¬ B4 = B6 := fun q => by have := (b4.ext e5).lt; omega
  have h56 : ¬ B5 = B6 := fun q => by have := b5.lt; omega
  have h34 : ¬ B3 = B4 := fun q => by have := (b3.ext e10).lt; omega
  have h35 : ¬ B3 = B5 := fun q => by have := (b3.ext (e10.trans e4)).lt; omega
  have h36 : ¬ B3 = B6 := fun q => by have := (b3.ext ((e10.trans e4).trans e5)).lt; omega
  have b3' := b3.ext (((e10.trans e4).trans e5).trans e6)
  have g3w : w.heap.size ≤ B3 := Nat.le_trans (e1.trans e2).size g3
  have hE10 : Ext w W10 := ((e1.trans e2).trans e3).trans e10
  have g4w : w.heap.size ≤ B4 := Nat.le_trans hE10.size g4
  have g5w : w.heap.size ≤ B5 := Nat.le_trans (hE10.trans e4).size g5
  have g6w : w.heap.size ≤ B6 := Nat.le_trans ((hE10.trans e4).trans e5).size g6
  have hE13 : Ext w W13 := Ext.trans_mod (Ext.trans_mod (Ext.trans_mod (((hE10.trans e4).trans e5).trans e6) m11 (fun q hq => by have hq2 : q = B4 := hq; rw [hq2]; exact g4w)) m12 (fun q hq => by have hq2 : q = B5 := hq; rw [hq2]; exact g5w)) m13 (fun q hq => by have hq2 : q = B6 := hq; rw [hq2]; exact g6w)
  go_wp2_with (first | ((with_reducible (refine Veil.out ?_; apply wl_loadWB (x := Operand.tmp 5))); (case hx => rfl); (case hB => exact ((b11.mod m12 h45).mod m13 h46)); (case hW => exact a11); (case hi => decide)) | ((with_reducible (refine Veil.out ?_; apply wl_storeWB (x := Operand.tmp 4) (v := x / y))); (case hx => rfl); (case hy => rfl); (case hB => exact ((b3'.mod m11 h34).mod m12 h35).mod m13 h36); (case hi => decide); rintro W14 c14 b14 a14 _ m14))
  refine post_row rt66 (rowOf c14 0 4) (rowOf_size _ _ _) rfl rfl (b14.rowIn (by decide)) rfl ?_
  rw [wat_row a14]
  exact ⟨rfl, Ext.trans_mod hE13 m14 (fun q hq => by have hq2 : q = B3 := hq; rw [hq2]; exact g3w)⟩
set_option maxRecDepth 100000 in
set_option maxHeartbeats 6400000 in
theorem uMod (x y : Nat) (w : World) (hx : x < P256) (hy : y < P256) : Calls Hvah.prog 284 #[wv x, wv y] w fun e w' => e = .returned (wv (dmod x y)) ∧ Ext w w' := by
  have HD := fun W => uDivRem x y W hx hy
  go_enter Hvah.func284, Hvah.ntmps284
  go_upto_region 2 with (first | ((with_reducible (refine Veil.out ?_; apply wl_boxW (x := Operand.tmp 0))); (case hx => rfl); rintro B1 W1 c1 e1 b1 a1 g1) | ((with_reducible (refine Veil.out ?_; apply wl_boxW (x := Operand.tmp 1))); (case hx => rfl); rintro B2 W2 c2 e2 b2 a2 g2) | ((with_reducible (refine Veil.out ?_; apply wl_allocW (dst := some 4))); rintro B3 W3 c3 e3 b3 _ g3) | ((with_reducible (refine Veil.out ?_; apply wl_loadWB (x := Operand.tmp 2))); (case hx => rfl); (case hB => exact b1.ext (by (repeat (first | with_reducible exact Ext.refl _ | with_reducible assumption | refine Ext.trans ?_ (by with_reducible assumption) | refine Ext.alloc ?_ _ _ | refine Ext.drew ?_ | refine Ext.drewN ?_ _)))); (case hW => exact a1); (case hi => decide)) | ((with_reducible (refine Veil.out ?_; apply wl_loadWB (x := Operand.tmp 3))); (case hx => rfl); (case hB => exact b2.ext (by (repeat (first | with_reducible exact Ext.refl _ | with_reducible assumption | refine Ext.trans ?_ (by with_reducible assumption) | refine Ext.alloc ?_ _ _ | refine Ext.drew ?_ | refine Ext.drewN ?_ _)))); (case hW => exact a2); (case hi => decide)) | (go_at_call 383; refine (HD _).mono ?_; rintro e W10 ⟨pv, rfl, ps, po, e10⟩) | ((with_reducible (refine Veil.out ?_; apply wl_allocW (dst := some 5))); rintro B4 W4 c4 e4 b4 _ g4) | ((with_reducible (refine Veil.out ?_; apply wl_allocW (dst := some 6))); rintro B5 W5 c5 e5 b5 _ g5) | ((with_reducible (refine Veil.out ?_; apply wl_allocF z408 (dst := some 7))); rintro B6 W6 e6 b6 g6) | ((with_reducible (refine Veil.out ?_; apply wl_storeWB (x := Operand.tmp 5) (v := x / y))); (case hx => rfl); (case hy => rfl); (case hB => exact b4.ext (by (repeat (first | with_reducible exact Ext.refl _ | with_reducible assumption | refine Ext.trans ?_ (by with_reducible assumption) | refine Ext.alloc ?_ _ _ | refine Ext.drew ?_ | refine Ext.drewN ?_ _)))); (case hi => decide); rintro W11 c11 b11 a11 _ m11) | ((with_reducible (refine Veil.out ?_; apply wl_storeWB (x := Operand.tmp 6) (v := dmod x y))); (case hx => rfl); (case hy => rfl); (case hB => exact (b5.ext (by (repeat (first | with_reducible exact Ext.refl _ | with_reducible assumption | refine Ext.trans ?_ (by with_reducible assumption) | refine Ext.alloc ?_ _ _ | refine Ext.drew ?_ | refine Ext.drewN ?_ _)))).mod m11 (fun q => by have := b4.lt; have hq : B5 = B4 := q; omega)); (case hi => decide); rintro W12 c12 b12 a12 _ m12) | ((with_reducible (refine Veil.out ?_; apply wl_storeRow rt408 (x := Operand.tmp 7) (r := pv))); (case hx => rfl); (case hy => rfl); (case hr => exact ps); (case h1 => exact po); (case hB => exact (b6.mod m11 (fun q => by have := (b4.ext e5).lt; have hq : B6 = B4 := q; omega)).mod m12 (fun q => by have := b5.lt; have hq : B6 = B5 := q; omega)); (case hi => decide); rintro W13 b13 m13))
  have h45 : ¬ B4 = B5 := fun q => by have := b4.lt; omega
  have h46 : ¬ B4 = B6 := fun q => by have := (b4.ext e5).lt; omega
  have h56 : ¬ B5 = B6 := fun q => by have := b5.lt; omega
  have h34 : ¬ B3 = B4 := fun q => by have := (b3.ext e10).lt; omega
  have h35 : ¬ B3 = B5 := fun q => by have := (b3.ext (e10.trans e4)).lt; omega
  have h36 : ¬ B3 = B6 := fun q => by have := (b3.ext ((e10.trans e4).trans e5)).lt; omega
  have b3' := b3.ext (((e10.trans e4).trans e5).trans e6)
  have g3w : w.heap.size ≤ B3 := Nat.le_trans (e1.trans e2).size g3
  have hE10 : Ext w W10 := ((e1.trans e2).trans e3).trans e10
  have g4w : w.heap.size ≤ B4 := Nat.le_trans hE10.size g4
  have g5w : w.heap.size ≤ B5 := Nat.le_trans (hE10.trans e4).size g5
  have g6w : w.heap.size ≤ B6 := Nat.le_trans ((hE10.trans e4).trans e5).size g6
  have hE13 : Ext w W13 := Ext.trans_mod (Ext.trans_mod (Ext.trans_mod (((hE10.trans e4).trans e5).trans e6) m11 (fun q hq => by have hq2 : q = B4 := hq; rw [hq2]; exact g4w)) m12 (fun q hq => by have hq2 : q = B5 := hq; rw [hq2]; exact g5w)) m13 (fun q hq => by have hq2 : q = B6 := hq; rw [hq2]; exact g6w)
  go_wp2_with (first | ((with_reducible (refine Veil.out ?_; apply wl_loadWB (x := Operand.tmp 6))); (case hx => rfl); (case hB => exact (b12.mod m13 h56)); (case hW => exact a12); (case hi => decide)) | ((with_reducible (refine Veil.out ?_; apply wl_storeWB (x := Operand.tmp 4) (v := dmod x y))); (case hx => rfl); (case hy => rfl); (case hB => exact ((b3'.mod m11 h34).mod m12 h35).mod m13 h36); (case hi => decide); rintro W14 c14 b14 a14 _ m14))
  refine post_row rt66 (rowOf c14 0 4) (rowOf_size _ _ _) rfl rfl (b14.rowIn (by decide)) rfl ?_
  rw [wat_row a14]
  exact ⟨rfl, Ext.trans_mod hE13 m14 (fun q hq => by have hq2 : q = B3 := hq; rw [hq2]; exact g3w)⟩
end Go.Proofs.YgvahwGreat
