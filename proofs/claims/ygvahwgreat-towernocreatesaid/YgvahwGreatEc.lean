import Derived.Test.YgvahwGreatEb
import Derived.Test.YgvahwGreatIb2
namespace Go.Proofs.YgvahwGreat
open Go.RowKit
set_option linter.unusedSimpArgs false

theorem post_WW {fn : Func} {R : Ending → World → Prop} {ac : Act} {w : World} {t u : Tmp} {b b2 x y n1 n2 : Nat} {t1 t2 : TypeId} {c1 c2 : Nat → Value} (hf : fn.results = #[.cell t 79, .cell u 79]) (ht : ac.tmps.getD t undef = .pointer (some ⟨b, 0, none⟩)) (hu : ac.tmps.getD u undef = .pointer (some ⟨b2, 0, none⟩)) (hB : Blk w b n1 t1 c1) (hW : WAt c1 0 x) (hn : 4 ≤ n1) (hB2 : Blk w b2 n2 t2 c2) (hW2 : WAt c2 0 y) (hn2 : 4 ≤ n2) (hdf : ac.defers = []) (h : R (.returned (.tuple #[wv x, wv y])) w) : bodyPost Hvah.prog fn R .ret ac w := by
  exact post_BB rt66 rt66 (wvA x) (wvA y) rfl rfl hf ht hu (hW.rowIn hB (by omega)) (hW2.rowIn hB2 (by omega)) hdf h
section
variable {O : Nat → Prop} {w : World} {r : Array Value} {t : ATx}
set_option maxRecDepth 100000 in
set_option maxHeartbeats 6400000 in
theorem eFees (hr : r.size = 174) (h : TxC O w (cf r) t) : Calls Hvah.prog 171 #[.agg r] w fun e w' => e = .returned (.tuple #[wv t.most, wv t.tipF]) ∧ Ext w w' := by
  have hml := ATx.mostLt h
  have htl := ATx.tipLt h
  have HF := fun W (hW : Ext w W) (B : Nat) (hB : Blk W B 174 40 (cf r)) => oFees hB (h.ext hW)
  generalize t.most = most at *
  generalize t.tipF = tip at *
  go_enter Hvah.func171, Hvah.ntmps171
  go_upto_region 2 with (first
    | ((with_reducible (refine Veil.out ?_; apply wl_boxB)); (case hx => rfl); (case hn => exact hr); rintro B1 W1 e1 b1 g1; (with_reducible (refine Veil.out ?_; apply wl_allocW)); rintro B2 W2 c2 e2 b2 _ g2; (with_reducible (refine Veil.out ?_; apply wl_allocW)); rintro B3 W3 c3 e3 b3 _ g3)
    | (go_at_call 129; refine (HF _ (e1.trans (e2.trans e3)) B1 (b1.ext (e2.trans e3))).mono ?_; rintro e w4 ⟨rfl, e4⟩)
    | ((with_reducible (refine Veil.out ?_; apply wl_allocBB)); rintro B4 W4 c4 e5 b4 _ g4; (with_reducible (refine Veil.out ?_; apply wl_allocBB)); rintro B5 W5 c5 e6 b5 _ g5)
    | ((with_reducible (refine Veil.out ?_; apply wl_storeBB (v := most))); (case hx => rfl); (case hy => rfl); (case hv => exact hml); (case hB => exact b4.ext e6); (case hi => decide); rintro W6 c6 b6 a6 _ m6)
    | ((with_reducible (refine Veil.out ?_; apply wl_storeBB (v := tip))); (case hx => rfl); (case hy => rfl); (case hv => exact htl); (case hB => exact b5.mod m6 (fun q => by have q2 : B5 = B4 := q; have := b4.lt; omega)); (case hi => decide); rintro W7 c7 b7 a7 _ m7))
  have l1 := b1.lt
  have l2 := b2.lt
  have l3 := b3.lt
  have l4 := b4.lt
  have s2 := e2.size
  have s3 := e3.size
  have s4 := e4.size
  have s5 := e5.size
  have s6 := e6.size
  have n23 : ¬ B2 = B3 := by omega
  have n4 : ¬ (B4 = B2 ∨ B4 = B3) := by omega
  have n5 : ¬ (B5 = B2 ∨ B5 = B3) := by omega
  have n54 : ¬ B5 = B4 := by omega
  have eX : Ext w4 W7 := Ext.trans_mod (Ext.trans_mod (e5.trans e6) m6 (fun q hq => by have hq2 : q = B4 := hq; rw [hq2]; exact g4)) m7 (fun q hq => by have hq2 : q = B5 := hq; rw [hq2]; exact Nat.le_trans e5.size g5)
  have eY : Ext w W7 := (e1.trans (e2.trans (e3.trans e4))).trans eX
  have b2' := b2.ext (e3.trans (e4.trans eX))
  have b3' := b3.ext (e4.trans eX)
  have b6' := b6.mod m7 (fun q => n54 q.symm)
  have gg2 : w.heap.size ≤ B2 := Nat.le_trans e1.size g2
  have gg3 : w.heap.size ≤ B3 := Nat.le_trans (e1.trans e2).size g3
  clear HF h b1 b2 b3 b4 b5 m6 m7 e1 e2 e3 e4 e5 e6 eX
  have b2 := b2'
  have b3 := b3'
  have b6 := b6'
  clear b2' b3' b6'
  refine w_ext ?_
  rintro W0 hW0
  refine wp_region_held_drew (S := fun w' => Mod (fun b => b = B2 ∨ b = B3) W0 w') (by kernel_rfl) (Mod.refl _ _).drew (fun hHeld => ?_)
  have HH : Hid (Mod (fun b => b = B2 ∨ b = B3) W0 _) := hHeld
  clear hHeld
  refine wpAnyH_take (i := 0) rfl (by kernel_rfl) (by kernel_rfl) (by kernel_rfl) (fun _ _ _ h => h) (yields_B (by rfl) rfl rfl (fun w hSw => (b6.ext hW0).mod hSw n4) a6 hml (by decide)) HH.out ?_
  change wpAnyH _ _ _ _ _ _ _ (Act.put _ (some 10) _) _
  simp only [Act.put, List.setIfInBounds_toArray, List.set_cons_zero, List.set_cons_succ]
  refine wpAnyH_take (i := 2) rfl (by kernel_rfl) (by kernel_rfl) (by kernel_rfl) (fun _ _ _ h => h) (yields_B (by rfl) rfl rfl (fun w hSw => (b7.ext hW0).mod hSw n5) a7 htl (by decide)) HH.out ?_
  change wpAnyH _ _ _ _ _ _ _ (Act.put _ (some 12) _) _
  simp only [Act.put, List.setIfInBounds_toArray, List.set_cons_zero, List.set_cons_succ]
  refine wpAnyH_ready (rs := [1]) (by kernel_rfl) (by simp) ?_
  refine AllReadyH.cons rfl (fun K hK => ?_) AllReadyH.nil
  go_simp
  go_at_call_of 92 (Value.agg (bw most)); refine (uFromB hml _).mono ?_; rintro e w11 ⟨rfl, he11⟩; have he := he11
  refine hK.out _ _ ?_ (fun hHeld => ?_)
  · first | exact HH.out.trans hmY | exact HH.out.trans_ext he | exact HH.out
  clear hK K HH
  have HH : Hid (Mod (fun b => b = B2 ∨ b = B3) W0 _) := hHeld
  clear hHeld
  refine wpAnyH_ready (rs := [3]) (by kernel_rfl) (by simp) ?_
  refine AllReadyH.cons rfl (fun K hK => ?_) AllReadyH.nil
  go_simp
  go_at_call_of 92 (Value.agg (bw tip)); refine (uFromB htl _).mono ?_; rintro e w13 ⟨rfl, he13⟩; have he := he13
  refine hK.out _ _ ?_ (fun hHeld => ?_)
  · first | exact HH.out.trans hmY | exact HH.out.trans_ext he | exact HH.out
  clear hK K HH
  have HH : Hid (Mod (fun b => b = B2 ∨ b = B3) W0 _) := hHeld
  clear hHeld
  refine wpAnyH_ready (rs := [4]) (by kernel_rfl) (by simp) ?_
  refine AllReadyH.cons rfl (fun K hK => ?_) AllReadyH.nil
  refine step_any rfl (op_storeWB rfl rfl rfl ((b2.ext hW0).ext (by (repeat (first | with_reducible exact Ext.refl _ | with_reducible assumption | refine Ext.trans ?_ (by with_reducible assumption) | refine Ext.alloc ?_ _ _ | refine Ext.drew ?_ | refine Ext.drewN ?_ _)))) (by decide) ?_)
  rintro W14 c14 b14 a14 _ m14
  refine hK.out _ _ ?_ (fun hHeld => ?_)
  · exact HH.out.trans (m14.sub (fun q hq => Or.inl hq))
  clear hK K HH
  have HH : Hid (Mod (fun b => b = B2 ∨ b = B3) W0 _) := hHeld
  clear hHeld
  change wpAnyH _ _ _ _ _ _ _ (Act.put _ none _) _
  simp only [Act.put, List.setIfInBounds_toArray, List.set_cons_zero, List.set_cons_succ]
  refine wpAnyH_ready (rs := [5]) (by kernel_rfl) (by simp) ?_
  refine AllReadyH.cons rfl (fun K hK => ?_) AllReadyH.nil
  refine step_any rfl (op_storeWB rfl rfl rfl (((b3.ext hW0).ext (by (repeat (first | with_reducible exact Ext.refl _ | with_reducible assumption | refine Ext.trans ?_ (by with_reducible assumption) | refine Ext.alloc ?_ _ _ | refine Ext.drew ?_ | refine Ext.drewN ?_ _)))).mod m14 (fun q => n23 q.symm)) (by decide) ?_)
  rintro W15 c15 b15 a15 _ m15
  have b14' := b14.mod m15 n23
  refine hK.out _ _ ?_ (fun hHeld => ?_)
  · exact HH.out.trans (m15.sub (fun q hq => Or.inr hq))
  clear hK K HH
  have HH : Hid (Mod (fun b => b = B2 ∨ b = B3) W0 _) := hHeld
  clear hHeld
  change wpAnyH _ _ _ _ _ _ _ (Act.put _ none _) _
  simp only [Act.put, List.setIfInBounds_toArray, List.set_cons_zero, List.set_cons_succ]
  refine wpAnyH_done (by kernel_rfl) ?_ _
  go_wp2
  refine post_WW rfl rfl rfl b14' a14 (by decide) b15 a15 (by decide) rfl ?_
  exact ⟨rfl, Ext.trans_mod (eY.trans hW0) HH.out (fun q hq => by rcases hq with hq | hq <;> rw [hq] <;> assumption)⟩
end
end Go.Proofs.YgvahwGreat
