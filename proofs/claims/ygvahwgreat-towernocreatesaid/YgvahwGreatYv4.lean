import Derived.Test.YgvahwGreatYi0
namespace Go.Proofs.YgvahwGreat
open Go.RowKit
set_option linter.unusedSimpArgs false
theorem post_u8v {R : Ending → World → Prop} {ac : Act} {w : World} {v : Value} (hv : ac.tmps.getD 4 undef = v) (hdf : ac.defers = []) (h : R (.returned v) w) : bodyPost Hvah.prog Hvah.f52 R .ret ac w := by
  subst hv; exact bodyPost_ret (results_tmp rfl _ _ _) hdf h
section
variable {O : Nat → Prop} {w : World} {Y : Nat} {c : Nat → Value} {W : YW} {st : ASt} {tot : Nat} {r : Array Value} {t : ATx}
set_option maxRecDepth 100000 in
set_option maxHeartbeats 6400000 in
theorem yVerdict (h : YI O w Y c W st tot) (hr : r.size = 174) (hT : TxC O w (cf r) t) (ha : st.applied < 4) : Calls Hvah.prog 52 #[.pointer (some ⟨Y, 0, none⟩), .agg r] w fun e w' => e = .returned (.int .u8 (st.verdict t : Nat)) ∧ Ext w w' := by
  have hml := ATx.mostLt hT
  have htl := ATx.tipLt hT
  have hfl := hT.fLt
  have hYl := h.bY.lt
  have HF := fun W (hW : Ext w W) (B : Nat) (hB : Blk W B 174 40 (cf r)) => oFees hB (hT.ext hW)
  have HL := fun W (hW : Ext w W) (B : Nat) (hB : Blk W B 174 40 (cf r)) => oListOK hB (hT.ext hW)
  have HIn := fun (q1 : t.data.length ≤ 1024) (q2 : t.listOK = true) W (hW : Ext w W) => yIntrinsic (h.small.ext hW) hr (hT.ext hW) q1 (of_decide_eq_true q2).1 (of_decide_eq_true q2).2
  have HBF := fun W (hW : Ext w W) => rBaseFee (h.small.ext hW) (h.bY.ext hW) (h.env.ext hW)
  have hpz : c 11 = .int .u8 (0 : Nat) := by rw [h.phase, h.ph]
  have hap : c 13 = .int .u8 (st.applied : Nat) := h.applied
  have hci : cf r 41 = .int .u64 (t.nonce : Nat) := hT.nonce
  have hcg : cf r 42 = .int .u64 (t.gas : Nat) := hT.gas
  have hcc : cf r 40 = .bool t.create := hT.create
  obtain ⟨od, cd, hdd, hd1, hd2, _⟩ := hT.data
  have hel : (W.acct t.from_).nonce < 18446744073709551616 := h.lim.nonce _
  have hV : Hid (st.verdict t = if st.phase ≠ 0 then 1 else if 4 ≤ st.applied then 2 else if 1048576 < t.gas ∨ 1024 < t.data.length ∨ t.listOK = false then 3 else if t.nonce ≠ (W.acct t.from_).nonce then 4 else if (W.acct t.from_).nonce = 18446744073709551615 then 5 else if (W.acct t.from_).code ≠ [] then 6 else if t.create ∧ 512 < t.data.length then 7 else if t.gas < t.intrinsic then 8 else if st.env.gasLimit < t.gas then 9 else if (W.acct t.from_).bal < t.gas * t.most + t.value then 10 else if t.most < t.tipF then 11 else if t.most < st.env.baseFee then 12 else 0) := by
    show st.verdict t = _
    unfold ASt.verdict
    rw [h.now]
    rfl
  rw [if_neg (fun q => q h.ph), if_neg (by omega)] at hV
  obtain ⟨z8, hz81, hz82⟩ := z108m
  go_enter Hvah.func52, Hvah.ntmps52
  go_upto_region 1 with ((with_reducible (refine Veil.out ?_; apply wl_boxB)); (case hx => rfl); (case hn => exact hr); rintro BT W1 e1 b1 g1)
  refine w_ext ?_
  rintro W0 hW0
  refine' joinMc (P := _) (Fc := fun BA W8 u1 u2 u3 u4 => Ext W0 W8 ∧ W0.heap.size ≤ BA ∧ Blk W8 BA 24 121 (layv (cf z8) 0 (acR t.from_ u1 u2 u3 u4)) ∧ NV O W8 u1 (W.acct t.from_).nonce ∧ NV O W8 u2 (W.acct t.from_).bal ∧ NL O W8 u3 (W.acct t.from_).code) (fun key => _) _
  rotate_left
  refine wp_region_held_drew (S := fun w' => Ext W0 w') (by kernel_rfl) (Ext.refl _).drew (fun hHeld => ?_)
  have HH : Hid (Ext W0 _) := hHeld
  clear hHeld
  refine wpAnyH_take (i := 0) (v := ?_) rfl (by kernel_rfl) (by kernel_rfl) (by kernel_rfl) (fun _ _ _ h => h) (Or.inl ⟨by rfl, ?_⟩) HH.out ?_
  rotate_left
  · intro w hSw; go_simp; try with_reducible rfl
  change wpAnyH _ _ _ _ _ _ _ (Act.put _ (some 11) _) _
  simp only [Act.put, List.setIfInBounds_toArray, List.set_cons_zero, List.set_cons_succ]
  refine wpAnyH_take (i := 1) (v := ?_) rfl (by kernel_rfl) (by kernel_rfl) (by kernel_rfl) (fun _ _ _ h => h) (Or.inl ⟨by rfl, ?_⟩) HH.out ?_
  rotate_left
  · intro w hSw; go_simp; try with_reducible rfl
  change wpAnyH _ _ _ _ _ _ _ (Act.put _ (some 12) _) _
  simp only [Act.put, List.setIfInBounds_toArray, List.set_cons_zero, List.set_cons_succ]
  refine wpAnyH_take (i := 2) (v := ?_) rfl (by kernel_rfl) (by kernel_rfl) (by kernel_rfl) (fun _ _ _ h => h) (Or.inl ⟨by rfl, ?_⟩) HH.out ?_
  rotate_left
  · intro w hSw; go_simp; try with_reducible rfl
  change wpAnyH _ _ _ _ _ _ _ (Act.put _ (some 13) _) _
  simp only [Act.put, List.setIfInBounds_toArray, List.set_cons_zero, List.set_cons_succ]
  refine wpAnyH_take (i := 3) (v := ?_) rfl (by kernel_rfl) (by kernel_rfl) (by kernel_rfl) (fun _ _ _ h => h) (Or.inl ⟨by rfl, ?_⟩) HH.out ?_
  rotate_left
  · intro w hSw; go_simp; try with_reducible rfl
  change wpAnyH _ _ _ _ _ _ _ (Act.put _ (some 14) _) _
  simp only [Act.put, List.setIfInBounds_toArray, List.set_cons_zero, List.set_cons_succ]
  refine wpAnyH_take (i := 4) rfl (by kernel_rfl) (by kernel_rfl) (by kernel_rfl) (fun _ _ _ h => h) (yields_A (by rfl) rfl rfl (fun w hSw => b1.ext (hW0.trans hSw)) hT.from_ hfl (by decide)) HH.out ?_
  change wpAnyH _ _ _ _ _ _ _ (Act.put _ (some 15) _) _
  simp only [Act.put, List.setIfInBounds_toArray, List.set_cons_zero, List.set_cons_succ]
  refine wpAnyH_ready (rs := [5, 6]) (by kernel_rfl) (by simp) ?_
  refine (AllReadyH.cons rfl (fun K hK => ?_) (AllReadyH.cons rfl (fun K hK => ?_) AllReadyH.nil))
  go_simp
  go_at_call 53; refine (iAcc (h.bY.ext (by (repeat (first | with_reducible exact Ext.refl _ | with_reducible assumption | refine Ext.trans ?_ (by with_reducible assumption) | refine Ext.alloc ?_ _ _ | refine Ext.drew ?_ | refine Ext.drewN ?_ _)))) (AccL.ext h.wc.accts (by (repeat (first | with_reducible exact Ext.refl _ | with_reducible assumption | refine Ext.trans ?_ (by with_reducible assumption) | refine Ext.alloc ?_ _ _ | refine Ext.drew ?_ | refine Ext.drewN ?_ _)))) h.lim.accts t.from_ hfl).mono ?_; rintro e w6 ⟨u1, u2, u3, u4, rfl, hp, ⟨f1, f2, f3, f4, f5, f6⟩, he⟩
  refine hK.out _ _ ?_ (fun hHeld => ?_)
  · first | exact HH.out.trans hmY | exact HH.out.trans he | exact HH.out
  clear hK K HH
  have HH : Hid (Ext W0 _) := hHeld
  clear hHeld
  refine wpAnyH_ready (rs := [6]) (by kernel_rfl) (by simp) ?_
  refine AllReadyH.cons rfl (fun K hK => ?_) AllReadyH.nil
  refine step_any rfl (op_alloc rfl hz81 hz82 ?_)
  rintro BA W7 e7 b7 g7
  refine hK.out _ _ ?_ (fun hHeld => ?_)
  · exact HH.out.trans e7
  clear hK K HH
  have HH : Hid (Ext W0 _) := hHeld
  clear hHeld
  change wpAnyH _ _ _ _ _ _ _ (Act.put _ (some 5) _) _
  simp only [Act.put, List.setIfInBounds_toArray, List.set_cons_zero, List.set_cons_succ]
  refine wpAnyH_ready (rs := [7]) (by kernel_rfl) (by simp) ?_
  refine AllReadyH.cons rfl (fun K hK => ?_) AllReadyH.nil
  refine step_any rfl (op_storeRow rfl rt108m rfl rfl (acR_size hfl _ _ _ _) (acR_one hp.nonce.one hp.bal.one hp.code.one hp.slots.one) (b7.ext (by (repeat (first | with_reducible exact Ext.refl _ | with_reducible assumption | refine Ext.trans ?_ (by with_reducible assumption) | refine Ext.alloc ?_ _ _ | refine Ext.drew ?_ | refine Ext.drewN ?_ _)))) (by decide) ?_)
  rintro W8 b8 m8
  refine hK.out _ _ ?_ (fun hHeld => ?_)
  · exact Ext.trans_mod HH.out m8 (fun q hq => by have hq2 : q = BA := hq; rw [hq2]; exact Nat.le_trans (Ext.size (by (repeat (first | with_reducible exact Ext.refl _ | with_reducible assumption | refine Ext.trans ?_ (by with_reducible assumption) | refine Ext.alloc ?_ _ _ | refine Ext.drew ?_ | refine Ext.drewN ?_ _)))) g7)
  clear hK K HH
  have HH : Hid (Ext W0 _) := hHeld
  clear hHeld
  change wpAnyH _ _ _ _ _ _ _ (Act.put _ none _) _
  simp only [Act.put, List.setIfInBounds_toArray, List.set_cons_zero, List.set_cons_succ]
  refine wpAnyH_done (by kernel_rfl) ?_ _
  (have hpX : AcP (Wd O BA) W8 (W.acct t.from_) u1 u2 u3 u4 := (by first | exact (AcP.ext (O := Wd O BA) hp (by (repeat (first | with_reducible exact Ext.refl _ | with_reducible assumption | refine Ext.trans ?_ (by with_reducible assumption) | refine Ext.alloc ?_ _ _ | refine Ext.drew ?_ | refine Ext.drewN ?_ _)))).keep m8 (fun b hb q => hb (Or.inr q)) | exact ((hp.widen (Nat.le_trans (Ext.size (by (repeat (first | with_reducible exact Ext.refl _ | with_reducible assumption | refine Ext.trans ?_ (by with_reducible assumption) | refine Ext.alloc ?_ _ _ | refine Ext.drew ?_ | refine Ext.drewN ?_ _)))) g7)).ext (by (repeat (first | with_reducible exact Ext.refl _ | with_reducible assumption | refine Ext.trans ?_ (by with_reducible assumption) | refine Ext.alloc ?_ _ _ | refine Ext.drew ?_ | refine Ext.drewN ?_ _)))).keep m8 (fun b hb q => hb (Or.inr q))); exact key BA W8 u1 u2 u3 u4 ⟨HH.out, Nat.le_trans (Ext.size (by (repeat (first | with_reducible exact Ext.refl _ | with_reducible assumption | refine Ext.trans ?_ (by with_reducible assumption) | refine Ext.alloc ?_ _ _ | refine Ext.drew ?_ | refine Ext.drewN ?_ _)))) g7, b8, hpX.nonce.narrow, hpX.bal.narrow, hpX.code.narrow⟩)
  refine step_any rfl (op_alloc rfl hz81 hz82 ?_)
  rintro BA W7 e7 b7 g7
  refine hK.out _ _ ?_ (fun hHeld => ?_)
  · exact HH.out.trans e7
  clear hK K HH
  have HH : Hid (Ext W0 _) := hHeld
  clear hHeld
  change wpAnyH _ _ _ _ _ _ _ (Act.put _ (some 5) _) _
  simp only [Act.put, List.setIfInBounds_toArray, List.set_cons_zero, List.set_cons_succ]
  refine wpAnyH_ready (rs := [5]) (by kernel_rfl) (by simp) ?_
  refine AllReadyH.cons rfl (fun K hK => ?_) AllReadyH.nil
  go_simp
  go_at_call 53; refine (iAcc (h.bY.ext (by (repeat (first | with_reducible exact Ext.refl _ | with_reducible assumption | refine Ext.trans ?_ (by with_reducible assumption) | refine Ext.alloc ?_ _ _ | refine Ext.drew ?_ | refine Ext.drewN ?_ _)))) (AccL.ext (AccL.widenI (B := BA) h.wc.accts (Nat.le_trans (Ext.size (show Ext w _ by (repeat (first | with_reducible exact Ext.refl _ | with_reducible assumption | refine Ext.trans ?_ (by with_reducible assumption) | refine Ext.alloc ?_ _ _ | refine Ext.drew ?_ | refine Ext.drewN ?_ _)))) g7)) (by (repeat (first | with_reducible exact Ext.refl _ | with_reducible assumption | refine Ext.trans ?_ (by with_reducible assumption) | refine Ext.alloc ?_ _ _ | refine Ext.drew ?_ | refine Ext.drewN ?_ _)))) h.lim.accts t.from_ hfl).mono ?_; rintro e w6 ⟨u1, u2, u3, u4, rfl, hp, ⟨f1, f2, f3, f4, f5, f6⟩, he⟩
  refine hK.out _ _ ?_ (fun hHeld => ?_)
  · first | exact HH.out.trans hmY | exact HH.out.trans he | exact HH.out
  clear hK K HH
  have HH : Hid (Ext W0 _) := hHeld
  clear hHeld
  refine wpAnyH_ready (rs := [7]) (by kernel_rfl) (by simp) ?_
  refine AllReadyH.cons rfl (fun K hK => ?_) AllReadyH.nil
  refine step_any rfl (op_storeRow rfl rt108m rfl rfl (acR_size hfl _ _ _ _) (acR_one hp.nonce.one hp.bal.one hp.code.one hp.slots.one) (b7.ext (by (repeat (first | with_reducible exact Ext.refl _ | with_reducible assumption | refine Ext.trans ?_ (by with_reducible assumption) | refine Ext.alloc ?_ _ _ | refine Ext.drew ?_ | refine Ext.drewN ?_ _)))) (by decide) ?_)
  rintro W8 b8 m8
  refine hK.out _ _ ?_ (fun hHeld => ?_)
  · exact Ext.trans_mod HH.out m8 (fun q hq => by have hq2 : q = BA := hq; rw [hq2]; exact Nat.le_trans (Ext.size (by (repeat (first | with_reducible exact Ext.refl _ | with_reducible assumption | refine Ext.trans ?_ (by with_reducible assumption) | refine Ext.alloc ?_ _ _ | refine Ext.drew ?_ | refine Ext.drewN ?_ _)))) g7)
  clear hK K HH
  have HH : Hid (Ext W0 _) := hHeld
  clear hHeld
  change wpAnyH _ _ _ _ _ _ _ (Act.put _ none _) _
  simp only [Act.put, List.setIfInBounds_toArray, List.set_cons_zero, List.set_cons_succ]
  refine wpAnyH_done (by kernel_rfl) ?_ _
  (have hpX : AcP (Wd O BA) W8 (W.acct t.from_) u1 u2 u3 u4 := (by first | exact (AcP.ext (O := Wd O BA) hp (by (repeat (first | with_reducible exact Ext.refl _ | with_reducible assumption | refine Ext.trans ?_ (by with_reducible assumption) | refine Ext.alloc ?_ _ _ | refine Ext.drew ?_ | refine Ext.drewN ?_ _)))).keep m8 (fun b hb q => hb (Or.inr q)) | exact ((hp.widen (Nat.le_trans (Ext.size (by (repeat (first | with_reducible exact Ext.refl _ | with_reducible assumption | refine Ext.trans ?_ (by with_reducible assumption) | refine Ext.alloc ?_ _ _ | refine Ext.drew ?_ | refine Ext.drewN ?_ _)))) g7)).ext (by (repeat (first | with_reducible exact Ext.refl _ | with_reducible assumption | refine Ext.trans ?_ (by with_reducible assumption) | refine Ext.alloc ?_ _ _ | refine Ext.drew ?_ | refine Ext.drewN ?_ _)))).keep m8 (fun b hb q => hb (Or.inr q))); exact key BA W8 u1 u2 u3 u4 ⟨HH.out, Nat.le_trans (Ext.size (by (repeat (first | with_reducible exact Ext.refl _ | with_reducible assumption | refine Ext.trans ?_ (by with_reducible assumption) | refine Ext.alloc ?_ _ _ | refine Ext.drew ?_ | refine Ext.drewN ?_ _)))) g7, b8, hpX.nonce.narrow, hpX.bal.narrow, hpX.code.narrow⟩)
  rintro BA W2 u1 u2 u3 u4 ⟨hE2, gA, bA, n1, n2, n3⟩
  have eA : Ext W1 W2 := hW0.trans hE2
  have cA20 : layv (cf z8) 0 (acR t.from_ u1 u2 u3 u4) 20 = u1 := by
    have := layv_in (cf z8) 0 (acR t.from_ u1 u2 u3 u4) (j := 20) (by rw [acR_size hfl]; decide)
    rw [Nat.zero_add] at this
    rw [this]; exact acR_n hfl u1 u2 u3 u4
  have cA21 : layv (cf z8) 0 (acR t.from_ u1 u2 u3 u4) 21 = u2 := by
    have := layv_in (cf z8) 0 (acR t.from_ u1 u2 u3 u4) (j := 21) (by rw [acR_size hfl]; decide)
    rw [Nat.zero_add] at this
    rw [this]; exact acR_b hfl u1 u2 u3 u4
  have cA22 : layv (cf z8) 0 (acR t.from_ u1 u2 u3 u4) 22 = u3 := by
    have := layv_in (cf z8) 0 (acR t.from_ u1 u2 u3 u4) (j := 22) (by rw [acR_size hfl]; decide)
    rw [Nat.zero_add] at this
    rw [this]; exact acR_c hfl u1 u2 u3 u4
  obtain ⟨cA, hcA⟩ : ∃ x, Hid (layv (cf z8) 0 (acR t.from_ u1 u2 u3 u4) = x) := ⟨_, rfl⟩
  rw [hcA.out] at bA cA20 cA21 cA22
  have bT := b1.ext eA
  have eW2 : Ext w W2 := e1.trans eA
  obtain ⟨o3, c3, hu3, hk1, hk2, hk3⟩ := n3
  obtain ⟨gas, hgas⟩ : ∃ x, Hid (t.gas = x) := ⟨_, rfl⟩
  have hgl := hT.gLt
  have hval := hT.value
  have hvl := hT.vLt
  rw [hgas.out] at hcg hgl
  clear hE2 gA b1 g1 hW0 hcA hz81 hz82 e1
  go_upto_region 3 with (first | ((with_reducible (refine Veil.out ?_; apply wl_loadC onet26v)); (case hw => rfl); (case hx => rfl); (case hc => exact ((bT.ext (by (repeat (first | with_reducible exact Ext.refl _ | with_reducible assumption | refine Ext.trans ?_ (by with_reducible assumption) | refine Ext.alloc ?_ _ _ | refine Ext.drew ?_ | refine Ext.drewN ?_ _)))).cell (i := 42) (by decide)).trans (congrArg some hcg))) | (go_at_call 42; refine (nNum O gas _ (h.small.ext (eW2.trans (by (repeat (first | with_reducible exact Ext.refl _ | with_reducible assumption | refine Ext.trans ?_ (by with_reducible assumption) | refine Ext.alloc ?_ _ _ | refine Ext.drew ?_ | refine Ext.drewN ?_ _))))) hgl).mono ?_; rintro e w3 ⟨rg, rfl, hrg, he3⟩))
  have bT3 := bT.ext he3
  have eW3 := eW2.trans he3
  obtain ⟨most, hmost⟩ : ∃ x, Hid (t.most = x) := ⟨_, rfl⟩
  obtain ⟨tip, htip⟩ : ∃ x, Hid (t.tipF = x) := ⟨_, rfl⟩
  have HF3 := HF w3 eW3 BT bT3
  rw [hmost.out, htip.out] at HF3
  rw [hmost.out] at hml
  rw [htip.out] at htl
  go_upto_region 4 with (first
    | (go_at_call 129; refine HF3.mono ?_; rintro e w4 ⟨rfl, e4⟩)
    | ((with_reducible (refine Veil.out ?_; apply wl_allocBB)); rintro B4 W4 c4 e5 b4 _ g4; (with_reducible (refine Veil.out ?_; apply wl_allocBB)); rintro B5 W5 c5 e6 b5 _ g5)
    | ((with_reducible (refine Veil.out ?_; apply wl_storeBB (v := most))); (case hx => rfl); (case hy => rfl); (case hv => exact hml); (case hB => exact b4.ext e6); (case hi => decide); rintro W6 c6 b6 a6 _ m6)
    | ((with_reducible (refine Veil.out ?_; apply wl_storeBB (v := tip))); (case hx => rfl); (case hy => rfl); (case hv => exact htl); (case hB => exact b5.mod m6 (fun q => by have q2 : B5 = B4 := q; have := b4.lt; omega)); (case hi => decide); rintro W7 c7 b7 a7 _ m7))
  have n54 : ¬ B4 = B5 := fun q => by have := b4.lt; omega
  have eX : Ext w4 W7 := Ext.trans_mod (Ext.trans_mod (e5.trans e6) m6 (fun q hq => by have hq2 : q = B4 := hq; rw [hq2]; exact g4)) m7 (fun q hq => by have hq2 : q = B5 := hq; rw [hq2]; exact Nat.le_trans e5.size g5)
  have e27 : Ext W2 W7 := (he3.trans e4).trans eX
  have eY : Ext w W7 := eW2.trans e27
  have b6' := b6.mod m7 n54
  have hO7 := h.small.ext eY
  have HM := fun W (hW : Ext W7 W) => nFromB (hO7.ext hW) (b6'.ext hW) a6 hml (by decide)
  have HTp := fun W (hW : Ext W7 W) => nFromB (hO7.ext hW) (b7.ext hW) a7 htl (by decide)
  have bT7 := bT.ext e27
  have bA7 := bA.ext e27
  have n17 := n1.ext e27
  have n27 := n2.ext e27
  have rg7 := hrg.ext (e4.trans eX)
  have hbY7 := h.bY.ext eY
  have HVa := fun W (hW : Ext W7 W) => nFromB (hO7.ext hW) (bT7.ext hW) hval hvl (by decide)
  have HBF7 := fun W (hW : Ext W7 W) => HBF W (eY.trans hW)
  have HL7 := fun W (hW : Ext W7 W) => HL W (eY.trans hW) BT (bT7.ext hW)
  have HIn7 := fun q1 q2 W (hW : Ext W7 W) => HIn q1 q2 W (eY.trans hW)
  clear HF HL HIn HBF HF3 b4 b5 b6 b7 b6' m6 m7 e4 e5 e6 eX hrg bT bA n1 n2 he3 bT3 eW3 a6 a7
  go_upto_region 5 with (go_at_call 43; refine (HM _ (by (repeat (first | with_reducible exact Ext.refl _ | with_reducible assumption | refine Ext.trans ?_ (by with_reducible assumption) | refine Ext.alloc ?_ _ _ | refine Ext.drew ?_ | refine Ext.drewN ?_ _)))).mono ?_; rintro x w8 ⟨rm, rfl, hrm, he8⟩)
  have hdm : dl most ≤ 2000 := Nat.le_trans ((dl_le_iff most 32).2 (by rw [P256_eq] at hml; exact hml)) (by decide)
  have hdg : dl gas ≤ 2000 := Nat.le_trans (dl_u64 _ hgl) (by decide)
  have hdv : dl t.value ≤ 2000 := Nat.le_trans ((dl_le_iff t.value 32).2 (by rw [P256_eq] at hvl; exact hvl)) (by decide)
  have hdm2 : dl (gas * most) ≤ 2000 := Nat.le_trans ((dl_le_iff _ 40).2 (by rw [P256_eq] at hml; exact Nat.lt_of_lt_of_le (Nat.mul_lt_mul'' hgl hml) (by decide))) (by decide)
  refine w_ext ?_
  rintro W0 hW0
  refine wp_region_held_drew (S := fun w' => Ext W0 w') (by kernel_rfl) (Ext.refl _).drew (fun hHeld => ?_)
  have HH : Hid (Ext W0 _) := hHeld
  clear hHeld
  refine wpAnyH_take (i := 0) (v := ?_) rfl (by kernel_rfl) (by kernel_rfl) (by kernel_rfl) (fun _ _ _ h => h) (Or.inl ⟨by rfl, ?_⟩) HH.out ?_
  rotate_left
  · intro w hSw; go_simp; try with_reducible rfl
  change wpAnyH _ _ _ _ _ _ _ (Act.put _ (some 26) _) _
  simp only [Act.put, List.setIfInBounds_toArray, List.set_cons_zero, List.set_cons_succ]
  refine wpAnyH_take (i := 1) (v := ?_) rfl (by kernel_rfl) (by kernel_rfl) (by kernel_rfl) (fun _ _ _ h => h) (Or.inl ⟨by rfl, ?_⟩) HH.out ?_
  rotate_left
  · intro w hSw; go_simp; try with_reducible rfl
  change wpAnyH _ _ _ _ _ _ _ (Act.put _ (some 27) _) _
  simp only [Act.put, List.setIfInBounds_toArray, List.set_cons_zero, List.set_cons_succ]
  refine wpAnyH_take (i := 3) (v := ?_) rfl (by kernel_rfl) (by kernel_rfl) (by kernel_rfl) (fun _ _ _ h => h) (Or.inl ⟨by rfl, ?_⟩) HH.out ?_
  rotate_left
  · intro w hSw; go_simp; try with_reducible rfl
  change wpAnyH _ _ _ _ _ _ _ (Act.put _ (some 29) _) _
  simp only [Act.put, List.setIfInBounds_toArray, List.set_cons_zero, List.set_cons_succ]
  refine wpAnyH_take (i := 4) (v := ?_) rfl (by kernel_rfl) (by kernel_rfl) (by kernel_rfl) (fun _ _ _ h => h) (Or.inl ⟨by rfl, ?_⟩) HH.out ?_
  rotate_left
  · intro w hSw; go_simp; try with_reducible rfl
  change wpAnyH _ _ _ _ _ _ _ (Act.put _ (some 30) _) _
  simp only [Act.put, List.setIfInBounds_toArray, List.set_cons_zero, List.set_cons_succ]
  refine wpAnyH_ready (rs := [2]) (by kernel_rfl) (by simp) ?_
  refine AllReadyH.cons rfl (fun K hK => ?_) AllReadyH.nil
  go_simp
  go_at_call 60; refine (nMul O _ _ gas most _ (hO7.ext (by (repeat (first | with_reducible exact Ext.refl _ | with_reducible assumption | refine Ext.trans ?_ (by with_reducible assumption) | refine Ext.alloc ?_ _ _ | refine Ext.drew ?_ | refine Ext.drewN ?_ _)))) (rg7.ext (by (repeat (first | with_reducible exact Ext.refl _ | with_reducible assumption | refine Ext.trans ?_ (by with_reducible assumption) | refine Ext.alloc ?_ _ _ | refine Ext.drew ?_ | refine Ext.drewN ?_ _)))) (hrm.ext (by (repeat (first | with_reducible exact Ext.refl _ | with_reducible assumption | refine Ext.trans ?_ (by with_reducible assumption) | refine Ext.alloc ?_ _ _ | refine Ext.drew ?_ | refine Ext.drewN ?_ _)))) hdg hdm).mono ?_; rintro e w9 ⟨rp, rfl, hrp, he⟩
  refine hK.out _ _ ?_ (fun hHeld => ?_)
  · first | exact HH.out.trans hmY | exact HH.out.trans he | exact HH.out
  clear hK K HH
  have HH : Hid (Ext W0 _) := hHeld
  clear hHeld
  refine wpAnyH_ready (rs := [5]) (by kernel_rfl) (by simp) ?_
  refine AllReadyH.cons rfl (fun K hK => ?_) AllReadyH.nil
  go_simp
  go_at_call 43; refine (HVa _ (by (repeat (first | with_reducible exact Ext.refl _ | with_reducible assumption | refine Ext.trans ?_ (by with_reducible assumption) | refine Ext.alloc ?_ _ _ | refine Ext.drew ?_ | refine Ext.drewN ?_ _)))).mono ?_; rintro x w10 ⟨rq, rfl, hrq, he⟩
  refine hK.out _ _ ?_ (fun hHeld => ?_)
  · first | exact HH.out.trans hmY | exact HH.out.trans he | exact HH.out
  clear hK K HH
  have HH : Hid (Ext W0 _) := hHeld
  clear hHeld
  refine wpAnyH_ready (rs := [6]) (by kernel_rfl) (by simp) ?_
  refine AllReadyH.cons rfl (fun K hK => ?_) AllReadyH.nil
  go_simp
  go_at_call 44; refine (nAdd O _ _ _ _ _ (hO7.ext (by (repeat (first | with_reducible exact Ext.refl _ | with_reducible assumption | refine Ext.trans ?_ (by with_reducible assumption) | refine Ext.alloc ?_ _ _ | refine Ext.drew ?_ | refine Ext.drewN ?_ _)))) (hrp.ext (by (repeat (first | with_reducible exact Ext.refl _ | with_reducible assumption | refine Ext.trans ?_ (by with_reducible assumption) | refine Ext.alloc ?_ _ _ | refine Ext.drew ?_ | refine Ext.drewN ?_ _)))) (hrq.ext (by (repeat (first | with_reducible exact Ext.refl _ | with_reducible assumption | refine Ext.trans ?_ (by with_reducible assumption) | refine Ext.alloc ?_ _ _ | refine Ext.drew ?_ | refine Ext.drewN ?_ _)))) hdm2 hdv).mono ?_; rintro e w11 ⟨rn, rfl, hrn, he⟩
  refine hK.out _ _ ?_ (fun hHeld => ?_)
  · first | exact HH.out.trans hmY | exact HH.out.trans he | exact HH.out
  clear hK K HH
  have HH : Hid (Ext W0 _) := hHeld
  clear hHeld
  refine wpAnyH_take (i := 7) (v := ?_) rfl (by kernel_rfl) (by kernel_rfl) (by kernel_rfl) (fun _ _ _ h => h) (Or.inl ⟨by rfl, ?_⟩) HH.out ?_
  rotate_left
  · intro w hSw; go_simp; try with_reducible rfl
  change wpAnyH _ _ _ _ _ _ _ (Act.put _ (some 10) _) _
  simp only [Act.put, List.setIfInBounds_toArray, List.set_cons_zero, List.set_cons_succ]
  refine wpAnyH_done (by kernel_rfl) ?_ _
  have e11 : Ext W7 w11 := (he8.trans hW0).trans HH.out
  have eF := eY.trans e11
  have bT8 := bT7.ext e11
  have bA8 := bA7.ext e11
  have n18 := n17.ext e11
  have n28 := n27.ext e11
  have rg8 := rg7.ext e11
  have rm8 := hrm.ext (hW0.trans HH.out)
  have hO8 := hO7.ext e11
  have hbY8 := hbY7.ext e11
  have HTp8 := fun W (hW : Ext w11 W) => HTp W (e11.trans hW)
  have HBF8 := fun W (hW : Ext w11 W) => HBF7 W (e11.trans hW)
  have HL8 := fun W (hW : Ext w11 W) => HL7 W (e11.trans hW)
  have HIn8 := fun q1 q2 W (hW : Ext w11 W) => HIn7 q1 q2 W (e11.trans hW)
  clear HTp HBF7 HL7 HIn7 HM HVa bT7 bA7 n17 n27 rg7 hrm hO7 hbY7 he8 hW0 HH e11 hrp hrq eY e27
  rw [hgas.out, hmost.out, htip.out] at hV
  have hap2 : ¬ (4 : Int) ≤ (st.applied : Int) := by omega
  obtain ⟨need, hneed⟩ : ∃ x, Hid (gas * most + t.value = x) := ⟨_, rfl⟩
  rw [hneed.out] at hV hrn
  obtain ⟨dlen, hdl⟩ : ∃ x, Hid (t.data.length = x) := ⟨_, rfl⟩
  rw [hdl.out] at hV hdd hd1 HIn8
  obtain ⟨lk, hlk⟩ : ∃ x, Hid (t.listOK = x) := ⟨_, rfl⟩
  rw [hlk.out] at hV HL8 HIn8
  obtain ⟨nc, hnc⟩ : ∃ x, Hid ((W.acct t.from_).nonce = x) := ⟨_, rfl⟩
  rw [hnc.out] at hV n18 hel
  obtain ⟨bl, hbl⟩ : ∃ x, Hid ((W.acct t.from_).bal = x) := ⟨_, rfl⟩
  rw [hbl.out] at hV n28
  obtain ⟨cl, hcl⟩ : ∃ x, Hid ((W.acct t.from_).code.length = x) := ⟨_, rfl⟩
  have hce : (W.acct t.from_).code ≠ [] ↔ cl ≠ 0 := by rw [← hcl.out]; simp
  rw [hcl.out] at hu3
  simp only [hce] at hV
  obtain ⟨cr, hcr⟩ : ∃ x, Hid (t.create = x) := ⟨_, rfl⟩
  rw [hcr.out] at hV hcc
  obtain ⟨inn, hin⟩ : ∃ x, Hid (t.intrinsic = x) := ⟨_, rfl⟩
  rw [hin.out] at hV HIn8
  obtain ⟨gl, hgl9⟩ : ∃ x, Hid (st.env.gasLimit = x) := ⟨_, rfl⟩
  obtain ⟨bf, hbf⟩ : ∃ x, Hid (st.env.baseFee = x) := ⟨_, rfl⟩
  have hcgl : c 81 = .int .u64 (st.env.gasLimit : Nat) := h.env.gasLimit
  have hgll : st.env.gasLimit < 18446744073709551616 := h.env.gLt
  rw [hgl9.out] at hV hcgl hgll
  rw [hbf.out] at hV HBF8
  obtain ⟨nt, hnt⟩ : ∃ x, Hid (t.nonce = x) := ⟨_, rfl⟩
  have hntl := hT.nLt
  rw [hnt.out] at hV hci hntl
  clear hk1 hk2 hk3 hce hT hdm hdg hdv hdm2 hval hvl
  go_upto_region 6 with (fail)
  go_upto_region 8 with ((with_reducible (refine Veil.out ?_; apply wl_loadC onet5m)); (case hw => rfl); (case hx => rfl); (case hc => exact ((hbY8.ext (by (repeat (first | with_reducible exact Ext.refl _ | with_reducible assumption | refine Ext.trans ?_ (by with_reducible assumption) | refine Ext.alloc ?_ _ _ | refine Ext.drew ?_ | refine Ext.drewN ?_ _)))).cell (i := 11) (by decide)).trans (congrArg some hpz)))
  go_upto_region 10 with ((with_reducible (refine Veil.out ?_; apply wl_loadC onet5m)); (case hw => rfl); (case hx => rfl); (case hc => exact ((hbY8.ext (by (repeat (first | with_reducible exact Ext.refl _ | with_reducible assumption | refine Ext.trans ?_ (by with_reducible assumption) | refine Ext.alloc ?_ _ _ | refine Ext.drew ?_ | refine Ext.drewN ?_ _)))).cell (i := 13) (by decide)).trans (congrArg some hap)))
  rcases Nat.lt_or_ge 1048576 gas with k3 | k3
  · have z3 : 0 < cmpI gas 1048576 := (cmpI_p _ _).2 k3
    go_wp2_with (first | (go_at_call 42; refine (nNum O 1048576 _ (hO8.ext (by (repeat (first | with_reducible exact Ext.refl _ | with_reducible assumption | refine Ext.trans ?_ (by with_reducible assumption) | refine Ext.alloc ?_ _ _ | refine Ext.drew ?_ | refine Ext.drewN ?_ _)))) (by decide)).mono ?_; rintro e w12 ⟨ra, rfl, hra, hea⟩) | (go_at_call 130; refine (nCmp O _ _ (gas) (1048576) _ (rg8.ext (by (repeat (first | with_reducible exact Ext.refl _ | with_reducible assumption | refine Ext.trans ?_ (by with_reducible assumption) | refine Ext.alloc ?_ _ _ | refine Ext.drew ?_ | refine Ext.drewN ?_ _)))) (hra.ext (by (repeat (first | with_reducible exact Ext.refl _ | with_reducible assumption | refine Ext.trans ?_ (by with_reducible assumption) | refine Ext.alloc ?_ _ _ | refine Ext.drew ?_ | refine Ext.drewN ?_ _))))).mono ?_; rintro e w13 ⟨rfl, hdr⟩; have he13 := drew_ext hdr; clear hdr) | ((with_reducible (refine Veil.out ?_; apply wl_loadC onet32m)); (case hw => rfl); (case hx => rfl); (case hc => exact ((bT8.ext (by (repeat (first | with_reducible exact Ext.refl _ | with_reducible assumption | refine Ext.trans ?_ (by with_reducible assumption) | refine Ext.alloc ?_ _ _ | refine Ext.drew ?_ | refine Ext.drewN ?_ _)))).cell (i := 107) (by decide)).trans (congrArg some hdd))) | (go_at_call 131; refine (HL8 _ (by (repeat (first | with_reducible exact Ext.refl _ | with_reducible assumption | refine Ext.trans ?_ (by with_reducible assumption) | refine Ext.alloc ?_ _ _ | refine Ext.drew ?_ | refine Ext.drewN ?_ _)))).mono ?_; rintro e w14 ⟨rfl, he14⟩))
    have hv : st.verdict t = 3 := by rw [hV.out]; exact if_pos (Or.inl k3)
    exact post_u8v (v := .int .u8 (3 : Nat)) rfl rfl ⟨by rw [hv], eF.trans (by (repeat (first | with_reducible exact Ext.refl _ | with_reducible assumption | refine Ext.trans ?_ (by with_reducible assumption) | refine Ext.alloc ?_ _ _ | refine Ext.drew ?_ | refine Ext.drewN ?_ _)))⟩
  have z3 : ¬ 0 < cmpI gas 1048576 := fun q => by have := (cmpI_p _ _).1 q; omega
  have z3b : cmpI gas 1048576 ≤ 0 := by omega
  have z3c : decide (0 < cmpI gas 1048576) = false := decide_eq_false z3
  rcases Nat.lt_or_ge 1024 dlen with k4 | k4
  · have z4 : (1024 : Int) < (dlen : Int) := by omega
    go_wp2_with (first | (go_at_call 42; refine (nNum O 1048576 _ (hO8.ext (by (repeat (first | with_reducible exact Ext.refl _ | with_reducible assumption | refine Ext.trans ?_ (by with_reducible assumption) | refine Ext.alloc ?_ _ _ | refine Ext.drew ?_ | refine Ext.drewN ?_ _)))) (by decide)).mono ?_; rintro e w12 ⟨ra, rfl, hra, hea⟩) | (go_at_call 130; refine (nCmp O _ _ (gas) (1048576) _ (rg8.ext (by (repeat (first | with_reducible exact Ext.refl _ | with_reducible assumption | refine Ext.trans ?_ (by with_reducible assumption) | refine Ext.alloc ?_ _ _ | refine Ext.drew ?_ | refine Ext.drewN ?_ _)))) (hra.ext (by (repeat (first | with_reducible exact Ext.refl _ | with_reducible assumption | refine Ext.trans ?_ (by with_reducible assumption) | refine Ext.alloc ?_ _ _ | refine Ext.drew ?_ | refine Ext.drewN ?_ _))))).mono ?_; rintro e w13 ⟨rfl, hdr⟩; have he13 := drew_ext hdr; clear hdr) | ((with_reducible (refine Veil.out ?_; apply wl_loadC onet32m)); (case hw => rfl); (case hx => rfl); (case hc => exact ((bT8.ext (by (repeat (first | with_reducible exact Ext.refl _ | with_reducible assumption | refine Ext.trans ?_ (by with_reducible assumption) | refine Ext.alloc ?_ _ _ | refine Ext.drew ?_ | refine Ext.drewN ?_ _)))).cell (i := 107) (by decide)).trans (congrArg some hdd))) | (go_at_call 131; refine (HL8 _ (by (repeat (first | with_reducible exact Ext.refl _ | with_reducible assumption | refine Ext.trans ?_ (by with_reducible assumption) | refine Ext.alloc ?_ _ _ | refine Ext.drew ?_ | refine Ext.drewN ?_ _)))).mono ?_; rintro e w14 ⟨rfl, he14⟩))
    have hv : st.verdict t = 3 := by rw [hV.out]; exact if_pos (Or.inr (Or.inl k4))
    exact post_u8v (v := .int .u8 (3 : Nat)) rfl rfl ⟨by rw [hv], eF.trans (by (repeat (first | with_reducible exact Ext.refl _ | with_reducible assumption | refine Ext.trans ?_ (by with_reducible assumption) | refine Ext.alloc ?_ _ _ | refine Ext.drew ?_ | refine Ext.drewN ?_ _)))⟩
  have z4 : ¬ (1024 : Int) < (dlen : Int) := by omega
  have z4c : decide ((1024 : Int) < (dlen : Int)) = false := decide_eq_false z4
  cases lk with
  | false =>
    go_wp2_with (first | (go_at_call 42; refine (nNum O 1048576 _ (hO8.ext (by (repeat (first | with_reducible exact Ext.refl _ | with_reducible assumption | refine Ext.trans ?_ (by with_reducible assumption) | refine Ext.alloc ?_ _ _ | refine Ext.drew ?_ | refine Ext.drewN ?_ _)))) (by decide)).mono ?_; rintro e w12 ⟨ra, rfl, hra, hea⟩) | (go_at_call 130; refine (nCmp O _ _ (gas) (1048576) _ (rg8.ext (by (repeat (first | with_reducible exact Ext.refl _ | with_reducible assumption | refine Ext.trans ?_ (by with_reducible assumption) | refine Ext.alloc ?_ _ _ | refine Ext.drew ?_ | refine Ext.drewN ?_ _)))) (hra.ext (by (repeat (first | with_reducible exact Ext.refl _ | with_reducible assumption | refine Ext.trans ?_ (by with_reducible assumption) | refine Ext.alloc ?_ _ _ | refine Ext.drew ?_ | refine Ext.drewN ?_ _))))).mono ?_; rintro e w13 ⟨rfl, hdr⟩; have he13 := drew_ext hdr; clear hdr) | ((with_reducible (refine Veil.out ?_; apply wl_loadC onet32m)); (case hw => rfl); (case hx => rfl); (case hc => exact ((bT8.ext (by (repeat (first | with_reducible exact Ext.refl _ | with_reducible assumption | refine Ext.trans ?_ (by with_reducible assumption) | refine Ext.alloc ?_ _ _ | refine Ext.drew ?_ | refine Ext.drewN ?_ _)))).cell (i := 107) (by decide)).trans (congrArg some hdd))) | (go_at_call 131; refine (HL8 _ (by (repeat (first | with_reducible exact Ext.refl _ | with_reducible assumption | refine Ext.trans ?_ (by with_reducible assumption) | refine Ext.alloc ?_ _ _ | refine Ext.drew ?_ | refine Ext.drewN ?_ _)))).mono ?_; rintro e w14 ⟨rfl, he14⟩))
    have hv : st.verdict t = 3 := by rw [hV.out]; exact if_pos (Or.inr (Or.inr (by simp)))
    exact post_u8v (v := .int .u8 (3 : Nat)) rfl rfl ⟨by rw [hv], eF.trans (by (repeat (first | with_reducible exact Ext.refl _ | with_reducible assumption | refine Ext.trans ?_ (by with_reducible assumption) | refine Ext.alloc ?_ _ _ | refine Ext.drew ?_ | refine Ext.drewN ?_ _)))⟩
  | true =>
  rw [if_neg (by simp; omega)] at hV
  have HIn9 := HIn8 k4 rfl
  go_upto_region 12 with (first | (go_at_call 42; refine (nNum O 1048576 _ (hO8.ext (by (repeat (first | with_reducible exact Ext.refl _ | with_reducible assumption | refine Ext.trans ?_ (by with_reducible assumption) | refine Ext.alloc ?_ _ _ | refine Ext.drew ?_ | refine Ext.drewN ?_ _)))) (by decide)).mono ?_; rintro e w12 ⟨ra, rfl, hra, hea⟩) | (go_at_call 130; refine (nCmp O _ _ (gas) (1048576) _ (rg8.ext (by (repeat (first | with_reducible exact Ext.refl _ | with_reducible assumption | refine Ext.trans ?_ (by with_reducible assumption) | refine Ext.alloc ?_ _ _ | refine Ext.drew ?_ | refine Ext.drewN ?_ _)))) (hra.ext (by (repeat (first | with_reducible exact Ext.refl _ | with_reducible assumption | refine Ext.trans ?_ (by with_reducible assumption) | refine Ext.alloc ?_ _ _ | refine Ext.drew ?_ | refine Ext.drewN ?_ _))))).mono ?_; rintro e w13 ⟨rfl, hdr⟩; have he13 := drew_ext hdr; clear hdr) | ((with_reducible (refine Veil.out ?_; apply wl_loadC onet32m)); (case hw => rfl); (case hx => rfl); (case hc => exact ((bT8.ext (by (repeat (first | with_reducible exact Ext.refl _ | with_reducible assumption | refine Ext.trans ?_ (by with_reducible assumption) | refine Ext.alloc ?_ _ _ | refine Ext.drew ?_ | refine Ext.drewN ?_ _)))).cell (i := 107) (by decide)).trans (congrArg some hdd))) | (go_at_call 131; refine (HL8 _ (by (repeat (first | with_reducible exact Ext.refl _ | with_reducible assumption | refine Ext.trans ?_ (by with_reducible assumption) | refine Ext.alloc ?_ _ _ | refine Ext.drew ?_ | refine Ext.drewN ?_ _)))).mono ?_; rintro e w14 ⟨rfl, he14⟩))
  rcases Nat.decEq nt nc with k5 | k5
  · have z5 : ¬ cmpI nt nc = 0 := fun q => k5 ((cmpI_z _ _).1 q)
    have z5c : decide (cmpI nt nc = 0) = false := decide_eq_false z5
    refine w_ext ?_
    rintro W0 hW0
    refine wp_region_held_drew (S := fun w' => Ext W0 w') (by kernel_rfl) (Ext.refl _).drew (fun hHeld => ?_)
    have HH : Hid (Ext W0 _) := hHeld
    clear hHeld
    refine wpAnyH_take (i := 0) (v := ?_) rfl (by kernel_rfl) (by kernel_rfl) (by kernel_rfl) (fun _ _ _ h => h) (Or.inl ⟨by rfl, ?_⟩) HH.out ?_
    rotate_left
    · intro w hSw; go_simp; try with_reducible rfl
    change wpAnyH _ _ _ _ _ _ _ (Act.put _ (some 61) _) _
    simp only [Act.put, List.setIfInBounds_toArray, List.set_cons_zero, List.set_cons_succ]
    refine wpAnyH_take (i := 1) rfl (by kernel_rfl) (by kernel_rfl) (by kernel_rfl) (fun _ _ _ h => h) (yieldsIf_load1 (by rfl) _ _ rfl _ _ rfl onet26v _ (fun w hSw => (((bT8.ext (Ext.trans (by (repeat (first | with_reducible exact Ext.refl _ | with_reducible assumption | refine Ext.trans ?_ (by with_reducible assumption) | refine Ext.alloc ?_ _ _ | refine Ext.drew ?_ | refine Ext.drewN ?_ _))) (hW0.trans hSw))).cell (i := 41) (by decide)).trans (congrArg some hci)))) HH.out ?_
    change wpAnyH _ _ _ _ _ _ _ (Act.put _ (some 62) _) _
    simp only [Act.put, List.setIfInBounds_toArray, List.set_cons_zero, List.set_cons_succ]
    refine wpAnyH_take (i := 3) (v := ?_) rfl (by kernel_rfl) (by kernel_rfl) (by kernel_rfl) (fun _ _ _ h => h) (Or.inl ⟨by rfl, ?_⟩) HH.out ?_
    rotate_left
    · intro w hSw; go_simp; try with_reducible rfl
    change wpAnyH _ _ _ _ _ _ _ (Act.put _ (some 64) _) _
    simp only [Act.put, List.setIfInBounds_toArray, List.set_cons_zero, List.set_cons_succ]
    refine wpAnyH_take (i := 4) rfl (by kernel_rfl) (by kernel_rfl) (by kernel_rfl) (fun _ _ _ h => h) (yieldsIf_load1 (by rfl) _ _ rfl _ _ rfl onet96m _ (fun w hSw => (((bA8.ext (Ext.trans (by (repeat (first | with_reducible exact Ext.refl _ | with_reducible assumption | refine Ext.trans ?_ (by with_reducible assumption) | refine Ext.alloc ?_ _ _ | refine Ext.drew ?_ | refine Ext.drewN ?_ _))) (hW0.trans hSw))).cell (i := 20) (by decide)).trans (congrArg some cA20)))) HH.out ?_
    change wpAnyH _ _ _ _ _ _ _ (Act.put _ (some 65) _) _
    simp only [Act.put, List.setIfInBounds_toArray, List.set_cons_zero, List.set_cons_succ]
    refine wpAnyH_ready (rs := [2]) (by kernel_rfl) (by simp) ?_
    refine AllReadyH.cons rfl (fun K hK => ?_) AllReadyH.nil
    go_simp
    go_at_call 42; refine (nNum O nt _ (hO8.ext (by (repeat (first | with_reducible exact Ext.refl _ | with_reducible assumption | refine Ext.trans ?_ (by with_reducible assumption) | refine Ext.alloc ?_ _ _ | refine Ext.drew ?_ | refine Ext.drewN ?_ _)))) (hntl)).mono ?_; rintro e w12 ⟨ra, rfl, hra, he⟩
    refine hK.out _ _ ?_ (fun hHeld => ?_)
    · first | exact HH.out.trans hmY | exact HH.out.trans he | exact HH.out
    clear hK K HH
    have HH : Hid (Ext W0 _) := hHeld
    clear hHeld
    refine wpAnyH_ready (rs := [5]) (by kernel_rfl) (by simp) ?_
    refine AllReadyH.cons rfl (fun K hK => ?_) AllReadyH.nil
    go_simp
    go_at_call 130; refine (nCmp O _ _ (nt) (nc) _ (hra.ext (by (repeat (first | with_reducible exact Ext.refl _ | with_reducible assumption | refine Ext.trans ?_ (by with_reducible assumption) | refine Ext.alloc ?_ _ _ | refine Ext.drew ?_ | refine Ext.drewN ?_ _)))) (n18.ext (by (repeat (first | with_reducible exact Ext.refl _ | with_reducible assumption | refine Ext.trans ?_ (by with_reducible assumption) | refine Ext.alloc ?_ _ _ | refine Ext.drew ?_ | refine Ext.drewN ?_ _))))).mono ?_; rintro e w13 ⟨rfl, hdr⟩; have he := drew_ext hdr; clear hdr
    refine hK.out _ _ ?_ (fun hHeld => ?_)
    · first | exact HH.out.trans hmY | exact HH.out.trans he | exact HH.out
    clear hK K HH
    have HH : Hid (Ext W0 _) := hHeld
    clear hHeld
    refine wpAnyH_take (i := 6) (v := ?_) rfl (by kernel_rfl) (by kernel_rfl) (by kernel_rfl) (fun _ _ _ h => h) (Or.inl ⟨by rfl, ?_⟩) HH.out ?_
    rotate_left
    · intro w hSw; go_simp; try with_reducible rfl
    change wpAnyH _ _ _ _ _ _ _ (Act.put _ (some 67) _) _
    simp only [Act.put, List.setIfInBounds_toArray, List.set_cons_zero, List.set_cons_succ]
    refine wpAnyH_take (i := 7) (v := ?_) rfl (by kernel_rfl) (by kernel_rfl) (by kernel_rfl) (fun _ _ _ h => h) (Or.inl ⟨by rfl, ?_⟩) HH.out ?_
    rotate_left
    · intro w hSw; go_simp; try with_reducible rfl
    change wpAnyH _ _ _ _ _ _ _ (Act.put _ (some 60) _) _
    simp only [Act.put, List.setIfInBounds_toArray, List.set_cons_zero, List.set_cons_succ]
    refine wpAnyH_done (by kernel_rfl) ?_ _
    · have HH9 := HH.out
      go_wp2
      have hv : st.verdict t = 4 := by rw [hV.out]; exact if_pos k5
      exact post_u8v (v := .int .u8 (4 : Nat)) rfl rfl ⟨by rw [hv], eF.trans (by (repeat (first | with_reducible exact Ext.refl _ | with_reducible assumption | refine Ext.trans ?_ (by with_reducible assumption) | refine Ext.alloc ?_ _ _ | refine Ext.drew ?_ | refine Ext.drewN ?_ _)))⟩
  rw [if_neg (fun q => q k5)] at hV
  subst k5
  have z5 : cmpI nt nt = 0 := (cmpI_z _ _).2 rfl
  refine w_ext ?_
  rintro W0 hW0
  refine wp_region_held_drew (S := fun w' => Ext W0 w') (by kernel_rfl) (Ext.refl _).drew (fun hHeld => ?_)
  have HH : Hid (Ext W0 _) := hHeld
  clear hHeld
  refine wpAnyH_take (i := 0) (v := ?_) rfl (by kernel_rfl) (by kernel_rfl) (by kernel_rfl) (fun _ _ _ h => h) (Or.inl ⟨by rfl, ?_⟩) HH.out ?_
  rotate_left
  · intro w hSw; go_simp; try with_reducible rfl
  change wpAnyH _ _ _ _ _ _ _ (Act.put _ (some 61) _) _
  simp only [Act.put, List.setIfInBounds_toArray, List.set_cons_zero, List.set_cons_succ]
  refine wpAnyH_take (i := 1) rfl (by kernel_rfl) (by kernel_rfl) (by kernel_rfl) (fun _ _ _ h => h) (yieldsIf_load1 (by rfl) _ _ rfl _ _ rfl onet26v _ (fun w hSw => (((bT8.ext (Ext.trans (by (repeat (first | with_reducible exact Ext.refl _ | with_reducible assumption | refine Ext.trans ?_ (by with_reducible assumption) | refine Ext.alloc ?_ _ _ | refine Ext.drew ?_ | refine Ext.drewN ?_ _))) (hW0.trans hSw))).cell (i := 41) (by decide)).trans (congrArg some hci)))) HH.out ?_
  change wpAnyH _ _ _ _ _ _ _ (Act.put _ (some 62) _) _
  simp only [Act.put, List.setIfInBounds_toArray, List.set_cons_zero, List.set_cons_succ]
  refine wpAnyH_take (i := 3) (v := ?_) rfl (by kernel_rfl) (by kernel_rfl) (by kernel_rfl) (fun _ _ _ h => h) (Or.inl ⟨by rfl, ?_⟩) HH.out ?_
  rotate_left
  · intro w hSw; go_simp; try with_reducible rfl
  change wpAnyH _ _ _ _ _ _ _ (Act.put _ (some 64) _) _
  simp only [Act.put, List.setIfInBounds_toArray, List.set_cons_zero, List.set_cons_succ]
  refine wpAnyH_take (i := 4) rfl (by kernel_rfl) (by kernel_rfl) (by kernel_rfl) (fun _ _ _ h => h) (yieldsIf_load1 (by rfl) _ _ rfl _ _ rfl onet96m _ (fun w hSw => (((bA8.ext (Ext.trans (by (repeat (first | with_reducible exact Ext.refl _ | with_reducible assumption | refine Ext.trans ?_ (by with_reducible assumption) | refine Ext.alloc ?_ _ _ | refine Ext.drew ?_ | refine Ext.drewN ?_ _))) (hW0.trans hSw))).cell (i := 20) (by decide)).trans (congrArg some cA20)))) HH.out ?_
  change wpAnyH _ _ _ _ _ _ _ (Act.put _ (some 65) _) _
  simp only [Act.put, List.setIfInBounds_toArray, List.set_cons_zero, List.set_cons_succ]
  refine wpAnyH_ready (rs := [2]) (by kernel_rfl) (by simp) ?_
  refine AllReadyH.cons rfl (fun K hK => ?_) AllReadyH.nil
  go_simp
  go_at_call 42; refine (nNum O nt _ (hO8.ext (by (repeat (first | with_reducible exact Ext.refl _ | with_reducible assumption | refine Ext.trans ?_ (by with_reducible assumption) | refine Ext.alloc ?_ _ _ | refine Ext.drew ?_ | refine Ext.drewN ?_ _)))) (hntl)).mono ?_; rintro e w12 ⟨ra, rfl, hra, he⟩
  refine hK.out _ _ ?_ (fun hHeld => ?_)
  · first | exact HH.out.trans hmY | exact HH.out.trans he | exact HH.out
  clear hK K HH
  have HH : Hid (Ext W0 _) := hHeld
  clear hHeld
  refine wpAnyH_ready (rs := [5]) (by kernel_rfl) (by simp) ?_
  refine AllReadyH.cons rfl (fun K hK => ?_) AllReadyH.nil
  go_simp
  go_at_call 130; refine (nCmp O _ _ (nt) (nt) _ (hra.ext (by (repeat (first | with_reducible exact Ext.refl _ | with_reducible assumption | refine Ext.trans ?_ (by with_reducible assumption) | refine Ext.alloc ?_ _ _ | refine Ext.drew ?_ | refine Ext.drewN ?_ _)))) (n18.ext (by (repeat (first | with_reducible exact Ext.refl _ | with_reducible assumption | refine Ext.trans ?_ (by with_reducible assumption) | refine Ext.alloc ?_ _ _ | refine Ext.drew ?_ | refine Ext.drewN ?_ _))))).mono ?_; rintro e w13 ⟨rfl, hdr⟩; have he := drew_ext hdr; clear hdr
  refine hK.out _ _ ?_ (fun hHeld => ?_)
  · first | exact HH.out.trans hmY | exact HH.out.trans he | exact HH.out
  clear hK K HH
  have HH : Hid (Ext W0 _) := hHeld
  clear hHeld
  refine wpAnyH_take (i := 6) (v := ?_) rfl (by kernel_rfl) (by kernel_rfl) (by kernel_rfl) (fun _ _ _ h => h) (Or.inl ⟨by rfl, ?_⟩) HH.out ?_
  rotate_left
  · intro w hSw; go_simp; try with_reducible rfl
  change wpAnyH _ _ _ _ _ _ _ (Act.put _ (some 67) _) _
  simp only [Act.put, List.setIfInBounds_toArray, List.set_cons_zero, List.set_cons_succ]
  refine wpAnyH_take (i := 7) (v := ?_) rfl (by kernel_rfl) (by kernel_rfl) (by kernel_rfl) (fun _ _ _ h => h) (Or.inl ⟨by rfl, ?_⟩) HH.out ?_
  rotate_left
  · intro w hSw; go_simp; try with_reducible rfl
  change wpAnyH _ _ _ _ _ _ _ (Act.put _ (some 60) _) _
  simp only [Act.put, List.setIfInBounds_toArray, List.set_cons_zero, List.set_cons_succ]
  refine wpAnyH_done (by kernel_rfl) ?_ _
  have HH5 := HH.out
  have hW5 := hW0
  clear HH hW0
  go_upto_region 14 with (fail)
  rcases Nat.decEq nt 18446744073709551615 with k6 | k6
  rotate_left
  · have z6 : cmpI nt 18446744073709551615 = 0 := (cmpI_z _ _).2 k6
    have k6h : Hid (nt = 18446744073709551615) := k6
    clear k6
    refine w_ext ?_
    rintro W0 hW0
    refine wp_region_held_drew (S := fun w' => Ext W0 w') (by kernel_rfl) (Ext.refl _).drew (fun hHeld => ?_)
    have HH : Hid (Ext W0 _) := hHeld
    clear hHeld
    refine wpAnyH_take (i := 0) (v := ?_) rfl (by kernel_rfl) (by kernel_rfl) (by kernel_rfl) (fun _ _ _ h => h) (Or.inl ⟨by rfl, ?_⟩) HH.out ?_
    rotate_left
    · intro w hSw; go_simp; try with_reducible rfl
    change wpAnyH _ _ _ _ _ _ _ (Act.put _ (some 69) _) _
    simp only [Act.put, List.setIfInBounds_toArray, List.set_cons_zero, List.set_cons_succ]
    refine wpAnyH_take (i := 1) rfl (by kernel_rfl) (by kernel_rfl) (by kernel_rfl) (fun _ _ _ h => h) (yieldsIf_load1 (by rfl) _ _ rfl _ _ rfl onet96m _ (fun w hSw => (((bA8.ext (Ext.trans (by (repeat (first | with_reducible exact Ext.refl _ | with_reducible assumption | refine Ext.trans ?_ (by with_reducible assumption) | refine Ext.alloc ?_ _ _ | refine Ext.drew ?_ | refine Ext.drewN ?_ _))) (hW0.trans hSw))).cell (i := 20) (by decide)).trans (congrArg some cA20)))) HH.out ?_
    change wpAnyH _ _ _ _ _ _ _ (Act.put _ (some 70) _) _
    simp only [Act.put, List.setIfInBounds_toArray, List.set_cons_zero, List.set_cons_succ]
    refine wpAnyH_ready (rs := [2]) (by kernel_rfl) (by simp) ?_
    refine AllReadyH.cons rfl (fun K hK => ?_) AllReadyH.nil
    go_simp
    go_at_call 42; refine (nNum O 18446744073709551615 _ (hO8.ext (by (repeat (first | with_reducible exact Ext.refl _ | with_reducible assumption | refine Ext.trans ?_ (by with_reducible assumption) | refine Ext.alloc ?_ _ _ | refine Ext.drew ?_ | refine Ext.drewN ?_ _)))) (by decide)).mono ?_; rintro e w12 ⟨ra, rfl, hra, he⟩
    refine hK.out _ _ ?_ (fun hHeld => ?_)
    · first | exact HH.out.trans hmY | exact HH.out.trans he | exact HH.out
    clear hK K HH
    have HH : Hid (Ext W0 _) := hHeld
    clear hHeld
    refine wpAnyH_ready (rs := [3]) (by kernel_rfl) (by simp) ?_
    refine AllReadyH.cons rfl (fun K hK => ?_) AllReadyH.nil
    go_simp
    go_at_call 130; refine (nCmp O _ _ (nt) (18446744073709551615) _ (n18.ext (by (repeat (first | with_reducible exact Ext.refl _ | with_reducible assumption | refine Ext.trans ?_ (by with_reducible assumption) | refine Ext.alloc ?_ _ _ | refine Ext.drew ?_ | refine Ext.drewN ?_ _)))) (hra.ext (by (repeat (first | with_reducible exact Ext.refl _ | with_reducible assumption | refine Ext.trans ?_ (by with_reducible assumption) | refine Ext.alloc ?_ _ _ | refine Ext.drew ?_ | refine Ext.drewN ?_ _))))).mono ?_; rintro e w13 ⟨rfl, hdr⟩; have he := drew_ext hdr; clear hdr
    refine hK.out _ _ ?_ (fun hHeld => ?_)
    · first | exact HH.out.trans hmY | exact HH.out.trans he | exact HH.out
    clear hK K HH
    have HH : Hid (Ext W0 _) := hHeld
    clear hHeld
    refine wpAnyH_take (i := 4) (v := ?_) rfl (by kernel_rfl) (by kernel_rfl) (by kernel_rfl) (fun _ _ _ h => h) (Or.inl ⟨by rfl, ?_⟩) HH.out ?_
    rotate_left
    · intro w hSw; go_simp; try with_reducible rfl
    change wpAnyH _ _ _ _ _ _ _ (Act.put _ (some 73) _) _
    simp only [Act.put, List.setIfInBounds_toArray, List.set_cons_zero, List.set_cons_succ]
    refine wpAnyH_take (i := 5) (v := ?_) rfl (by kernel_rfl) (by kernel_rfl) (by kernel_rfl) (fun _ _ _ h => h) (Or.inl ⟨by rfl, ?_⟩) HH.out ?_
    rotate_left
    · intro w hSw; go_simp; try with_reducible rfl
    change wpAnyH _ _ _ _ _ _ _ (Act.put _ (some 68) _) _
    simp only [Act.put, List.setIfInBounds_toArray, List.set_cons_zero, List.set_cons_succ]
    refine wpAnyH_done (by kernel_rfl) ?_ _
    · have HH9 := HH.out
      go_wp2
      have hv : st.verdict t = 5 := by rw [hV.out]; exact if_pos k6h.out
      exact post_u8v (v := .int .u8 (5 : Nat)) rfl rfl ⟨by rw [hv], eF.trans (by (repeat (first | with_reducible exact Ext.refl _ | with_reducible assumption | refine Ext.trans ?_ (by with_reducible assumption) | refine Ext.alloc ?_ _ _ | refine Ext.drew ?_ | refine Ext.drewN ?_ _)))⟩
  have z6 : ¬ cmpI nt 18446744073709551615 = 0 := fun q => k6 ((cmpI_z _ _).1 q)
  have z6c : decide (cmpI nt 18446744073709551615 = 0) = false := decide_eq_false z6
  rw [if_neg k6] at hV
  refine w_ext ?_
  rintro W0 hW0
  refine wp_region_held_drew (S := fun w' => Ext W0 w') (by kernel_rfl) (Ext.refl _).drew (fun hHeld => ?_)
  have HH : Hid (Ext W0 _) := hHeld
  clear hHeld
  refine wpAnyH_take (i := 0) (v := ?_) rfl (by kernel_rfl) (by kernel_rfl) (by kernel_rfl) (fun _ _ _ h => h) (Or.inl ⟨by rfl, ?_⟩) HH.out ?_
  rotate_left
  · intro w hSw; go_simp; try with_reducible rfl
  change wpAnyH _ _ _ _ _ _ _ (Act.put _ (some 69) _) _
  simp only [Act.put, List.setIfInBounds_toArray, List.set_cons_zero, List.set_cons_succ]
  refine wpAnyH_take (i := 1) rfl (by kernel_rfl) (by kernel_rfl) (by kernel_rfl) (fun _ _ _ h => h) (yieldsIf_load1 (by rfl) _ _ rfl _ _ rfl onet96m _ (fun w hSw => (((bA8.ext (Ext.trans (by (repeat (first | with_reducible exact Ext.refl _ | with_reducible assumption | refine Ext.trans ?_ (by with_reducible assumption) | refine Ext.alloc ?_ _ _ | refine Ext.drew ?_ | refine Ext.drewN ?_ _))) (hW0.trans hSw))).cell (i := 20) (by decide)).trans (congrArg some cA20)))) HH.out ?_
  change wpAnyH _ _ _ _ _ _ _ (Act.put _ (some 70) _) _
  simp only [Act.put, List.setIfInBounds_toArray, List.set_cons_zero, List.set_cons_succ]
  refine wpAnyH_ready (rs := [2]) (by kernel_rfl) (by simp) ?_
  refine AllReadyH.cons rfl (fun K hK => ?_) AllReadyH.nil
  go_simp
  go_at_call 42; refine (nNum O 18446744073709551615 _ (hO8.ext (by (repeat (first | with_reducible exact Ext.refl _ | with_reducible assumption | refine Ext.trans ?_ (by with_reducible assumption) | refine Ext.alloc ?_ _ _ | refine Ext.drew ?_ | refine Ext.drewN ?_ _)))) (by decide)).mono ?_; rintro e w12 ⟨ra, rfl, hra, he⟩
  refine hK.out _ _ ?_ (fun hHeld => ?_)
  · first | exact HH.out.trans hmY | exact HH.out.trans he | exact HH.out
  clear hK K HH
  have HH : Hid (Ext W0 _) := hHeld
  clear hHeld
  refine wpAnyH_ready (rs := [3]) (by kernel_rfl) (by simp) ?_
  refine AllReadyH.cons rfl (fun K hK => ?_) AllReadyH.nil
  go_simp
  go_at_call 130; refine (nCmp O _ _ (nt) (18446744073709551615) _ (n18.ext (by (repeat (first | with_reducible exact Ext.refl _ | with_reducible assumption | refine Ext.trans ?_ (by with_reducible assumption) | refine Ext.alloc ?_ _ _ | refine Ext.drew ?_ | refine Ext.drewN ?_ _)))) (hra.ext (by (repeat (first | with_reducible exact Ext.refl _ | with_reducible assumption | refine Ext.trans ?_ (by with_reducible assumption) | refine Ext.alloc ?_ _ _ | refine Ext.drew ?_ | refine Ext.drewN ?_ _))))).mono ?_; rintro e w13 ⟨rfl, hdr⟩; have he := drew_ext hdr; clear hdr
  refine hK.out _ _ ?_ (fun hHeld => ?_)
  · first | exact HH.out.trans hmY | exact HH.out.trans he | exact HH.out
  clear hK K HH
  have HH : Hid (Ext W0 _) := hHeld
  clear hHeld
  refine wpAnyH_take (i := 4) (v := ?_) rfl (by kernel_rfl) (by kernel_rfl) (by kernel_rfl) (fun _ _ _ h => h) (Or.inl ⟨by rfl, ?_⟩) HH.out ?_
  rotate_left
  · intro w hSw; go_simp; try with_reducible rfl
  change wpAnyH _ _ _ _ _ _ _ (Act.put _ (some 73) _) _
  simp only [Act.put, List.setIfInBounds_toArray, List.set_cons_zero, List.set_cons_succ]
  refine wpAnyH_take (i := 5) (v := ?_) rfl (by kernel_rfl) (by kernel_rfl) (by kernel_rfl) (fun _ _ _ h => h) (Or.inl ⟨by rfl, ?_⟩) HH.out ?_
  rotate_left
  · intro w hSw; go_simp; try with_reducible rfl
  change wpAnyH _ _ _ _ _ _ _ (Act.put _ (some 68) _) _
  simp only [Act.put, List.setIfInBounds_toArray, List.set_cons_zero, List.set_cons_succ]
  refine wpAnyH_done (by kernel_rfl) ?_ _
  have HH6 := HH.out
  have hW6 := hW0
  clear HH hW0
  go_upto_region 16 with (fail)
  rcases Nat.eq_zero_or_pos cl with k7 | k7
  rotate_left
  · have z7 : (0 : Int) < (cl : Int) := by omega
    go_wp2_with (first | ((with_reducible (refine Veil.out ?_; apply wl_loadC onet32m)); (case hw => rfl); (case hx => rfl); (case hc => exact ((bA8.ext (by (repeat (first | with_reducible exact Ext.refl _ | with_reducible assumption | refine Ext.trans ?_ (by with_reducible assumption) | refine Ext.alloc ?_ _ _ | refine Ext.drew ?_ | refine Ext.drewN ?_ _)))).cell (i := 22) (by decide)).trans (congrArg some (cA22.trans hu3)))))
    have hv : st.verdict t = 6 := by rw [hV.out]; exact if_pos (by omega)
    exact post_u8v (v := .int .u8 (6 : Nat)) rfl rfl ⟨by rw [hv], eF.trans (by (repeat (first | with_reducible exact Ext.refl _ | with_reducible assumption | refine Ext.trans ?_ (by with_reducible assumption) | refine Ext.alloc ?_ _ _ | refine Ext.drew ?_ | refine Ext.drewN ?_ _)))⟩
  have z7 : ¬ (0 : Int) < (cl : Int) := by omega
  have z7c : decide ((0 : Int) < (cl : Int)) = false := decide_eq_false z7
  rw [if_neg (fun q => q k7)] at hV
  clear k7
  go_upto_region 18 with (first | ((with_reducible (refine Veil.out ?_; apply wl_loadC onet32m)); (case hw => rfl); (case hx => rfl); (case hc => exact ((bA8.ext (by (repeat (first | with_reducible exact Ext.refl _ | with_reducible assumption | refine Ext.trans ?_ (by with_reducible assumption) | refine Ext.alloc ?_ _ _ | refine Ext.drew ?_ | refine Ext.drewN ?_ _)))).cell (i := 22) (by decide)).trans (congrArg some (cA22.trans hu3)))))
  have z8 : (512 : Int) < (dlen : Int) ∨ ¬ (512 : Int) < (dlen : Int) := by omega
  by_cases k8 : cr = true ∧ 512 < dlen
  · have z9 : (512 : Int) < (dlen : Int) := by omega
    have z10 := k8.1
    subst z10
    clear z8
    go_wp2_with (first | ((with_reducible (refine Veil.out ?_; apply wl_loadC onet4m)); (case hw => rfl); (case hx => rfl); (case hc => exact ((bT8.ext (by (repeat (first | with_reducible exact Ext.refl _ | with_reducible assumption | refine Ext.trans ?_ (by with_reducible assumption) | refine Ext.alloc ?_ _ _ | refine Ext.drew ?_ | refine Ext.drewN ?_ _)))).cell (i := 40) (by decide)).trans (congrArg some hcc))) | ((with_reducible (refine Veil.out ?_; apply wl_loadC onet32m)); (case hw => rfl); (case hx => rfl); (case hc => exact ((bT8.ext (by (repeat (first | with_reducible exact Ext.refl _ | with_reducible assumption | refine Ext.trans ?_ (by with_reducible assumption) | refine Ext.alloc ?_ _ _ | refine Ext.drew ?_ | refine Ext.drewN ?_ _)))).cell (i := 107) (by decide)).trans (congrArg some hdd))))
    have hv : st.verdict t = 7 := by rw [hV.out]; exact if_pos ⟨by simp, k8.2⟩
    exact post_u8v (v := .int .u8 (7 : Nat)) rfl rfl ⟨by rw [hv], eF.trans (by (repeat (first | with_reducible exact Ext.refl _ | with_reducible assumption | refine Ext.trans ?_ (by with_reducible assumption) | refine Ext.alloc ?_ _ _ | refine Ext.drew ?_ | refine Ext.drewN ?_ _)))⟩
  rw [if_neg k8] at hV
  try simp only [Act.put]
  go_upto_region 18 with (fail)
  cases cr with
  | false =>
  clear k8 z8
  go_upto_region 20 with (first | ((with_reducible (refine Veil.out ?_; apply wl_loadC onet4m)); (case hw => rfl); (case hx => rfl); (case hc => exact ((bT8.ext (by (repeat (first | with_reducible exact Ext.refl _ | with_reducible assumption | refine Ext.trans ?_ (by with_reducible assumption) | refine Ext.alloc ?_ _ _ | refine Ext.drew ?_ | refine Ext.drewN ?_ _)))).cell (i := 40) (by decide)).trans (congrArg some hcc))) | ((with_reducible (refine Veil.out ?_; apply wl_loadC onet32m)); (case hw => rfl); (case hx => rfl); (case hc => exact ((bT8.ext (by (repeat (first | with_reducible exact Ext.refl _ | with_reducible assumption | refine Ext.trans ?_ (by with_reducible assumption) | refine Ext.alloc ?_ _ _ | refine Ext.drew ?_ | refine Ext.drewN ?_ _)))).cell (i := 107) (by decide)).trans (congrArg some hdd))))
  have hrow : rowOf (cf r) 0 174 = r := by
    apply Array.ext_getElem?
    intro i
    rw [rowOf_get]
    by_cases q : i < 174
    · rw [if_pos q, Nat.zero_add, get_cf (by rw [hr]; exact q)]
    · rw [if_neg q, Array.getElem?_eq_none (by rw [hr]; omega)]
  rcases Nat.lt_or_ge gas inn with k8 | k8
  · have z11 : cmpI gas inn < 0 := (cmpI_n _ _).2 k8
    go_wp2_with (first | ((with_reducible (refine Veil.out ?_; apply wl_loadRow rt35y)); (case hx => rfl); (case hB => exact bT8.ext (by (repeat (first | with_reducible exact Ext.refl _ | with_reducible assumption | refine Ext.trans ?_ (by with_reducible assumption) | refine Ext.alloc ?_ _ _ | refine Ext.drew ?_ | refine Ext.drewN ?_ _)))); (case hi => decide)) | (rw [hrow]; go_at_call 56; refine (HIn9 _ (by (repeat (first | with_reducible exact Ext.refl _ | with_reducible assumption | refine Ext.trans ?_ (by with_reducible assumption) | refine Ext.alloc ?_ _ _ | refine Ext.drew ?_ | refine Ext.drewN ?_ _)))).mono ?_; rintro e w12 ⟨ra, rfl, hra, hea⟩) | (go_at_call 56; refine (HIn9 _ (by (repeat (first | with_reducible exact Ext.refl _ | with_reducible assumption | refine Ext.trans ?_ (by with_reducible assumption) | refine Ext.alloc ?_ _ _ | refine Ext.drew ?_ | refine Ext.drewN ?_ _)))).mono ?_; rintro e w12 ⟨ra, rfl, hra, hea⟩) | (go_at_call 130; refine (nCmp O _ _ (gas) (inn) _ (rg8.ext (by (repeat (first | with_reducible exact Ext.refl _ | with_reducible assumption | refine Ext.trans ?_ (by with_reducible assumption) | refine Ext.alloc ?_ _ _ | refine Ext.drew ?_ | refine Ext.drewN ?_ _)))) (hra.ext (by (repeat (first | with_reducible exact Ext.refl _ | with_reducible assumption | refine Ext.trans ?_ (by with_reducible assumption) | refine Ext.alloc ?_ _ _ | refine Ext.drew ?_ | refine Ext.drewN ?_ _))))).mono ?_; rintro e w13 ⟨rfl, hdr⟩; have he13 := drew_ext hdr; clear hdr))
    have hv : st.verdict t = 8 := by rw [hV.out]; exact if_pos k8
    exact post_u8v (v := .int .u8 (8 : Nat)) rfl rfl ⟨by rw [hv], eF.trans (by (repeat (first | with_reducible exact Ext.refl _ | with_reducible assumption | refine Ext.trans ?_ (by with_reducible assumption) | refine Ext.alloc ?_ _ _ | refine Ext.drew ?_ | refine Ext.drewN ?_ _)))⟩
  have z11 : ¬ cmpI gas inn < 0 := fun q => by have := (cmpI_n _ _).1 q; omega
  have z11c : decide (cmpI gas inn < 0) = false := decide_eq_false z11
  rw [if_neg (by omega)] at hV
  go_upto_region 22 with (first | ((with_reducible (refine Veil.out ?_; apply wl_loadRow rt35y)); (case hx => rfl); (case hB => exact bT8.ext (by (repeat (first | with_reducible exact Ext.refl _ | with_reducible assumption | refine Ext.trans ?_ (by with_reducible assumption) | refine Ext.alloc ?_ _ _ | refine Ext.drew ?_ | refine Ext.drewN ?_ _)))); (case hi => decide)) | (rw [hrow]; go_at_call 56; refine (HIn9 _ (by (repeat (first | with_reducible exact Ext.refl _ | with_reducible assumption | refine Ext.trans ?_ (by with_reducible assumption) | refine Ext.alloc ?_ _ _ | refine Ext.drew ?_ | refine Ext.drewN ?_ _)))).mono ?_; rintro e w12 ⟨ra, rfl, hra, hea⟩) | (go_at_call 56; refine (HIn9 _ (by (repeat (first | with_reducible exact Ext.refl _ | with_reducible assumption | refine Ext.trans ?_ (by with_reducible assumption) | refine Ext.alloc ?_ _ _ | refine Ext.drew ?_ | refine Ext.drewN ?_ _)))).mono ?_; rintro e w12 ⟨ra, rfl, hra, hea⟩) | (go_at_call 130; refine (nCmp O _ _ (gas) (inn) _ (rg8.ext (by (repeat (first | with_reducible exact Ext.refl _ | with_reducible assumption | refine Ext.trans ?_ (by with_reducible assumption) | refine Ext.alloc ?_ _ _ | refine Ext.drew ?_ | refine Ext.drewN ?_ _)))) (hra.ext (by (repeat (first | with_reducible exact Ext.refl _ | with_reducible assumption | refine Ext.trans ?_ (by with_reducible assumption) | refine Ext.alloc ?_ _ _ | refine Ext.drew ?_ | refine Ext.drewN ?_ _))))).mono ?_; rintro e w13 ⟨rfl, hdr⟩; have he13 := drew_ext hdr; clear hdr))
  rcases Nat.lt_or_ge gl gas with k9 | k9
  · have z12 : 0 < cmpI gas gl := (cmpI_p _ _).2 k9
    go_wp2_with (first | ((with_reducible (refine Veil.out ?_; apply wl_loadC onet26v)); (case hw => rfl); (case hx => rfl); (case hc => exact ((hbY8.ext (by (repeat (first | with_reducible exact Ext.refl _ | with_reducible assumption | refine Ext.trans ?_ (by with_reducible assumption) | refine Ext.alloc ?_ _ _ | refine Ext.drew ?_ | refine Ext.drewN ?_ _)))).cell (i := 81) (by decide)).trans (congrArg some hcgl))) | (go_at_call 42; refine (nNum O gl _ (hO8.ext (by (repeat (first | with_reducible exact Ext.refl _ | with_reducible assumption | refine Ext.trans ?_ (by with_reducible assumption) | refine Ext.alloc ?_ _ _ | refine Ext.drew ?_ | refine Ext.drewN ?_ _)))) (hgll)).mono ?_; rintro e w12 ⟨ra, rfl, hra, hea⟩) | (go_at_call 130; refine (nCmp O _ _ (gas) (gl) _ (rg8.ext (by (repeat (first | with_reducible exact Ext.refl _ | with_reducible assumption | refine Ext.trans ?_ (by with_reducible assumption) | refine Ext.alloc ?_ _ _ | refine Ext.drew ?_ | refine Ext.drewN ?_ _)))) (hra.ext (by (repeat (first | with_reducible exact Ext.refl _ | with_reducible assumption | refine Ext.trans ?_ (by with_reducible assumption) | refine Ext.alloc ?_ _ _ | refine Ext.drew ?_ | refine Ext.drewN ?_ _))))).mono ?_; rintro e w13 ⟨rfl, hdr⟩; have he13 := drew_ext hdr; clear hdr))
    have hv : st.verdict t = 9 := by rw [hV.out]; exact if_pos k9
    exact post_u8v (v := .int .u8 (9 : Nat)) rfl rfl ⟨by rw [hv], eF.trans (by (repeat (first | with_reducible exact Ext.refl _ | with_reducible assumption | refine Ext.trans ?_ (by with_reducible assumption) | refine Ext.alloc ?_ _ _ | refine Ext.drew ?_ | refine Ext.drewN ?_ _)))⟩
  have z12 : ¬ 0 < cmpI gas gl := fun q => by have := (cmpI_p _ _).1 q; omega
  have z12c : decide (0 < cmpI gas gl) = false := decide_eq_false z12
  rw [if_neg (by omega)] at hV
  go_upto_region 24 with (first | ((with_reducible (refine Veil.out ?_; apply wl_loadC onet26v)); (case hw => rfl); (case hx => rfl); (case hc => exact ((hbY8.ext (by (repeat (first | with_reducible exact Ext.refl _ | with_reducible assumption | refine Ext.trans ?_ (by with_reducible assumption) | refine Ext.alloc ?_ _ _ | refine Ext.drew ?_ | refine Ext.drewN ?_ _)))).cell (i := 81) (by decide)).trans (congrArg some hcgl))) | (go_at_call 42; refine (nNum O gl _ (hO8.ext (by (repeat (first | with_reducible exact Ext.refl _ | with_reducible assumption | refine Ext.trans ?_ (by with_reducible assumption) | refine Ext.alloc ?_ _ _ | refine Ext.drew ?_ | refine Ext.drewN ?_ _)))) (hgll)).mono ?_; rintro e w12 ⟨ra, rfl, hra, hea⟩) | (go_at_call 130; refine (nCmp O _ _ (gas) (gl) _ (rg8.ext (by (repeat (first | with_reducible exact Ext.refl _ | with_reducible assumption | refine Ext.trans ?_ (by with_reducible assumption) | refine Ext.alloc ?_ _ _ | refine Ext.drew ?_ | refine Ext.drewN ?_ _)))) (hra.ext (by (repeat (first | with_reducible exact Ext.refl _ | with_reducible assumption | refine Ext.trans ?_ (by with_reducible assumption) | refine Ext.alloc ?_ _ _ | refine Ext.drew ?_ | refine Ext.drewN ?_ _))))).mono ?_; rintro e w13 ⟨rfl, hdr⟩; have he13 := drew_ext hdr; clear hdr))
  rcases Nat.lt_or_ge bl need with k10 | k10
  · have z13 : cmpI bl need < 0 := (cmpI_n _ _).2 k10
    go_wp2_with (first | ((with_reducible (refine Veil.out ?_; apply wl_loadC onet96m)); (case hw => rfl); (case hx => rfl); (case hc => exact ((bA8.ext (by (repeat (first | with_reducible exact Ext.refl _ | with_reducible assumption | refine Ext.trans ?_ (by with_reducible assumption) | refine Ext.alloc ?_ _ _ | refine Ext.drew ?_ | refine Ext.drewN ?_ _)))).cell (i := 21) (by decide)).trans (congrArg some cA21))) | (go_at_call 130; refine (nCmp O _ _ (bl) (need) _ (n28.ext (by (repeat (first | with_reducible exact Ext.refl _ | with_reducible assumption | refine Ext.trans ?_ (by with_reducible assumption) | refine Ext.alloc ?_ _ _ | refine Ext.drew ?_ | refine Ext.drewN ?_ _)))) (hrn.ext (by (repeat (first | with_reducible exact Ext.refl _ | with_reducible assumption | refine Ext.trans ?_ (by with_reducible assumption) | refine Ext.alloc ?_ _ _ | refine Ext.drew ?_ | refine Ext.drewN ?_ _))))).mono ?_; rintro e w13 ⟨rfl, hdr⟩; have he13 := drew_ext hdr; clear hdr))
    have hv : st.verdict t = 10 := by rw [hV.out]; exact if_pos k10
    exact post_u8v (v := .int .u8 (10 : Nat)) rfl rfl ⟨by rw [hv], eF.trans (by (repeat (first | with_reducible exact Ext.refl _ | with_reducible assumption | refine Ext.trans ?_ (by with_reducible assumption) | refine Ext.alloc ?_ _ _ | refine Ext.drew ?_ | refine Ext.drewN ?_ _)))⟩
  have z13 : ¬ cmpI bl need < 0 := fun q => by have := (cmpI_n _ _).1 q; omega
  have z13c : decide (cmpI bl need < 0) = false := decide_eq_false z13
  rw [if_neg (by omega)] at hV
  go_upto_region 26 with (first | ((with_reducible (refine Veil.out ?_; apply wl_loadC onet96m)); (case hw => rfl); (case hx => rfl); (case hc => exact ((bA8.ext (by (repeat (first | with_reducible exact Ext.refl _ | with_reducible assumption | refine Ext.trans ?_ (by with_reducible assumption) | refine Ext.alloc ?_ _ _ | refine Ext.drew ?_ | refine Ext.drewN ?_ _)))).cell (i := 21) (by decide)).trans (congrArg some cA21))) | (go_at_call 130; refine (nCmp O _ _ (bl) (need) _ (n28.ext (by (repeat (first | with_reducible exact Ext.refl _ | with_reducible assumption | refine Ext.trans ?_ (by with_reducible assumption) | refine Ext.alloc ?_ _ _ | refine Ext.drew ?_ | refine Ext.drewN ?_ _)))) (hrn.ext (by (repeat (first | with_reducible exact Ext.refl _ | with_reducible assumption | refine Ext.trans ?_ (by with_reducible assumption) | refine Ext.alloc ?_ _ _ | refine Ext.drew ?_ | refine Ext.drewN ?_ _))))).mono ?_; rintro e w13 ⟨rfl, hdr⟩; have he13 := drew_ext hdr; clear hdr))
  rcases Nat.lt_or_ge most tip with k11 | k11
  · have z14 : 0 < cmpI tip most := (cmpI_p _ _).2 k11
    go_wp2_with (first | (go_at_call 43; refine (HTp8 _ (by (repeat (first | with_reducible exact Ext.refl _ | with_reducible assumption | refine Ext.trans ?_ (by with_reducible assumption) | refine Ext.alloc ?_ _ _ | refine Ext.drew ?_ | refine Ext.drewN ?_ _)))).mono ?_; rintro x w12 ⟨ra, rfl, hra, hea⟩) | (go_at_call 130; refine (nCmp O _ _ (tip) (most) _ (hra.ext (by (repeat (first | with_reducible exact Ext.refl _ | with_reducible assumption | refine Ext.trans ?_ (by with_reducible assumption) | refine Ext.alloc ?_ _ _ | refine Ext.drew ?_ | refine Ext.drewN ?_ _)))) (rm8.ext (by (repeat (first | with_reducible exact Ext.refl _ | with_reducible assumption | refine Ext.trans ?_ (by with_reducible assumption) | refine Ext.alloc ?_ _ _ | refine Ext.drew ?_ | refine Ext.drewN ?_ _))))).mono ?_; rintro e w13 ⟨rfl, hdr⟩; have he13 := drew_ext hdr; clear hdr))
    have hv : st.verdict t = 11 := by rw [hV.out]; exact if_pos k11
    exact post_u8v (v := .int .u8 (11 : Nat)) rfl rfl ⟨by rw [hv], eF.trans (by (repeat (first | with_reducible exact Ext.refl _ | with_reducible assumption | refine Ext.trans ?_ (by with_reducible assumption) | refine Ext.alloc ?_ _ _ | refine Ext.drew ?_ | refine Ext.drewN ?_ _)))⟩
  have z14 : ¬ 0 < cmpI tip most := fun q => by have := (cmpI_p _ _).1 q; omega
  have z14c : decide (0 < cmpI tip most) = false := decide_eq_false z14
  rw [if_neg (by omega)] at hV
  go_upto_region 28 with (first | (go_at_call 43; refine (HTp8 _ (by (repeat (first | with_reducible exact Ext.refl _ | with_reducible assumption | refine Ext.trans ?_ (by with_reducible assumption) | refine Ext.alloc ?_ _ _ | refine Ext.drew ?_ | refine Ext.drewN ?_ _)))).mono ?_; rintro x w12 ⟨ra, rfl, hra, hea⟩) | (go_at_call 130; refine (nCmp O _ _ (tip) (most) _ (hra.ext (by (repeat (first | with_reducible exact Ext.refl _ | with_reducible assumption | refine Ext.trans ?_ (by with_reducible assumption) | refine Ext.alloc ?_ _ _ | refine Ext.drew ?_ | refine Ext.drewN ?_ _)))) (rm8.ext (by (repeat (first | with_reducible exact Ext.refl _ | with_reducible assumption | refine Ext.trans ?_ (by with_reducible assumption) | refine Ext.alloc ?_ _ _ | refine Ext.drew ?_ | refine Ext.drewN ?_ _))))).mono ?_; rintro e w13 ⟨rfl, hdr⟩; have he13 := drew_ext hdr; clear hdr))
  rcases Nat.lt_or_ge most bf with k12 | k12
  · have z15 : cmpI most bf < 0 := (cmpI_n _ _).2 k12
    go_wp2_with (first | (go_at_call 79; refine (HBF8 _ (by (repeat (first | with_reducible exact Ext.refl _ | with_reducible assumption | refine Ext.trans ?_ (by with_reducible assumption) | refine Ext.alloc ?_ _ _ | refine Ext.drew ?_ | refine Ext.drewN ?_ _)))).mono ?_; rintro x w12 ⟨ra, rfl, hra, hea⟩) | (go_at_call 130; refine (nCmp O _ _ (most) (bf) _ (rm8.ext (by (repeat (first | with_reducible exact Ext.refl _ | with_reducible assumption | refine Ext.trans ?_ (by with_reducible assumption) | refine Ext.alloc ?_ _ _ | refine Ext.drew ?_ | refine Ext.drewN ?_ _)))) (hra.ext (by (repeat (first | with_reducible exact Ext.refl _ | with_reducible assumption | refine Ext.trans ?_ (by with_reducible assumption) | refine Ext.alloc ?_ _ _ | refine Ext.drew ?_ | refine Ext.drewN ?_ _))))).mono ?_; rintro e w13 ⟨rfl, hdr⟩; have he13 := drew_ext hdr; clear hdr))
    have hv : st.verdict t = 12 := by rw [hV.out]; exact if_pos k12
    exact post_u8v (v := .int .u8 (12 : Nat)) rfl rfl ⟨by rw [hv], eF.trans (by (repeat (first | with_reducible exact Ext.refl _ | with_reducible assumption | refine Ext.trans ?_ (by with_reducible assumption) | refine Ext.alloc ?_ _ _ | refine Ext.drew ?_ | refine Ext.drewN ?_ _)))⟩
  have z15 : ¬ cmpI most bf < 0 := fun q => by have := (cmpI_n _ _).1 q; omega
  have z15c : decide (cmpI most bf < 0) = false := decide_eq_false z15
  rw [if_neg (by omega)] at hV
  go_wp2_with (first | (go_at_call 79; refine (HBF8 _ (by (repeat (first | with_reducible exact Ext.refl _ | with_reducible assumption | refine Ext.trans ?_ (by with_reducible assumption) | refine Ext.alloc ?_ _ _ | refine Ext.drew ?_ | refine Ext.drewN ?_ _)))).mono ?_; rintro x w12 ⟨ra, rfl, hra, hea⟩) | (go_at_call 130; refine (nCmp O _ _ (most) (bf) _ (rm8.ext (by (repeat (first | with_reducible exact Ext.refl _ | with_reducible assumption | refine Ext.trans ?_ (by with_reducible assumption) | refine Ext.alloc ?_ _ _ | refine Ext.drew ?_ | refine Ext.drewN ?_ _)))) (hra.ext (by (repeat (first | with_reducible exact Ext.refl _ | with_reducible assumption | refine Ext.trans ?_ (by with_reducible assumption) | refine Ext.alloc ?_ _ _ | refine Ext.drew ?_ | refine Ext.drewN ?_ _))))).mono ?_; rintro e w13 ⟨rfl, hdr⟩; have he13 := drew_ext hdr; clear hdr))
  have hv : st.verdict t = 0 := hV.out
  exact post_u8v (v := .int .u8 (0 : Nat)) rfl rfl ⟨by rw [hv], eF.trans (by (repeat (first | with_reducible exact Ext.refl _ | with_reducible assumption | refine Ext.trans ?_ (by with_reducible assumption) | refine Ext.alloc ?_ _ _ | refine Ext.drew ?_ | refine Ext.drewN ?_ _)))⟩
  | true =>
  have k9' : ¬ 512 < dlen := fun q => k8 ⟨rfl, q⟩
  have z9 : ¬ (512 : Int) < (dlen : Int) := by omega
  have z9c : decide ((512 : Int) < (dlen : Int)) = false := decide_eq_false z9
  clear k8 z8
  go_upto_region 20 with (first | ((with_reducible (refine Veil.out ?_; apply wl_loadC onet4m)); (case hw => rfl); (case hx => rfl); (case hc => exact ((bT8.ext (by (repeat (first | with_reducible exact Ext.refl _ | with_reducible assumption | refine Ext.trans ?_ (by with_reducible assumption) | refine Ext.alloc ?_ _ _ | refine Ext.drew ?_ | refine Ext.drewN ?_ _)))).cell (i := 40) (by decide)).trans (congrArg some hcc))) | ((with_reducible (refine Veil.out ?_; apply wl_loadC onet32m)); (case hw => rfl); (case hx => rfl); (case hc => exact ((bT8.ext (by (repeat (first | with_reducible exact Ext.refl _ | with_reducible assumption | refine Ext.trans ?_ (by with_reducible assumption) | refine Ext.alloc ?_ _ _ | refine Ext.drew ?_ | refine Ext.drewN ?_ _)))).cell (i := 107) (by decide)).trans (congrArg some hdd))))
  have hrow : rowOf (cf r) 0 174 = r := by
    apply Array.ext_getElem?
    intro i
    rw [rowOf_get]
    by_cases q : i < 174
    · rw [if_pos q, Nat.zero_add, get_cf (by rw [hr]; exact q)]
    · rw [if_neg q, Array.getElem?_eq_none (by rw [hr]; omega)]
  rcases Nat.lt_or_ge gas inn with k8 | k8
  · have z11 : cmpI gas inn < 0 := (cmpI_n _ _).2 k8
    go_wp2_with (first | ((with_reducible (refine Veil.out ?_; apply wl_loadRow rt35y)); (case hx => rfl); (case hB => exact bT8.ext (by (repeat (first | with_reducible exact Ext.refl _ | with_reducible assumption | refine Ext.trans ?_ (by with_reducible assumption) | refine Ext.alloc ?_ _ _ | refine Ext.drew ?_ | refine Ext.drewN ?_ _)))); (case hi => decide)) | (rw [hrow]; go_at_call 56; refine (HIn9 _ (by (repeat (first | with_reducible exact Ext.refl _ | with_reducible assumption | refine Ext.trans ?_ (by with_reducible assumption) | refine Ext.alloc ?_ _ _ | refine Ext.drew ?_ | refine Ext.drewN ?_ _)))).mono ?_; rintro e w12 ⟨ra, rfl, hra, hea⟩) | (go_at_call 56; refine (HIn9 _ (by (repeat (first | with_reducible exact Ext.refl _ | with_reducible assumption | refine Ext.trans ?_ (by with_reducible assumption) | refine Ext.alloc ?_ _ _ | refine Ext.drew ?_ | refine Ext.drewN ?_ _)))).mono ?_; rintro e w12 ⟨ra, rfl, hra, hea⟩) | (go_at_call 130; refine (nCmp O _ _ (gas) (inn) _ (rg8.ext (by (repeat (first | with_reducible exact Ext.refl _ | with_reducible assumption | refine Ext.trans ?_ (by with_reducible assumption) | refine Ext.alloc ?_ _ _ | refine Ext.drew ?_ | refine Ext.drewN ?_ _)))) (hra.ext (by (repeat (first | with_reducible exact Ext.refl _ | with_reducible assumption | refine Ext.trans ?_ (by with_reducible assumption) | refine Ext.alloc ?_ _ _ | refine Ext.drew ?_ | refine Ext.drewN ?_ _))))).mono ?_; rintro e w13 ⟨rfl, hdr⟩; have he13 := drew_ext hdr; clear hdr))
    have hv : st.verdict t = 8 := by rw [hV.out]; exact if_pos k8
    exact post_u8v (v := .int .u8 (8 : Nat)) rfl rfl ⟨by rw [hv], eF.trans (by (repeat (first | with_reducible exact Ext.refl _ | with_reducible assumption | refine Ext.trans ?_ (by with_reducible assumption) | refine Ext.alloc ?_ _ _ | refine Ext.drew ?_ | refine Ext.drewN ?_ _)))⟩
  have z11 : ¬ cmpI gas inn < 0 := fun q => by have := (cmpI_n _ _).1 q; omega
  have z11c : decide (cmpI gas inn < 0) = false := decide_eq_false z11
  rw [if_neg (by omega)] at hV
  go_upto_region 22 with (first | ((with_reducible (refine Veil.out ?_; apply wl_loadRow rt35y)); (case hx => rfl); (case hB => exact bT8.ext (by (repeat (first | with_reducible exact Ext.refl _ | with_reducible assumption | refine Ext.trans ?_ (by with_reducible assumption) | refine Ext.alloc ?_ _ _ | refine Ext.drew ?_ | refine Ext.drewN ?_ _)))); (case hi => decide)) | (rw [hrow]; go_at_call 56; refine (HIn9 _ (by (repeat (first | with_reducible exact Ext.refl _ | with_reducible assumption | refine Ext.trans ?_ (by with_reducible assumption) | refine Ext.alloc ?_ _ _ | refine Ext.drew ?_ | refine Ext.drewN ?_ _)))).mono ?_; rintro e w12 ⟨ra, rfl, hra, hea⟩) | (go_at_call 56; refine (HIn9 _ (by (repeat (first | with_reducible exact Ext.refl _ | with_reducible assumption | refine Ext.trans ?_ (by with_reducible assumption) | refine Ext.alloc ?_ _ _ | refine Ext.drew ?_ | refine Ext.drewN ?_ _)))).mono ?_; rintro e w12 ⟨ra, rfl, hra, hea⟩) | (go_at_call 130; refine (nCmp O _ _ (gas) (inn) _ (rg8.ext (by (repeat (first | with_reducible exact Ext.refl _ | with_reducible assumption | refine Ext.trans ?_ (by with_reducible assumption) | refine Ext.alloc ?_ _ _ | refine Ext.drew ?_ | refine Ext.drewN ?_ _)))) (hra.ext (by (repeat (first | with_reducible exact Ext.refl _ | with_reducible assumption | refine Ext.trans ?_ (by with_reducible assumption) | refine Ext.alloc ?_ _ _ | refine Ext.drew ?_ | refine Ext.drewN ?_ _))))).mono ?_; rintro e w13 ⟨rfl, hdr⟩; have he13 := drew_ext hdr; clear hdr))
  rcases Nat.lt_or_ge gl gas with k9 | k9
  · have z12 : 0 < cmpI gas gl := (cmpI_p _ _).2 k9
    go_wp2_with (first | ((with_reducible (refine Veil.out ?_; apply wl_loadC onet26v)); (case hw => rfl); (case hx => rfl); (case hc => exact ((hbY8.ext (by (repeat (first | with_reducible exact Ext.refl _ | with_reducible assumption | refine Ext.trans ?_ (by with_reducible assumption) | refine Ext.alloc ?_ _ _ | refine Ext.drew ?_ | refine Ext.drewN ?_ _)))).cell (i := 81) (by decide)).trans (congrArg some hcgl))) | (go_at_call 42; refine (nNum O gl _ (hO8.ext (by (repeat (first | with_reducible exact Ext.refl _ | with_reducible assumption | refine Ext.trans ?_ (by with_reducible assumption) | refine Ext.alloc ?_ _ _ | refine Ext.drew ?_ | refine Ext.drewN ?_ _)))) (hgll)).mono ?_; rintro e w12 ⟨ra, rfl, hra, hea⟩) | (go_at_call 130; refine (nCmp O _ _ (gas) (gl) _ (rg8.ext (by (repeat (first | with_reducible exact Ext.refl _ | with_reducible assumption | refine Ext.trans ?_ (by with_reducible assumption) | refine Ext.alloc ?_ _ _ | refine Ext.drew ?_ | refine Ext.drewN ?_ _)))) (hra.ext (by (repeat (first | with_reducible exact Ext.refl _ | with_reducible assumption | refine Ext.trans ?_ (by with_reducible assumption) | refine Ext.alloc ?_ _ _ | refine Ext.drew ?_ | refine Ext.drewN ?_ _))))).mono ?_; rintro e w13 ⟨rfl, hdr⟩; have he13 := drew_ext hdr; clear hdr))
    have hv : st.verdict t = 9 := by rw [hV.out]; exact if_pos k9
    exact post_u8v (v := .int .u8 (9 : Nat)) rfl rfl ⟨by rw [hv], eF.trans (by (repeat (first | with_reducible exact Ext.refl _ | with_reducible assumption | refine Ext.trans ?_ (by with_reducible assumption) | refine Ext.alloc ?_ _ _ | refine Ext.drew ?_ | refine Ext.drewN ?_ _)))⟩
  have z12 : ¬ 0 < cmpI gas gl := fun q => by have := (cmpI_p _ _).1 q; omega
  have z12c : decide (0 < cmpI gas gl) = false := decide_eq_false z12
  rw [if_neg (by omega)] at hV
  go_upto_region 24 with (first | ((with_reducible (refine Veil.out ?_; apply wl_loadC onet26v)); (case hw => rfl); (case hx => rfl); (case hc => exact ((hbY8.ext (by (repeat (first | with_reducible exact Ext.refl _ | with_reducible assumption | refine Ext.trans ?_ (by with_reducible assumption) | refine Ext.alloc ?_ _ _ | refine Ext.drew ?_ | refine Ext.drewN ?_ _)))).cell (i := 81) (by decide)).trans (congrArg some hcgl))) | (go_at_call 42; refine (nNum O gl _ (hO8.ext (by (repeat (first | with_reducible exact Ext.refl _ | with_reducible assumption | refine Ext.trans ?_ (by with_reducible assumption) | refine Ext.alloc ?_ _ _ | refine Ext.drew ?_ | refine Ext.drewN ?_ _)))) (hgll)).mono ?_; rintro e w12 ⟨ra, rfl, hra, hea⟩) | (go_at_call 130; refine (nCmp O _ _ (gas) (gl) _ (rg8.ext (by (repeat (first | with_reducible exact Ext.refl _ | with_reducible assumption | refine Ext.trans ?_ (by with_reducible assumption) | refine Ext.alloc ?_ _ _ | refine Ext.drew ?_ | refine Ext.drewN ?_ _)))) (hra.ext (by (repeat (first | with_reducible exact Ext.refl _ | with_reducible assumption | refine Ext.trans ?_ (by with_reducible assumption) | refine Ext.alloc ?_ _ _ | refine Ext.drew ?_ | refine Ext.drewN ?_ _))))).mono ?_; rintro e w13 ⟨rfl, hdr⟩; have he13 := drew_ext hdr; clear hdr))
  rcases Nat.lt_or_ge bl need with k10 | k10
  · have z13 : cmpI bl need < 0 := (cmpI_n _ _).2 k10
    go_wp2_with (first | ((with_reducible (refine Veil.out ?_; apply wl_loadC onet96m)); (case hw => rfl); (case hx => rfl); (case hc => exact ((bA8.ext (by (repeat (first | with_reducible exact Ext.refl _ | with_reducible assumption | refine Ext.trans ?_ (by with_reducible assumption) | refine Ext.alloc ?_ _ _ | refine Ext.drew ?_ | refine Ext.drewN ?_ _)))).cell (i := 21) (by decide)).trans (congrArg some cA21))) | (go_at_call 130; refine (nCmp O _ _ (bl) (need) _ (n28.ext (by (repeat (first | with_reducible exact Ext.refl _ | with_reducible assumption | refine Ext.trans ?_ (by with_reducible assumption) | refine Ext.alloc ?_ _ _ | refine Ext.drew ?_ | refine Ext.drewN ?_ _)))) (hrn.ext (by (repeat (first | with_reducible exact Ext.refl _ | with_reducible assumption | refine Ext.trans ?_ (by with_reducible assumption) | refine Ext.alloc ?_ _ _ | refine Ext.drew ?_ | refine Ext.drewN ?_ _))))).mono ?_; rintro e w13 ⟨rfl, hdr⟩; have he13 := drew_ext hdr; clear hdr))
    have hv : st.verdict t = 10 := by rw [hV.out]; exact if_pos k10
    exact post_u8v (v := .int .u8 (10 : Nat)) rfl rfl ⟨by rw [hv], eF.trans (by (repeat (first | with_reducible exact Ext.refl _ | with_reducible assumption | refine Ext.trans ?_ (by with_reducible assumption) | refine Ext.alloc ?_ _ _ | refine Ext.drew ?_ | refine Ext.drewN ?_ _)))⟩
  have z13 : ¬ cmpI bl need < 0 := fun q => by have := (cmpI_n _ _).1 q; omega
  have z13c : decide (cmpI bl need < 0) = false := decide_eq_false z13
  rw [if_neg (by omega)] at hV
  go_upto_region 26 with (first | ((with_reducible (refine Veil.out ?_; apply wl_loadC onet96m)); (case hw => rfl); (case hx => rfl); (case hc => exact ((bA8.ext (by (repeat (first | with_reducible exact Ext.refl _ | with_reducible assumption | refine Ext.trans ?_ (by with_reducible assumption) | refine Ext.alloc ?_ _ _ | refine Ext.drew ?_ | refine Ext.drewN ?_ _)))).cell (i := 21) (by decide)).trans (congrArg some cA21))) | (go_at_call 130; refine (nCmp O _ _ (bl) (need) _ (n28.ext (by (repeat (first | with_reducible exact Ext.refl _ | with_reducible assumption | refine Ext.trans ?_ (by with_reducible assumption) | refine Ext.alloc ?_ _ _ | refine Ext.drew ?_ | refine Ext.drewN ?_ _)))) (hrn.ext (by (repeat (first | with_reducible exact Ext.refl _ | with_reducible assumption | refine Ext.trans ?_ (by with_reducible assumption) | refine Ext.alloc ?_ _ _ | refine Ext.drew ?_ | refine Ext.drewN ?_ _))))).mono ?_; rintro e w13 ⟨rfl, hdr⟩; have he13 := drew_ext hdr; clear hdr))
  rcases Nat.lt_or_ge most tip with k11 | k11
  · have z14 : 0 < cmpI tip most := (cmpI_p _ _).2 k11
    go_wp2_with (first | (go_at_call 43; refine (HTp8 _ (by (repeat (first | with_reducible exact Ext.refl _ | with_reducible assumption | refine Ext.trans ?_ (by with_reducible assumption) | refine Ext.alloc ?_ _ _ | refine Ext.drew ?_ | refine Ext.drewN ?_ _)))).mono ?_; rintro x w12 ⟨ra, rfl, hra, hea⟩) | (go_at_call 130; refine (nCmp O _ _ (tip) (most) _ (hra.ext (by (repeat (first | with_reducible exact Ext.refl _ | with_reducible assumption | refine Ext.trans ?_ (by with_reducible assumption) | refine Ext.alloc ?_ _ _ | refine Ext.drew ?_ | refine Ext.drewN ?_ _)))) (rm8.ext (by (repeat (first | with_reducible exact Ext.refl _ | with_reducible assumption | refine Ext.trans ?_ (by with_reducible assumption) | refine Ext.alloc ?_ _ _ | refine Ext.drew ?_ | refine Ext.drewN ?_ _))))).mono ?_; rintro e w13 ⟨rfl, hdr⟩; have he13 := drew_ext hdr; clear hdr))
    have hv : st.verdict t = 11 := by rw [hV.out]; exact if_pos k11
    exact post_u8v (v := .int .u8 (11 : Nat)) rfl rfl ⟨by rw [hv], eF.trans (by (repeat (first | with_reducible exact Ext.refl _ | with_reducible assumption | refine Ext.trans ?_ (by with_reducible assumption) | refine Ext.alloc ?_ _ _ | refine Ext.drew ?_ | refine Ext.drewN ?_ _)))⟩
  have z14 : ¬ 0 < cmpI tip most := fun q => by have := (cmpI_p _ _).1 q; omega
  have z14c : decide (0 < cmpI tip most) = false := decide_eq_false z14
  rw [if_neg (by omega)] at hV
  go_upto_region 28 with (first | (go_at_call 43; refine (HTp8 _ (by (repeat (first | with_reducible exact Ext.refl _ | with_reducible assumption | refine Ext.trans ?_ (by with_reducible assumption) | refine Ext.alloc ?_ _ _ | refine Ext.drew ?_ | refine Ext.drewN ?_ _)))).mono ?_; rintro x w12 ⟨ra, rfl, hra, hea⟩) | (go_at_call 130; refine (nCmp O _ _ (tip) (most) _ (hra.ext (by (repeat (first | with_reducible exact Ext.refl _ | with_reducible assumption | refine Ext.trans ?_ (by with_reducible assumption) | refine Ext.alloc ?_ _ _ | refine Ext.drew ?_ | refine Ext.drewN ?_ _)))) (rm8.ext (by (repeat (first | with_reducible exact Ext.refl _ | with_reducible assumption | refine Ext.trans ?_ (by with_reducible assumption) | refine Ext.alloc ?_ _ _ | refine Ext.drew ?_ | refine Ext.drewN ?_ _))))).mono ?_; rintro e w13 ⟨rfl, hdr⟩; have he13 := drew_ext hdr; clear hdr))
  rcases Nat.lt_or_ge most bf with k12 | k12
  · have z15 : cmpI most bf < 0 := (cmpI_n _ _).2 k12
    go_wp2_with (first | (go_at_call 79; refine (HBF8 _ (by (repeat (first | with_reducible exact Ext.refl _ | with_reducible assumption | refine Ext.trans ?_ (by with_reducible assumption) | refine Ext.alloc ?_ _ _ | refine Ext.drew ?_ | refine Ext.drewN ?_ _)))).mono ?_; rintro x w12 ⟨ra, rfl, hra, hea⟩) | (go_at_call 130; refine (nCmp O _ _ (most) (bf) _ (rm8.ext (by (repeat (first | with_reducible exact Ext.refl _ | with_reducible assumption | refine Ext.trans ?_ (by with_reducible assumption) | refine Ext.alloc ?_ _ _ | refine Ext.drew ?_ | refine Ext.drewN ?_ _)))) (hra.ext (by (repeat (first | with_reducible exact Ext.refl _ | with_reducible assumption | refine Ext.trans ?_ (by with_reducible assumption) | refine Ext.alloc ?_ _ _ | refine Ext.drew ?_ | refine Ext.drewN ?_ _))))).mono ?_; rintro e w13 ⟨rfl, hdr⟩; have he13 := drew_ext hdr; clear hdr))
    have hv : st.verdict t = 12 := by rw [hV.out]; exact if_pos k12
    exact post_u8v (v := .int .u8 (12 : Nat)) rfl rfl ⟨by rw [hv], eF.trans (by (repeat (first | with_reducible exact Ext.refl _ | with_reducible assumption | refine Ext.trans ?_ (by with_reducible assumption) | refine Ext.alloc ?_ _ _ | refine Ext.drew ?_ | refine Ext.drewN ?_ _)))⟩
  have z15 : ¬ cmpI most bf < 0 := fun q => by have := (cmpI_n _ _).1 q; omega
  have z15c : decide (cmpI most bf < 0) = false := decide_eq_false z15
  rw [if_neg (by omega)] at hV
  go_wp2_with (first | (go_at_call 79; refine (HBF8 _ (by (repeat (first | with_reducible exact Ext.refl _ | with_reducible assumption | refine Ext.trans ?_ (by with_reducible assumption) | refine Ext.alloc ?_ _ _ | refine Ext.drew ?_ | refine Ext.drewN ?_ _)))).mono ?_; rintro x w12 ⟨ra, rfl, hra, hea⟩) | (go_at_call 130; refine (nCmp O _ _ (most) (bf) _ (rm8.ext (by (repeat (first | with_reducible exact Ext.refl _ | with_reducible assumption | refine Ext.trans ?_ (by with_reducible assumption) | refine Ext.alloc ?_ _ _ | refine Ext.drew ?_ | refine Ext.drewN ?_ _)))) (hra.ext (by (repeat (first | with_reducible exact Ext.refl _ | with_reducible assumption | refine Ext.trans ?_ (by with_reducible assumption) | refine Ext.alloc ?_ _ _ | refine Ext.drew ?_ | refine Ext.drewN ?_ _))))).mono ?_; rintro e w13 ⟨rfl, hdr⟩; have he13 := drew_ext hdr; clear hdr))
  have hv : st.verdict t = 0 := hV.out
  exact post_u8v (v := .int .u8 (0 : Nat)) rfl rfl ⟨by rw [hv], eF.trans (by (repeat (first | with_reducible exact Ext.refl _ | with_reducible assumption | refine Ext.trans ?_ (by with_reducible assumption) | refine Ext.alloc ?_ _ _ | refine Ext.drew ?_ | refine Ext.drewN ?_ _)))⟩
end
end Go.Proofs.YgvahwGreat
