import Derived.Test.YgvahwGreatYbG
import Derived.Test.YgvahwGreatYv4
namespace Go.Proofs.YgvahwGreat
open Go.RowKit
set_option linter.unusedSimpArgs false
theorem onet26b : OneT 24 := oneT_of (by kernel_rfl) (by kernel_rfl)
theorem av0L : Value.agg #[.int .u8 0, .int .u8 0, .int .u8 0, .int .u8 0, .int .u8 0, .int .u8 0, .int .u8 0, .int .u8 0, .int .u8 0, .int .u8 0, .int .u8 0, .int .u8 0, .int .u8 0, .int .u8 0, .int .u8 0, .int .u8 0, .int .u8 0, .int .u8 0, .int .u8 0, .int .u8 0] = Value.agg (av 0) := by kernel_rfl
theorem b25z : ∀ w, (Instr.build 31 ([] : List (Nat × Value)).toArray).run Hvah.prog w = .ok (.agg (av 0)) w := by
  intro w; kernel_rfl
theorem begin_end {st : ASt} {t : ATx} {tg md ap1 bl : Nat} {og : Nat → Nat → Nat} (h1 : (if t.create then createAddrA t.from_ t.nonce else t.to_) = tg) (h2 : (if t.create then tg else 0) = md) (h3 : st.applied + 1 = ap1) (h4 : og = st.now.slot) (h5 : bl = st.now.bal t.from_) : st.begin_ t = bgEnd ({ ({ st with orig := lookT [], frames := [], ret := [], applied := ap1, limit := t.gas, txGas := t.gas - t.intrinsic, price := st.priceOf t, origin := t.from_, made := md } : ASt) with orig := og, now := (((((((st.now.setNonce t.from_ (t.nonce + 1)).setBal t.from_ (bl - t.gas * st.priceOf t)).warm t.from_).warm st.env.coinbase).warm tg).warm 4).warm 5).warmList t.access } : ASt) t tg := by
  subst h3 h4 h5 h2
  unfold ASt.begin_ ASt.opened
  simp only [h1]
  rfl
section
variable {Oz : Nat → Prop} {w : World} {Y : Nat} {c : Nat → Value} {W : YW} {st : ASt} {tot T : Nat} {r : Array Value} {t : ATx}
theorem rowOf_tx (hr : r.size = 174) : rowOf (cf r) 0 174 = r := by
  apply Array.ext_getElem?
  intro i
  rw [rowOf_get]
  by_cases q : i < 174
  · rw [if_pos q, Nat.zero_add, get_cf (by rw [hr]; exact q)]
  · rw [if_neg q, Array.getElem?_eq_none (by rw [hr]; omega)]
set_option maxRecDepth 100000 in
set_option maxHeartbeats 6400000 in
theorem yBeginNo (h : YI Oz w Y c W st tot) (hr : r.size = 174) (hT : TxC Oz w (cf r) t) (hap : st.applied < 4) (hv : st.verdict t ≠ 0) : Calls Hvah.prog 29 #[.pointer (some ⟨Y, 0, none⟩), .agg r] w fun e w' => e = .returned (.int .u8 (st.verdict t : Nat)) ∧ Ext w w' := by
  have hrow := rowOf_tx hr
  have HV := fun W' (hW : Ext w W') => yVerdict (h.ext hW) hr (hT.ext hW) hap
  obtain ⟨vd, hvd⟩ : ∃ x, Hid (st.verdict t = x) := ⟨_, rfl⟩
  rw [hvd.out] at HV hv ⊢
  have z1 : ¬ (vd : Int) = 0 := by omega
  have z2 : decide ((vd : Int) = 0) = false := decide_eq_false z1
  go_enter Hvah.func29, Hvah.ntmps29
  go_wp2_with (first | ((with_reducible (refine Veil.out ?_; apply wl_boxB)); (case hx => rfl); (case hn => exact hr); rintro BT W1 e1 b1 g1) | ((with_reducible (refine Veil.out ?_; apply wl_loadRow rt35y)); (case hx => rfl); (case hB => exact b1); (case hi => decide); rw [hrow]) | (go_at_call 52; refine (HV _ (by (repeat (first | with_reducible exact Ext.refl _ | with_reducible assumption | refine Ext.trans ?_ (by with_reducible assumption) | refine Ext.alloc ?_ _ _ | refine Ext.drew ?_ | refine Ext.drewN ?_ _)))).mono ?_; rintro e w2 ⟨rfl, he2⟩))
  exact post_u8b (v := .int .u8 (vd : Nat)) rfl rfl ⟨rfl, e1.trans he2⟩
set_option maxRecDepth 100000 in
set_option maxHeartbeats 6400000 in
theorem yBegin (HLG : ∀ {O T : Nat → Prop} {w : World} {v : Value} {l : List ALog}, Small O w → LogL T O w v l → l.length ≤ 100000 → Calls Hvah.prog 80 #[v] w fun e w' => ∃ r, e = .returned r ∧ GRow 141 22 (LgC O w') (fun b => ¬ O b) w' r l ∧ Full r ∧ Ext w w') (HCA : ∀ {O : Nat → Prop} {w : World} {cr n : Nat} {vs : Value}, cr < 2 ^ 160 → Small O w → NV O w vs n → n < 18446744073709551616 → Calls Hvah.prog 54 #[.agg (av cr), vs] w fun e w' => e = .returned (.agg (av (createAddrA cr n))) ∧ Ext w w') (h : YI Oz w Y c W st tot) (h10 : c 10 = .slice none 0 0) (hr : r.size = 174) (hT : TxC Oz w (cf r) t) (hv0 : st.verdict t = 0) (hi : WIdle T st.now) (hTl : T < P256) (hsz : W.siz ≤ 70000) : Calls Hvah.prog 29 #[.pointer (some ⟨Y, 0, none⟩), .agg r] w fun e w' => e = .returned (.int .u8 (0 : Nat)) ∧ ∃ O' TL' F' n' c' d' W' L', YZ O' TL' w' Y F' n' c' d' W' (startL W.accts) (st.begin_ t) tot L' ∧ W'.siz ≤ W.siz + 100 ∧ (∀ y ∈ L', y.sv.siz ≤ W.siz + 100) ∧ (∀ b, b < w.heap.size → (O' b ↔ Oz b)) ∧ Mod Oz w w' := by
  have hv := verdict_zero hv0
  have hrow := rowOf_tx hr
  have hap := hv.ap
  have hlok : t.access.length ≤ 16 ∧ keysN t.access ≤ 64 := of_decide_eq_true hv.list
  have hYl := h.bY.lt
  go_enter Hvah.func29, Hvah.ntmps29
  go_upto_region 1 with ((with_reducible (refine Veil.out ?_; apply wl_boxB)); (case hx => rfl); (case hn => exact hr); rintro BT W1 e1 b1 g1)
  obtain ⟨O1, eO⟩ : ∃ X, X = Wd Oz BT := ⟨_, rfl⟩
  have h1 : YI O1 W1 Y c W st tot := by rw [eO]; exact h.wd e1 b1.lt g1
  have hT1 : TxC O1 W1 (cf r) t := by rw [eO]; exact (hT.wd g1).ext e1
  have hOB : O1 BT := by rw [eO]; exact Or.inr rfl
  have hOz : Hid (∀ b, b < w.heap.size → (O1 b ↔ Oz b)) := fun b hb => by rw [eO]; exact ⟨fun q => q.elim id (fun q => by omega), Or.inl⟩
  have hOYz : Oz Y := h.oY
  have nTY : BT ≠ Y := fun q => by omega
  have hgl := hT.gLt
  clear eO h hT
  have HV := fun W' (hW : Ext W1 W') => yVerdict (h1.ext hW) hr (hT1.ext hW) hap
  rw [hv0] at HV
  go_upto_region 5 with (first | ((with_reducible (refine Veil.out ?_; apply wl_loadRow rt35y)); (case hx => rfl); (case hB => exact b1); (case hi => decide); rw [hrow]) | (go_at_call 52; refine (HV _ (by (repeat (first | with_reducible exact Ext.refl _ | with_reducible assumption | refine Ext.trans ?_ (by with_reducible assumption) | refine Ext.alloc ?_ _ _ | refine Ext.drew ?_ | refine Ext.drewN ?_ _)))).mono ?_; rintro e w2 ⟨rfl, he2⟩))
  have h2 := h1.ext he2
  have b2 := b1.ext he2
  have hT2 := hT1.ext he2
  have e2w : Ext w w2 := e1.trans he2
  clear HV h1 b1 hT1
  obtain ⟨z8, hz81, hz82⟩ := z108m
  have hfl := hT2.fLt
  have hfr := hT2.from_
  refine w_ext ?_
  rintro W0 hW0
  refine' joinMc (P := _) (Fc := fun BA W8 u1 u2 u3 u4 => Ext W0 W8 ∧ W0.heap.size ≤ BA ∧ Blk W8 BA 24 121 (layv (cf z8) 0 (acR t.from_ u1 u2 u3 u4)) ∧ NV O1 W8 u1 (W.acct t.from_).nonce ∧ NV O1 W8 u2 (W.acct t.from_).bal) (fun key => _) _
  rotate_left
  refine wp_region_held_drew (S := fun w' => Ext W0 w') (by kernel_rfl) (Ext.refl _).drew (fun hHeld => ?_)
  have HH : Hid (Ext W0 _) := hHeld
  clear hHeld
  refine wpAnyH_take (i := 0) (v := ?_) rfl (by kernel_rfl) (by kernel_rfl) (by kernel_rfl) (fun _ _ _ h => h) (Or.inl ⟨by rfl, ?_⟩) HH.out ?_
  rotate_left
  · intro w hSw; go_simp; try with_reducible rfl
  change wpAnyH _ _ _ _ _ _ _ (Act.put _ (some 27) _) _
  simp only [Act.put, List.setIfInBounds_toArray, List.set_cons_zero, List.set_cons_succ]
  refine wpAnyH_take (i := 1) (v := ?_) rfl (by kernel_rfl) (by kernel_rfl) (by kernel_rfl) (fun _ _ _ h => h) (Or.inl ⟨by rfl, ?_⟩) HH.out ?_
  rotate_left
  · intro w hSw; go_simp; try with_reducible rfl
  change wpAnyH _ _ _ _ _ _ _ (Act.put _ (some 28) _) _
  simp only [Act.put, List.setIfInBounds_toArray, List.set_cons_zero, List.set_cons_succ]
  refine wpAnyH_take (i := 2) (v := ?_) rfl (by kernel_rfl) (by kernel_rfl) (by kernel_rfl) (fun _ _ _ h => h) (Or.inl ⟨by rfl, ?_⟩) HH.out ?_
  rotate_left
  · intro w hSw; go_simp; try with_reducible rfl
  change wpAnyH _ _ _ _ _ _ _ (Act.put _ (some 29) _) _
  simp only [Act.put, List.setIfInBounds_toArray, List.set_cons_zero, List.set_cons_succ]
  refine wpAnyH_take (i := 3) (v := ?_) rfl (by kernel_rfl) (by kernel_rfl) (by kernel_rfl) (fun _ _ _ h => h) (Or.inl ⟨by rfl, ?_⟩) HH.out ?_
  rotate_left
  · intro w hSw; go_simp; try with_reducible rfl
  change wpAnyH _ _ _ _ _ _ _ (Act.put _ (some 30) _) _
  simp only [Act.put, List.setIfInBounds_toArray, List.set_cons_zero, List.set_cons_succ]
  refine wpAnyH_take (i := 4) rfl (by kernel_rfl) (by kernel_rfl) (by kernel_rfl) (fun _ _ _ h => h) (yields_A (by rfl) rfl rfl (fun w hSw => b2.ext (hW0.trans hSw)) hfr hfl (by decide)) HH.out ?_
  change wpAnyH _ _ _ _ _ _ _ (Act.put _ (some 31) _) _
  simp only [Act.put, List.setIfInBounds_toArray, List.set_cons_zero, List.set_cons_succ]
  refine wpAnyH_ready (rs := [5, 6]) (by kernel_rfl) (by simp) ?_
  refine (AllReadyH.cons rfl (fun K hK => ?_) (AllReadyH.cons rfl (fun K hK => ?_) AllReadyH.nil))
  go_simp
  go_at_call 53; refine (iAcc (h2.bY.ext (by (repeat (first | with_reducible exact Ext.refl _ | with_reducible assumption | refine Ext.trans ?_ (by with_reducible assumption) | refine Ext.alloc ?_ _ _ | refine Ext.drew ?_ | refine Ext.drewN ?_ _)))) (AccL.ext h2.wc.accts (by (repeat (first | with_reducible exact Ext.refl _ | with_reducible assumption | refine Ext.trans ?_ (by with_reducible assumption) | refine Ext.alloc ?_ _ _ | refine Ext.drew ?_ | refine Ext.drewN ?_ _)))) h2.lim.accts t.from_ hfl).mono ?_; rintro e w6 ⟨u1, u2, u3, u4, rfl, hp, ⟨f1, f2, f3, f4, f5, f6⟩, he⟩
  refine hK.out _ _ ?_ (fun hHeld => ?_)
  · first | exact HH.out.trans hmY | exact HH.out.trans he | exact HH.out
  clear hK K HH
  have HH : Hid (Ext W0 _) := hHeld
  clear hHeld
  refine wpAnyH_ready (rs := [6]) (by kernel_rfl) (by simp) ?_
  refine AllReadyH.cons rfl (fun K hK => ?_) AllReadyH.nil
  refine step_any rfl (op_alloc rfl hz81 hz82 ?_)
  rintro BA W7 e7 b7 g7
  refine hK.out _ _ ?_ (fun hHeld => ?_)
  · exact HH.out.trans e7
  clear hK K HH
  have HH : Hid (Ext W0 _) := hHeld
  clear hHeld
  change wpAnyH _ _ _ _ _ _ _ (Act.put _ (some 7) _) _
  simp only [Act.put, List.setIfInBounds_toArray, List.set_cons_zero, List.set_cons_succ]
  refine wpAnyH_ready (rs := [7]) (by kernel_rfl) (by simp) ?_
  refine AllReadyH.cons rfl (fun K hK => ?_) AllReadyH.nil
  refine step_any rfl (op_storeRow rfl rt108m rfl rfl (acR_size hfl _ _ _ _) (acR_one hp.nonce.one hp.bal.one hp.code.one hp.slots.one) (b7.ext (by (repeat (first | with_reducible exact Ext.refl _ | with_reducible assumption | refine Ext.trans ?_ (by with_reducible assumption) | refine Ext.alloc ?_ _ _ | refine Ext.drew ?_ | refine Ext.drewN ?_ _)))) (by decide) ?_)
  rintro W8 b8 m8
  refine hK.out _ _ ?_ (fun hHeld => ?_)
  · exact Ext.trans_mod HH.out m8 (fun q hq => by have hq2 : q = BA := hq; rw [hq2]; exact Nat.le_trans (Ext.size (by (repeat (first | with_reducible exact Ext.refl _ | with_reducible assumption | refine Ext.trans ?_ (by with_reducible assumption) | refine Ext.alloc ?_ _ _ | refine Ext.drew ?_ | refine Ext.drewN ?_ _)))) g7)
  clear hK K HH
  have HH : Hid (Ext W0 _) := hHeld
  clear hHeld
  change wpAnyH _ _ _ _ _ _ _ (Act.put _ none _) _
  simp only [Act.put, List.setIfInBounds_toArray, List.set_cons_zero, List.set_cons_succ]
  refine wpAnyH_done (by kernel_rfl) ?_ _
  (have hpX : AcP (Wd O1 BA) W8 (W.acct t.from_) u1 u2 u3 u4 := (by first | exact (AcP.ext (O := Wd O1 BA) hp (by (repeat (first | with_reducible exact Ext.refl _ | with_reducible assumption | refine Ext.trans ?_ (by with_reducible assumption) | refine Ext.alloc ?_ _ _ | refine Ext.drew ?_ | refine Ext.drewN ?_ _)))).keep m8 (fun b hb q => hb (Or.inr q)) | exact ((hp.widen (Nat.le_trans (Ext.size (by (repeat (first | with_reducible exact Ext.refl _ | with_reducible assumption | refine Ext.trans ?_ (by with_reducible assumption) | refine Ext.alloc ?_ _ _ | refine Ext.drew ?_ | refine Ext.drewN ?_ _)))) g7)).ext (by (repeat (first | with_reducible exact Ext.refl _ | with_reducible assumption | refine Ext.trans ?_ (by with_reducible assumption) | refine Ext.alloc ?_ _ _ | refine Ext.drew ?_ | refine Ext.drewN ?_ _)))).keep m8 (fun b hb q => hb (Or.inr q))); exact key BA W8 u1 u2 u3 u4 ⟨HH.out, Nat.le_trans (Ext.size (by (repeat (first | with_reducible exact Ext.refl _ | with_reducible assumption | refine Ext.trans ?_ (by with_reducible assumption) | refine Ext.alloc ?_ _ _ | refine Ext.drew ?_ | refine Ext.drewN ?_ _)))) g7, b8, hpX.nonce.narrow, hpX.bal.narrow⟩)
  refine step_any rfl (op_alloc rfl hz81 hz82 ?_)
  rintro BA W7 e7 b7 g7
  refine hK.out _ _ ?_ (fun hHeld => ?_)
  · exact HH.out.trans e7
  clear hK K HH
  have HH : Hid (Ext W0 _) := hHeld
  clear hHeld
  change wpAnyH _ _ _ _ _ _ _ (Act.put _ (some 7) _) _
  simp only [Act.put, List.setIfInBounds_toArray, List.set_cons_zero, List.set_cons_succ]
  refine wpAnyH_ready (rs := [5]) (by kernel_rfl) (by simp) ?_
  refine AllReadyH.cons rfl (fun K hK => ?_) AllReadyH.nil
  go_simp
  go_at_call 53; refine (iAcc (h2.bY.ext (by (repeat (first | with_reducible exact Ext.refl _ | with_reducible assumption | refine Ext.trans ?_ (by with_reducible assumption) | refine Ext.alloc ?_ _ _ | refine Ext.drew ?_ | refine Ext.drewN ?_ _)))) (AccL.ext (AccL.widenI (B := BA) h2.wc.accts (Nat.le_trans (Ext.size (show Ext w2 _ by (repeat (first | with_reducible exact Ext.refl _ | with_reducible assumption | refine Ext.trans ?_ (by with_reducible assumption) | refine Ext.alloc ?_ _ _ | refine Ext.drew ?_ | refine Ext.drewN ?_ _)))) g7)) (by (repeat (first | with_reducible exact Ext.refl _ | with_reducible assumption | refine Ext.trans ?_ (by with_reducible assumption) | refine Ext.alloc ?_ _ _ | refine Ext.drew ?_ | refine Ext.drewN ?_ _)))) h2.lim.accts t.from_ hfl).mono ?_; rintro e w6 ⟨u1, u2, u3, u4, rfl, hp, ⟨f1, f2, f3, f4, f5, f6⟩, he⟩
  refine hK.out _ _ ?_ (fun hHeld => ?_)
  · first | exact HH.out.trans hmY | exact HH.out.trans he | exact HH.out
  clear hK K HH
  have HH : Hid (Ext W0 _) := hHeld
  clear hHeld
  refine wpAnyH_ready (rs := [7]) (by kernel_rfl) (by simp) ?_
  refine AllReadyH.cons rfl (fun K hK => ?_) AllReadyH.nil
  refine step_any rfl (op_storeRow rfl rt108m rfl rfl (acR_size hfl _ _ _ _) (acR_one hp.nonce.one hp.bal.one hp.code.one hp.slots.one) (b7.ext (by (repeat (first | with_reducible exact Ext.refl _ | with_reducible assumption | refine Ext.trans ?_ (by with_reducible assumption) | refine Ext.alloc ?_ _ _ | refine Ext.drew ?_ | refine Ext.drewN ?_ _)))) (by decide) ?_)
  rintro W8 b8 m8
  refine hK.out _ _ ?_ (fun hHeld => ?_)
  · exact Ext.trans_mod HH.out m8 (fun q hq => by have hq2 : q = BA := hq; rw [hq2]; exact Nat.le_trans (Ext.size (by (repeat (first | with_reducible exact Ext.refl _ | with_reducible assumption | refine Ext.trans ?_ (by with_reducible assumption) | refine Ext.alloc ?_ _ _ | refine Ext.drew ?_ | refine Ext.drewN ?_ _)))) g7)
  clear hK K HH
  have HH : Hid (Ext W0 _) := hHeld
  clear hHeld
  change wpAnyH _ _ _ _ _ _ _ (Act.put _ none _) _
  simp only [Act.put, List.setIfInBounds_toArray, List.set_cons_zero, List.set_cons_succ]
  refine wpAnyH_done (by kernel_rfl) ?_ _
  (have hpX : AcP (Wd O1 BA) W8 (W.acct t.from_) u1 u2 u3 u4 := (by first | exact (AcP.ext (O := Wd O1 BA) hp (by (repeat (first | with_reducible exact Ext.refl _ | with_reducible assumption | refine Ext.trans ?_ (by with_reducible assumption) | refine Ext.alloc ?_ _ _ | refine Ext.drew ?_ | refine Ext.drewN ?_ _)))).keep m8 (fun b hb q => hb (Or.inr q)) | exact ((hp.widen (Nat.le_trans (Ext.size (by (repeat (first | with_reducible exact Ext.refl _ | with_reducible assumption | refine Ext.trans ?_ (by with_reducible assumption) | refine Ext.alloc ?_ _ _ | refine Ext.drew ?_ | refine Ext.drewN ?_ _)))) g7)).ext (by (repeat (first | with_reducible exact Ext.refl _ | with_reducible assumption | refine Ext.trans ?_ (by with_reducible assumption) | refine Ext.alloc ?_ _ _ | refine Ext.drew ?_ | refine Ext.drewN ?_ _)))).keep m8 (fun b hb q => hb (Or.inr q))); exact key BA W8 u1 u2 u3 u4 ⟨HH.out, Nat.le_trans (Ext.size (by (repeat (first | with_reducible exact Ext.refl _ | with_reducible assumption | refine Ext.trans ?_ (by with_reducible assumption) | refine Ext.alloc ?_ _ _ | refine Ext.drew ?_ | refine Ext.drewN ?_ _)))) g7, b8, hpX.nonce.narrow, hpX.bal.narrow⟩)
  rintro BA W8 u1 u2 u3 u4 ⟨hE8, gA, bA, n1, n2⟩
  have eA : Ext w2 W8 := hW0.trans hE8
  have cA20 : layv (cf z8) 0 (acR t.from_ u1 u2 u3 u4) 20 = u1 := by
    have := layv_in (cf z8) 0 (acR t.from_ u1 u2 u3 u4) (j := 20) (by rw [acR_size hfl]; decide)
    rw [Nat.zero_add] at this
    rw [this]; exact acR_n hfl u1 u2 u3 u4
  have cA21 : layv (cf z8) 0 (acR t.from_ u1 u2 u3 u4) 21 = u2 := by
    have := layv_in (cf z8) 0 (acR t.from_ u1 u2 u3 u4) (j := 21) (by rw [acR_size hfl]; decide)
    rw [Nat.zero_add] at this
    rw [this]; exact acR_b hfl u1 u2 u3 u4
  obtain ⟨cA, hcA⟩ : ∃ x, Hid (layv (cf z8) 0 (acR t.from_ u1 u2 u3 u4) = x) := ⟨_, rfl⟩
  rw [hcA.out] at bA cA20 cA21
  rw [← cA20] at n1
  rw [← cA21] at n2
  have h8 := h2.ext eA
  have bT8 := b2.ext eA
  have hT8 := hT2.ext eA
  have e8w : Ext w W8 := e2w.trans eA
  have nAY : BA ≠ Y := fun q => by have := h2.bY.lt; have := hW0.size; omega
  have hto := hT8.to_
  have htl := hT8.tLt
  have hns : (W.acct t.from_).nonce = t.nonce := by have := hv.nonce; rw [h8.now] at this; exact this.symm
  rw [hns] at n1
  clear hE8 gA hW0 hcA cA20 cA21 hz81 hz82 h2 b2 hT2 eA he2
  go_upto_region 6 with (fail)
  go_upto_region 7 with (first | ((with_reducible (refine Veil.out ?_; apply wl_loadA)); (case hx => rfl); (case hB => exact bT8); (case hA => exact hto); (case hs => exact htl); (case ho => decide)) | ((with_reducible (refine Veil.out ?_; apply wl_allocA)); rintro B8 W9 c9 e9 b9 _ g9) | ((with_reducible (refine Veil.out ?_; apply wl_storeA)); (case hx => rfl); (case hy => rfl); (case hv => exact htl); (case hB => exact b9); (case hi => decide); rintro W10 c10 b10 a10 _ m10))
  have hE10 : Ext W8 W10 := Ext.trans_mod e9 m10 (fun q hq => by have hq2 : q = B8 := hq; rw [hq2]; exact g9)
  have e8s := e8w.size
  obtain ⟨O, eO⟩ : ∃ X, X = Wd O1 B8 := ⟨_, rfl⟩
  have h10' : YI O W10 Y c W st tot := by rw [eO]; exact h8.wd hE10 b10.lt g9
  have bT10 := bT8.ext hE10
  have hT10 : TxC O W10 (cf r) t := by rw [eO]; exact (hT8.wd g9).ext hE10
  have bA10 := bA.ext hE10
  have n110 : NV O W10 (cA 20) t.nonce := by rw [eO]; exact (n1.widen g9).ext hE10
  have n210 : NV O W10 (cA 21) (W.acct t.from_).bal := by rw [eO]; exact (n2.widen g9).ext hE10
  have hO8 : O B8 := by rw [eO]; exact Or.inr rfl
  have hOT : O BT := by rw [eO]; exact Or.inl hOB
  have hOzz : Hid (∀ b, b < w.heap.size → (O b ↔ Oz b)) := fun b hb => by
    rw [eO]
    have hb8 : b < W8.heap.size := Nat.lt_of_lt_of_le hb e8w.size
    exact Iff.trans ⟨fun q => q.elim id (fun q => by omega), Or.inl⟩ (hOz.out b hb)
  clear eO hOz hOB
  have e10w := e8w.trans hE10
  have n8Y : B8 ≠ Y := fun q => by have := h8.bY.lt; omega
  have n8A : B8 ≠ BA := fun q => by have := bA.lt; omega
  have n8T : B8 ≠ BT := fun q => by have := bT8.lt; omega
  clear e9 b9 m10 h8 bT8 hT8 bA n1 n2 hE10 e8w
  have hz160 : (0 : Nat) < 2 ^ 160 := by decide
  go_upto_region 8 with (first | ((with_reducible (refine Veil.out ?_; apply wl_buildV b25z)); (case he => rfl)) | ((with_reducible (refine Veil.out ?_; apply wl_storeA (v := 0))); (case hx => rfl); (case hy => first | exact (show _ = Value.agg (av 0) from av0L) | rfl); (case hv => exact hz160); (case hB => exact h10'.bY); (case hi => decide); rintro W11 c11 b11 a11 k11 m11))
  go_upto_region 9 with ((with_reducible (refine Veil.out ?_; apply wl_storeC onet101b)); (case hx => rfl); (case hy => rfl); (case h1 => rfl); (case hB => exact b11); (case hi => decide); rintro W12 b12 m12)
  have m12' : Mod (· = Y) W10 W12 := m11.trans m12
  obtain ⟨c12, b12', k12, k12s⟩ : ∃ f, Blk W12 Y 179 118 f ∧ (∀ j, j ≠ 9 → f j = c11 j) ∧ f 9 = .slice none 0 0 := ⟨_, b12, fun j hj => updv_ne _ _ hj, updv_same _ _ _⟩
  replace b12 := b12'
  clear b12'
  have a12 : AAt c12 39 0 := a11.same hz160 (fun j hj => k12 _ (by omega))
  have b812 := b10.mod m12' n8Y
  have bT12 := bT10.mod m12' nTY
  have bA12 := bA10.mod m12' nAY
  clear m11 m12 b11 a11
  obtain ⟨cr, hcr⟩ : ∃ x, Hid (t.create = x) := ⟨_, rfl⟩
  have hcc : cf r 40 = .bool cr := by rw [← hcr.out]; exact hT10.create
  obtain ⟨tg, htg⟩ : ∃ x, Hid ((if t.create then createAddrA t.from_ t.nonce else t.to_) = x) := ⟨_, rfl⟩
  obtain ⟨md, hmd⟩ : ∃ x, Hid ((if t.create then tg else 0) = x) := ⟨_, rfl⟩
  have htgl : tg < 2 ^ 160 := by
    rw [← htg.out]
    split
    · exact Nat.mod_lt _ (by decide)
    · exact htl
  have hmdl : md < 2 ^ 160 := by
    rw [← hmd.out]
    split
    · exact htgl
    · decide
  have hnl := hT10.nLt
  have hOY : O Y := h10'.oY
  have n112 := n110.keep m12' (fun b hb q => hb (q ▸ hOY))
  have n212 := n210.keep m12' (fun b hb q => hb (q ▸ hOY))
  have sm12 : Small O W12 := fun b hb => Nat.lt_of_lt_of_le (h10'.small b hb) m12'.size
  go_upto_if 43 with ((with_reducible (refine Veil.out ?_; apply wl_loadC onet4b)); (case hw => rfl); (case hx => rfl); (case hc => exact (bT12.cell (i := 40) (by decide)).trans (congrArg some hcc)))
  try simp only [Act.put, List.setIfInBounds_toArray, List.set_cons_zero, List.set_cons_succ]
  go_cut [] (fun wx => ∃ cx cy, Blk wx B8 20 31 cx ∧ AAt cx 0 tg ∧ Blk wx Y 179 118 cy ∧ AAt cy 39 md ∧ (∀ j, j < 39 ∨ 59 ≤ j → cy j = c12 j) ∧ Mod (fun b => b = Y ∨ b = B8) W12 wx)
  case first =>
    cases cr with
    | false =>
      have e1 : tg = t.to_ := by rw [← htg.out, hcr.out]; rfl
      have e2 : md = 0 := by rw [← hmd.out, hcr.out]; rfl
      go_wp2
      go_meet
      case rel => exact ⟨c10, c12, b812, by rw [e1]; exact a10, b12, by rw [e2]; exact a12, fun _ _ => rfl, Mod.refl _ _⟩
    | true =>
      have e1 : createAddrA t.from_ t.nonce = tg := by rw [← htg.out, hcr.out]; rfl
      have e2 : md = tg := by rw [← hmd.out, hcr.out]; rfl
      have HC2 := fun W' (hW : Ext W12 W') => HCA (O := O) hfl (sm12.ext hW) (n112.ext hW) hnl
      rw [e1] at HC2
      go_wp2_with (first | ((with_reducible (refine Veil.out ?_; apply wl_loadA (s := t.from_))); (case hx => rfl); (case hB => exact bT12); (case hA => exact hfr); (case hs => exact hfl); (case ho => decide)) | ((with_reducible (refine Veil.out ?_; apply wl_loadB onet96b)); (case hx => rfl); (case hB => exact bA12); (case hi => decide)) | (go_at_call 54; refine (HC2 _ (by (repeat (first | with_reducible exact Ext.refl _ | with_reducible assumption | refine Ext.trans ?_ (by with_reducible assumption) | refine Ext.alloc ?_ _ _ | refine Ext.drew ?_ | refine Ext.drewN ?_ _)))).mono ?_; rintro e w13 ⟨rfl, he13⟩) | ((with_reducible (refine Veil.out ?_; apply wl_storeA)); (case hx => rfl); (case hy => rfl); (case hv => exact htgl); (case hB => exact b812.ext he13); (case hi => decide); rintro W14 c14 b14 a14 _ m14) | ((with_reducible (refine Veil.out ?_; apply wl_loadA (s := tg))); (case hx => rfl); (case hB => exact b14); (case hA => exact a14); (case hs => exact htgl); (case ho => decide)) | ((with_reducible (refine Veil.out ?_; apply wl_storeA)); (case hx => rfl); (case hy => rfl); (case hv => exact htgl); (case hB => exact (b12.ext he13).mod m14 (fun q => n8Y q.symm)); (case hi => decide); rintro W15 c15 b15 a15 k15 m15))
      go_meet
      case rel => exact ⟨c14, c15, b14.mod m15 n8Y, a14, b15, by rw [e2]; exact a15, fun j hj => k15 j (by omega), ((he13.mod _).trans (m14.sub (fun b hb => Or.inr hb))).trans (m15.sub (fun b hb => Or.inl hb))⟩
  case rest =>
  obtain ⟨cx, cy, bx, ax, by_, ay, ky, my⟩ := hcut
  obtain ⟨W16, eW16⟩ : ∃ X, X = wc := ⟨_, rfl⟩
  subst eW16
  have m16 : Mod (fun b => b = Y ∨ b = B8) W10 W16 := (m12'.sub (fun b hb => Or.inl hb)).trans my
  have hsYB : ∀ b, ¬ O b → ¬ (b = Y ∨ b = B8) := fun b hb q => q.elim (fun q => hb (q ▸ hOY)) (fun q => hb (q ▸ hO8))
  have bT16 := bT12.mod my (fun q => q.elim nTY (fun q => n8T q.symm))
  have bA16 := bA12.mod my (fun q => q.elim nAY (fun q => n8A q.symm))
  have n116 := n112.keep my hsYB
  have n216 := n212.keep my hsYB
  have hT16 : TxC O W16 (cf r) t := hT10.keep2 m16 hsYB
  have sm16 : Small O W16 := fun b hb => Nat.lt_of_lt_of_le (h10'.small b hb) m16.size
  have hap13 : c 13 = .int .u8 (st.applied : Nat) := h10'.applied
  have ky2 : ∀ j, j ≠ 9 → j < 39 ∨ 59 ≤ j → cy j = c j := fun j h9 hj => by rw [ky j hj, k12 j h9]; exact k11 j (by omega)
  have cy9 : cy 9 = .slice none 0 0 := by rw [ky 9 (by decide)]; exact k12s
  have cy13 : cy 13 = .int .u8 (st.applied : Nat) := by rw [ky2 13 (by decide) (by decide)]; exact hap13
  have env16 : EnvC O W16 cy 59 st.env := h10'.env.same (fun j hj _ => ky2 j (by omega) (by omega)) (fun _ _ q => q.keep m16 hsYB)
  have hM16 : Mod (fun b => b = Y ∨ b = B8) W10 W16 := m16
  clear n112 n212 bT12 bA12 b812 b12 m12' my m16 b10 a10 k11 k12 k12s a12 ky n110 n210 bT10 bA10
  go_upto_region 12 with (fail)
  obtain ⟨ap1, hap1⟩ : ∃ x : Nat, Hid (st.applied + 1 = x) := ⟨_, rfl⟩
  have wap : IntKind.u8.wrap ((st.applied : Int) + 1) = (ap1 : Int) := by rw [IntKind.wrap_u8, ← hap1.out]; omega
  go_upto_region 13 with (first | ((with_reducible (refine Veil.out ?_; apply wl_loadC onet5b)); (case hw => rfl); (case hx => rfl); (case hc => exact (by_.cell (i := 13) (by decide)).trans (congrArg some cy13))) | ((with_reducible (refine Veil.out ?_; apply wl_storeC onet5b)); (case hx => rfl); (case hy => rfl); (case h1 => rfl); (case hB => exact by_); (case hi => decide); rintro W17 b17 m17))
  obtain ⟨c17, b17', k17, s17⟩ : ∃ f, Blk W17 Y 179 118 f ∧ (∀ j, j ≠ 13 → f j = cy j) ∧ Hid (f 13 = .int .u8 (ap1 : Nat)) := ⟨_, b17, fun j hj => updv_ne _ _ hj, updv_same _ _ _⟩
  replace b17 := b17'
  clear b17'
  have hcg : cf r 42 = .int .u64 (t.gas : Nat) := hT16.gas
  have hsY : ∀ b, ¬ O b → ¬ b = Y := fun b hb q => hb (q ▸ hOY)
  go_upto_region 14 with (first | ((with_reducible (refine Veil.out ?_; apply wl_loadC onet26b)); (case hw => rfl); (case hx => rfl); (case hc => exact ((bT16.mod m17 nTY).cell (i := 42) (by decide)).trans (congrArg some hcg))) | (go_at_call 42; refine (nNum O t.gas _ (sm16.mod m17) hgl).mono ?_; rintro e w18 ⟨rg, rfl, hrg, he18⟩) | ((with_reducible (refine Veil.out ?_; apply wl_storeC onet96b)); (case hx => rfl); (case hy => rfl); (case h1 => exact nv_onez hrg); (case hB => exact b17.ext he18); (case hi => decide); rintro W19 b19 m19))
  obtain ⟨c19, b19', k19, s19⟩ : ∃ f, Blk W19 Y 179 118 f ∧ (∀ j, j ≠ 14 → f j = c17 j) ∧ Hid (f 14 = rg) := ⟨_, b19, fun j hj => updv_ne _ _ hj, updv_same _ _ _⟩
  replace b19 := b19'
  clear b19'
  have m19' : Mod (· = Y) W16 W19 := (m17.trans_ext he18).trans m19
  have hrg19 : NV O W19 (c19 14) t.gas := by rw [s19.out]; exact hrg.keep m19 hsY
  have bT19 := bT16.mod m19' nTY
  have bA19 := bA16.mod m19' nAY
  have bx19 := bx.mod m19' n8Y
  have n119 := n116.keep m19' hsY
  have n219 := n216.keep m19' hsY
  have hT19 : TxC O W19 (cf r) t := hT16.keepb m19' hOY
  have sm19 : Small O W19 := fun b hb => Nat.lt_of_lt_of_le (sm16 b hb) m19'.size
  have env19 : EnvC O W19 c19 59 st.env := env16.same (fun j hj _ => by rw [k19 j (by omega), k17 j (by omega)]) (fun _ _ q => q.keep m19' hsY)
  clear m17 m19 he18 hrg n116 n216 bT16 bA16 bx hT16 sm16 env16 b17 by_
  have hpp : st.env.baseFee + min t.tipF (t.most - st.env.baseFee) = st.priceOf t := rfl
  have hprl : st.priceOf t < P256 := by
    have h1 := hv.fee
    have h2 := ATx.mostLt hT19
    unfold ASt.priceOf
    omega
  have hM19 : Mod (fun b => b = Y ∨ b = B8) W10 W19 := hM16.trans (m19'.sub (fun b hb => Or.inl hb))
  have hk : ∀ j, j ≠ 9 → j ≠ 13 → j ≠ 14 → j < 39 ∨ 59 ≤ j → c19 j = c j := fun j q2 q3 q4 q7 => by
    rw [k19 j q4, k17 j q3]; exact ky2 j q2 q7
  have hZ1 : ∀ W' c', Mod (· = Y) W19 W' → Blk W' Y 179 118 c' → NV O W' (c' 15) (t.gas - t.intrinsic) → NV O W' (c' 17) (st.priceOf t) → AAt c' 19 t.from_ → c' 8 = .slice none 0 0 → (∀ j, j ≠ 8 → j ≠ 15 → j ≠ 17 → (j < 19 ∨ 39 ≤ j) → c' j = c19 j) → YZ O (fun _ => False) W' Y BT 0 c' c19 W [] { st with orig := lookT [], frames := [], ret := [], applied := ap1, limit := t.gas, txGas := t.gas - t.intrinsic, price := st.priceOf t, origin := t.from_, made := md } tot [] := by
    intro W' c' m hB p15 p17 p19 p8 kk
    have hkk : ∀ j, j ≠ 8 → j ≠ 9 → j ≠ 13 → j ≠ 14 → j ≠ 15 → j ≠ 17 → j < 19 ∨ 59 ≤ j → c' j = c j := fun j q1 q2 q3 q4 q5 q6 q7 => by
      rw [kk j q1 q5 q6 (by omega)]; exact hk j q2 q3 q4 (by omega)
    have hcells : BCells O W' c c' ap1 t.gas (t.gas - t.intrinsic) (st.priceOf t) t.from_ md := by
      refine ⟨fun i hi => hkk i (by omega) (by omega) (by omega) (by omega) (by omega) (by omega) (by omega), p8, ?_, hkk 10 (by decide) (by decide) (by decide) (by decide) (by decide) (by decide) (by decide), hkk 11 (by decide) (by decide) (by decide) (by decide) (by decide) (by decide) (by decide), hkk 12 (by decide) (by decide) (by decide) (by decide) (by decide) (by decide) (by decide), ?_, ?_, p15, p17, hkk 18 (by decide) (by decide) (by decide) (by decide) (by decide) (by decide) (by decide), p19, ?_, fun i hi => hkk i (by omega) (by omega) (by omega) (by omega) (by omega) (by omega) (by omega)⟩
      · rw [kk 9 (by decide) (by decide) (by decide) (by decide), k19 9 (by decide), k17 9 (by decide)]; exact cy9
      · rw [kk 13 (by decide) (by decide) (by decide) (by decide), k19 13 (by decide)]; exact s17.out
      · rw [kk 14 (by decide) (by decide) (by decide) (by decide)]; exact hrg19.keep m hsY
      · exact ay.same hmdl (fun j hj => by rw [kk _ (by omega) (by omega) (by omega) (by omega), k19 _ (by omega), k17 _ (by omega)])
    exact YZ.ofI2 (n := 0) (d := c19) h10' (hM19.trans (m.sub (fun b hb => Or.inl hb))) hsYB hB hcells h10 hprl hfl hmdl hOT (fun q => nTY q.symm)
  have hwf : W.WF := h10'.wf
  have hnow : st.now = W.abs := h10'.now
  have hlT : lookT (startL W.accts) = st.now.slot := by rw [lookT_start hwf, ← hnow]
  have hnm := hv.nmax
  have hnn := hv.nonce
  have hnl2 := hi.nonce t.from_
  have hWi : WInv T 0 st.now.slot W.abs := by rw [← hnow]; exact hi.inv
  have hbal : (W.acct t.from_).bal = st.now.bal t.from_ := by rw [hnow]; rfl
  have hw1 : WInv T 0 st.now.slot (W.setNonce t.from_ (t.nonce + 1)).abs := by rw [YW.setNonce_abs]; exact hWi.setNonce _ _ (by omega)
  have hw2 : WInv T 0 st.now.slot ((W.setNonce t.from_ (t.nonce + 1)).setBal t.from_ ((W.acct t.from_).bal - t.gas * st.priceOf t)).abs := by
    rw [YW.setBal_abs]
    refine hw1.setLow _ _ ?_
    rw [YW.setNonce_abs]
    show (W.acct t.from_).bal - _ ≤ (W.acct t.from_).bal
    omega
  have hbP : (W.acct t.from_).bal < P256 := by rw [hbal]; exact Nat.lt_of_le_of_lt (hi.sum.one _) hTl
  have hnn2 : t.nonce < 18446744073709551615 := by omega
  clear k19 k17 s17 s19 ky2 cy9 cy13 ay hk
  go_upto_region 14 with (fail)
  try simp only [Act.put, List.setIfInBounds_toArray, List.set_cons_zero, List.set_cons_succ]
  refine bgGas (T := T) _ _ _ _ _ _ _ _ _ _ _ _ _ _ _ _ _ _ _ _ _ _ _ _ _ _ _ _ _ _ _ _ _ _ _ _ _ _ _ _ _ _ _ _ _ _ _ _ _ _ _ _ _ _ _ _ _ _ _ _ _ _ _ _ _ _ _ _ _ _ _ _ _ _ _ _ _ _ _ _ _ _ _ _ _ _ _ _ _ _ _ _ _ _ _ _ _ _ _ _ _ _ _ _ _ _ _ _ _ _ _ _ _ _ _ _ _ _ _ _ _ _ _ _ _ _ _ _ _ _ _ _ _ _ _ _ _ _ _ _ _ _ _ _ _ _ _ _ _ _ _ _ _ _ _ _ _ _ _ _ _ _ _ _ _ _ _ _ _ _ _ _ _ _ _ _ _ _ _ _ _ _ _ _ _ _ _ _ _ _ _ _ _ _ _ _ _ _ _ _ _ _ _ _ _ _ _ _ _ _ _ _ _ _ _ _ _ _ _ _ _ _ _ _ _ _ _ _ _ _ _ _ _ _ _ _ _ _ _ _ _ _ _ _ _ _ _ _ _ _ _ _ _ _ _ _ _ _ _ _ _ _ _ _ _ _ HLG b19 hrow hr hv hlok sm19 env19 hrg19 bT19 hT19 nTY bA19 n119 n219 nAY bx19 ax htgl n8Y hOY hZ1 hsz hTl hnn2 hbP hw1 hw2 ?_ (by assumption)
  intro w' W' L' hfin hs1 hs2
  obtain ⟨O', F', n', c', d', q1, q2, q3⟩ := hfin
  refine ⟨rfl, O', fun _ => False, F', n', c', d', W', L', ?_, hs1, hs2, fun b hb => ?_, ?_⟩
  · rw [begin_end (og := lookT (startL W.accts)) (bl := (W.acct t.from_).bal) htg.out hmd.out hap1.out hlT hbal]; exact q1
  · have hb2 : b < W10.heap.size := Nat.lt_of_lt_of_le hb e10w.size
    have hb3 : b < W19.heap.size := Nat.lt_of_lt_of_le hb2 hM19.size
    exact (q2 b hb3).trans (hOzz.out b hb)
  · have hg8 : w.heap.size ≤ B8 := Nat.le_trans e8s g9
    have hgT : w.heap.size ≤ BT := g1
    refine Mod.trans' (S := Oz) (Mod.trans' (S := Oz) (e10w.mod _) hM19 (fun b hb => ?_)) q3 (fun b hb => ?_)
    · rcases hb with rfl | rfl
      · exact Or.inl hOYz
      · exact Or.inr hg8
    · rcases hb with rfl | rfl
      · exact Or.inl hOYz
      · exact Or.inr hgT
end
end Go.Proofs.YgvahwGreat
