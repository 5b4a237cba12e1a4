import Derived.Test.YgvahwGreatOpn6
import Derived.Test.YgvahwGreatOpn7
import Derived.Test.YgvahwGreatEf
import Derived.Test.YgvahwGreatPl
namespace Go.Proofs.YgvahwGreat
open Go.RowKit
set_option linter.unusedSimpArgs false
theorem av0o : Value.agg #[.int .u8 0, .int .u8 0, .int .u8 0, .int .u8 0, .int .u8 0, .int .u8 0, .int .u8 0, .int .u8 0, .int .u8 0, .int .u8 0, .int .u8 0, .int .u8 0, .int .u8 0, .int .u8 0, .int .u8 0, .int .u8 0, .int .u8 0, .int .u8 0, .int .u8 0, .int .u8 0] = Value.agg (av 0) := by kernel_rfl
section
variable {T : Nat} {own : Nat → Nat} {w : World} {g : Nat} {c : Nat → Value} {V : EV} {st : ASt} {stale : List Nat} {r : Array Value} {t : ATx}
set_option maxRecDepth 100000 in
set_option maxHeartbeats 6400000 in
theorem eOpen (h : MRep own w g c V st [] stale) (hf : st.frames = []) (hr : r.size = 174) (hT : TxC (Mu own) w (cf r) t) (hp : st.phase = 0) (ha : st.applied < 4) (hv : st.verdict t = 0) (hi : WIdle T st.now) (hTl : T < P256) (hor : ∀ a k, (V.sl a k).orig = st.now.slot a k) (s1 : V.accts.length ≤ 2539) (s2 : V.slots.length ≤ 2496) (s3 : V.journal.length ≤ 65445) (s4 : V.marks.length < 16384) (hrm : Room V (12 + (t.access.length + keysN t.access))) : Calls Hvah.prog 45 #[.pointer (some ⟨g, 0, none⟩), .agg r] w fun e w' => e = .returned (.int .u8 (0 : Nat)) ∧ ∃ own' c' V' sn', MRep own' w' g c' V' (st.begin_ t) sn' stale ∧ MStep own w own' w' ∧ V.Grew V' (12 + (t.access.length + keysN t.access)) (12 + (t.access.length + keysN t.access)) (keysN t.access) 0 0 1 := by
  have hrow := rowOf_txo hr
  have vk := verdict_zero hv
  obtain ⟨tg, htg⟩ : ∃ x, Hid ((if t.create then createAddrA t.from_ t.nonce else t.to_) = x) := ⟨_, rfl⟩
  have htl : tg < 2 ^ 160 := by
    rw [← htg.out]
    split
    · exact Nat.mod_lt _ (by decide)
    · exact hT.tLt
  have ok : OpOK st t tg := open_ok hi hTl vk hT.fLt htl hT.vLt
  obtain ⟨md, hmd⟩ : ∃ x, Hid ((if t.create then tg else 0) = x) := ⟨_, rfl⟩
  have hmdl : md < 2 ^ 160 := by
    rw [← hmd.out]
    split
    · exact htl
    · decide
  have HV := fun W' (hW : Ext w W') => eVerdict (h.ext hW) hr (hT.vstep (VStep.ext (c := c) hW)) hp ha
  have hpo : ∀ p, (st.verdict t = 0 → p = st.priceOf t) → p = st.priceOf t := fun p q => q hv
  obtain ⟨vd, hvd⟩ : ∃ x, Hid (st.verdict t = x) := ⟨_, rfl⟩
  rw [hvd.out] at HV hv hpo
  have z1 : (vd : Int) = 0 := by omega
  have z2 : decide ((vd : Int) = 0) = true := decide_eq_true z1
  have z3 : ((vd : Int) == 0) = true := by simp; omega
  replace z1 := (show Hid _ from z1)
  replace hv := (show Hid _ from hv)
  replace hpo := (show Hid _ from hpo)
  replace vk := (show Hid _ from vk)
  replace ok := (show Hid _ from ok)
  replace hor := (show Hid _ from hor)
  have HSp := fun W' (hW : Ext w W') => eSpacious (h.ext hW) hf s1 s2 s3 s4
  have HSz := fun W' (hW : Ext w W') => vSizes (h.ext hW).v
  have hptr := h.m.ptr
  have hEB := fun W' (hW : Ext w W') => (h.ext hW).v.blk
  have tT := hT.tLt
  have kto := hT.to_
  have kcre := hT.create
  have tF := hT.fLt
  have kfr := hT.from_
  have tN := hT.nLt
  have knon := hT.nonce
  replace h := (show Hid _ from h)
  replace hT := (show Hid _ from hT)
  replace hi := (show Hid _ from hi)
  replace hf := (show Hid _ from hf)
  clear s1 s2 s3 s4 hp ha
  go_enter Hvah.func45, Hvah.ntmps45
  go_upto_region 2 with (first | ((with_reducible (refine Veil.out ?_; apply wl_boxB)); (case hx => rfl); (case hn => exact hr); rintro BT W1 e1 b1 g1) | ((with_reducible (refine Veil.out ?_; apply wl_loadRow rt35o)); (case hx => rfl); (case hB => exact b1); (case hi => decide); rw [hrow]) | (go_at_call 99; refine (HV _ (by (repeat (first | with_reducible exact Ext.refl _ | with_reducible assumption | refine Ext.trans ?_ (by with_reducible assumption) | refine Ext.alloc ?_ _ _ | refine Ext.drew ?_ | refine Ext.drewN ?_ _)))).mono ?_; rintro e w2 ⟨p, rfl, hpp, he2⟩) | ((with_reducible (refine Veil.out ?_; apply wl_allocW)); rintro B3 W3 c3 e3 b3 a3 g3) | ((with_reducible (refine Veil.out ?_; apply wl_storeWB)); (case hx => rfl); (case hy => rfl); (case hB => exact b3); (case hi => decide); rintro W4 c4 b4 a4 n4 m4))
  clear n4
  have e4 : Ext w W4 := Ext.trans_mod (show Ext w W3 by (repeat (first | with_reducible exact Ext.refl _ | with_reducible assumption | refine Ext.trans ?_ (by with_reducible assumption) | refine Ext.alloc ?_ _ _ | refine Ext.drew ?_ | refine Ext.drewN ?_ _))) m4 (fun q hq => by have hq2 : q = B3 := hq; rw [hq2]; exact Nat.le_trans (Ext.size (by (repeat (first | with_reducible exact Ext.refl _ | with_reducible assumption | refine Ext.trans ?_ (by with_reducible assumption) | refine Ext.alloc ?_ _ _ | refine Ext.drew ?_ | refine Ext.drewN ?_ _)))) g3)
  have eT : Ext W1 W4 := Ext.trans_mod (show Ext W1 W3 by (repeat (first | with_reducible exact Ext.refl _ | with_reducible assumption | refine Ext.trans ?_ (by with_reducible assumption) | refine Ext.alloc ?_ _ _ | refine Ext.drew ?_ | refine Ext.drewN ?_ _))) m4 (fun q hq => by have hq2 : q = B3 := hq; rw [hq2]; exact Nat.le_trans (Ext.size (by (repeat (first | with_reducible exact Ext.refl _ | with_reducible assumption | refine Ext.trans ?_ (by with_reducible assumption) | refine Ext.alloc ?_ _ _ | refine Ext.drew ?_ | refine Ext.drewN ?_ _)))) g3)
  have gP : w.heap.size ≤ B3 := Nat.le_trans (Ext.size (by (repeat (first | with_reducible exact Ext.refl _ | with_reducible assumption | refine Ext.trans ?_ (by with_reducible assumption) | refine Ext.alloc ?_ _ _ | refine Ext.drew ?_ | refine Ext.drewN ?_ _)))) g3
  clear e1 he2 e3
  go_upto_region 7 with (first | (go_at_call 100; refine (HSp _ (by (repeat (first | with_reducible exact Ext.refl _ | with_reducible assumption | refine Ext.trans ?_ (by with_reducible assumption) | refine Ext.alloc ?_ _ _ | refine Ext.drew ?_ | refine Ext.drewN ?_ _)))).mono ?_; rintro e w5 ⟨rfl, he5⟩) | ((with_reducible (refine Veil.out ?_; apply wl_loadB oneO60)); (case hx => rfl); (case hB => exact hEB _ (by (repeat (first | with_reducible exact Ext.refl _ | with_reducible assumption | refine Ext.trans ?_ (by with_reducible assumption) | refine Ext.alloc ?_ _ _ | refine Ext.drew ?_ | refine Ext.drewN ?_ _)))); (case hi => decide); rw [hptr]) | (go_at_call 101; refine (HSz _ (by (repeat (first | with_reducible exact Ext.refl _ | with_reducible assumption | refine Ext.trans ?_ (by with_reducible assumption) | refine Ext.alloc ?_ _ _ | refine Ext.drew ?_ | refine Ext.drewN ?_ _)))).mono ?_; rintro e w6 ⟨rfl, he6⟩))
  have E6 : Ext w w6 := by (repeat (first | with_reducible exact Ext.refl _ | with_reducible assumption | refine Ext.trans ?_ (by with_reducible assumption) | refine Ext.alloc ?_ _ _ | refine Ext.drew ?_ | refine Ext.drewN ?_ _))
  have bT6 : Blk w6 BT 174 40 (cf r) := b1.ext (eT.trans (he5.trans he6))
  have bP6 : Blk w6 B3 4 79 c4 := b4.ext (he5.trans he6)
  have hgl : g < w.heap.size := (hEB _ (Ext.refl _)).lt
  have ngT : BT ≠ g := fun q => by omega
  clear b1 eT b4 m4 e4 he5 he6 HSp HSz HV b3 a3
  go_upto_region 8 with (first | ((with_reducible (refine Veil.out ?_; apply wl_loadA)); (case hx => rfl); (case hB => exact bT6); (case hA => exact kto); (case hs => exact tT); (case ho => decide)) | ((with_reducible (refine Veil.out ?_; apply wl_allocA)); rintro B8 W7 c7 e7 b7 _ g7) | ((with_reducible (refine Veil.out ?_; apply wl_storeA)); (case hx => rfl); (case hy => rfl); (case hv => exact tT); (case hB => exact b7); (case hi => decide); rintro W8 c8 b8 a8 _ m8))
  have e8 : Ext w6 W8 := Ext.trans_mod e7 m8 (fun q hq => by have hq2 : q = B8 := hq; rw [hq2]; exact g7)
  have E8 := E6.trans e8
  have bT8 := bT6.ext e8
  have bP8 := bP6.ext e8
  have g8 : w.heap.size ≤ B8 := Nat.le_trans E6.size g7
  have ng8 : B8 ≠ g := fun q => by omega
  have nT8 : BT ≠ B8 := fun q => by have := bT6.lt; omega
  have nP8 : B3 ≠ B8 := fun q => by have := bP6.lt; omega
  clear bT6 bP6 e8 b7 m8 e7
  go_upto_region 9 with (first | ((with_reducible (refine Veil.out ?_; apply wl_storeA (v := 0))); (case hx => rfl); (case hy => exact av0o); (case hv => exact (show 0 < 2 ^ 160 by decide)); (case hB => exact hEB _ E8); (case hi => decide); rintro W9 c9 b9 a9 n9 m9))
  have M9 : Mod (fun x => x = g) w W9 := (E8.mod _).trans m9
  have bT9 := bT8.mod m9 ngT
  have ngP : B3 ≠ g := fun q => by omega
  have bP9 := bP8.mod m9 ngP
  have b89 := b8.mod m9 ng8
  obtain ⟨cr, hcr⟩ : ∃ x, Hid (t.create = x) := ⟨_, rfl⟩
  have kcr : cf r 40 = .bool cr := by rw [← hcr.out]; exact kcre
  obtain ⟨ca, hca⟩ : ∃ x, Hid (createAddrA t.from_ t.nonce = x) := ⟨_, rfl⟩
  have HCA := fun W' => mCreateAddr (w := W') tF tN
  rw [hca.out] at HCA
  have hcal : ca < 2 ^ 160 := by rw [← hca.out]; exact Nat.mod_lt _ (by decide)
  replace n9 := (show Hid _ from n9)
  replace hEB := (show Hid _ from hEB)
  clear bT8 bP8 b8 m9 E8 E6 kcre z2 z3 hgl kto
  go_upto_if 42 with ((with_reducible (refine Veil.out ?_; apply wl_loadC oneO4)); (case hw => rfl); (case hx => rfl); (case hc => exact (bT9.cell (i := 40) (by decide)).trans (congrArg some kcr)))
  try simp only [Act.put, List.setIfInBounds_toArray, List.set_cons_zero, List.set_cons_succ]
  go_cut [] (fun wx => ∃ cX c8X, Blk wx g 27024 105 cX ∧ Hid (∀ j, j < 2415 ∨ 2435 ≤ j → cX j = c j) ∧ AAt cX 2415 (if cr then ca else 0) ∧ Blk wx B8 20 31 c8X ∧ AAt c8X 0 (if cr then ca else t.to_) ∧ Mod (fun x => x = g ∨ x = B8) W9 wx)
  case first =>
    cases cr with
    | false =>
      go_wp2
      go_meet
      case rel => exact ⟨c9, c8, b9, (show Hid _ from n9.out), a9, b89, a8, Mod.refl _ _⟩
    | true =>
      clear kcr bP9 hrow hpp hptr hpo htg hmd
      go_upto_region 11 with (first | ((with_reducible (refine Veil.out ?_; apply wl_loadA)); (case hx => rfl); (case hB => exact bT9); (case hA => exact kfr); (case hs => exact tF); (case ho => decide)) | ((with_reducible (refine Veil.out ?_; apply wl_loadB oneO26)); (case hx => rfl); (case hB => exact bT9); (case hi => decide); rw [knon]) | (go_at_call 102; refine (HCA _).mono ?_; rintro e w10 ⟨rfl, he10⟩; dsimp only) | ((with_reducible (refine Veil.out ?_; apply wl_storeA)); (case hx => rfl); (case hy => rfl); (case hv => exact hcal); (case hB => exact b89.ext he10); (case hi => decide); rintro W11 c11 b11 a11 _ m11))
      have b9' := (b9.ext he10).mod m11 (fun q => ng8 q.symm)
      clear HCA bT9
      go_wp2_with (first | ((with_reducible (refine Veil.out ?_; apply wl_loadA)); (case hx => rfl); (case hB => exact b11); (case hA => exact a11); (case hs => exact hcal); (case ho => decide)) | ((with_reducible (refine Veil.out ?_; apply wl_storeA)); (case hx => rfl); (case hy => rfl); (case hv => exact hcal); (case hB => exact b9'); (case hi => decide); rintro W12 c12 b12 a12 n12 m12))
      go_meet
      case rel => exact ⟨c12, c11, b12, (fun j hj => (n12 j (by omega)).trans (n9.out j (by omega)) : ∀ j, j < 2415 ∨ 2435 ≤ j → c12 j = c j), a12, b11.mod m12 ng8, a11, (((he10.mod _).trans m11).sub (fun b hb => Or.inr hb)).trans (m12.sub (fun b hb => Or.inl hb))⟩
  case rest =>
  obtain ⟨cX, c8X, bg, hfar, hmX, b8X, a8X, hMX⟩ := hcut
  obtain ⟨WX, eWX⟩ : ∃ X, X = wc := ⟨_, rfl⟩
  subst eWX
  have bTX := bT9.mod hMX (fun q => q.elim ngT nT8)
  have bPX := bP9.mod hMX (fun q => q.elim ngP nP8)
  have MX : Mod (fun x => x = g) w WX := M9.trans' hMX (fun b hb => hb.elim Or.inl (fun q => Or.inr (by rw [q]; exact g8)))
  have gP' : w.heap.size ≤ B3 := by omega
  have ep := hpo.out p (fun q => hpp q)
  rw [ep] at a4
  have e1 : (if cr then ca else t.to_) = tg := by rw [← hcr.out, ← hca.out]; exact htg.out
  have e2 : (if cr then ca else 0) = md := by
    rw [← hmd.out, ← htg.out, hcr.out, hca.out]
    cases cr <;> rfl
  rw [e1] at a8X
  rw [e2] at hmX
  go_upto_region 12 with (fail)
  try simp only [Act.put, List.setIfInBounds_toArray, List.set_cons_zero, List.set_cons_succ]
  refine opHdB _ _ _ _ _ _ _ _ _ _ _ _ _ _ _ _ _ _ _ _ _ _ _ _ _ _ _ _ _ _ _ _ _ _ _ _ _ _ _ _ _ _ _ _ _ _ _ _ _ _ _ _ _ _ _ _ _ _ _ _ _ _ _ _ _ _ _ _ _ _ _ _ _ _ _ _ _ _ _ _ _ _ _ _ _ _ _ _ _ _ _ _ _ _ _ _ _ _ _ _ _ _ _ _ _ _ _ _ _ _ _ _ _ _ _ _ _ _ _ _ _ _ _ _ _ _ _ _ _ _ _ _ _ _ _ _ _ _ _ _ _ _ _ _ _ _ _ _ _ _ _ _ _ _ _ _ _ _ _ _ _ _ _ _ _ _ _ _ _ _ _ _ _ _ _ _ _ _ _ _ _ _ _ _ _ _ _ _ _ _ _ _ _ _ _ _ _ _ _ _ _ _ _ _ _ _ _ _ _ _ _ _ _ _ _ _ _ _ _ _ _ _ _ _ _ _ h.out hf.out hr hT.out vk.out ok.out htl hor.out hrm bg hfar.out hmX hmdl bTX bPX a4 b8X a8X MX g1 gP' g8 htg.out hmd.out ?_ (by assumption)
  intro w' q
  exact ⟨rfl, q⟩
end
end Go.Proofs.YgvahwGreat
