import Derived.Test.YgvahwGreatPp0
namespace Go.Proofs.YgvahwGreat
open Go.RowKit
set_option linter.unusedSimpArgs false
set_option maxRecDepth 100000 in
set_option maxHeartbeats 6400000 in
theorem yCreateAddrC (HK : KSumX) {O : Nat → Prop} {w : World} {cr n : Nat} {vs : Value} (hc : cr < 2 ^ 160) (hO : Small O w) (hs : NV O w vs n) (h8 : n < 18446744073709551616) (hn1 : 128 ≤ n) (hn2 : n < 256) : Calls Hvah.prog 54 #[.agg (av cr), vs] w fun e w' => e = .returned (.agg (av (createAddrA cr n))) ∧ Ext w w' := by
  have l20 := len20 hc
  have hdL := caL_dig (cr := cr) h8
  have hlL := caL_len (n := n) hc
  have hrd := rlp_dig h8
  have hr9 := rlp_len h8
  have hcL : caL cr n = [192 + (21 + (rlpNonce n).length), 148] ++ beL 20 cr ++ rlpNonce n := by unfold caL; simp
  have e0 : createAddrA cr n = addrA (kec (caL cr n)) := rfl
  rw [e0]
  clear e0
  have hrl : (rlpNonce n).length = dl n + 1 := by
    unfold rlpNonce
    rw [if_neg (by omega), if_neg (by omega), List.length_cons, List.length_reverse]; rfl
  have hk8 : dl n ≤ 8 := (dl_le_iff n 8).2 h8
  have hrv : rlpNonce n = (128 + dl n) :: (digs n).reverse := by
    unfold rlpNonce
    rw [if_neg (by omega), if_neg (by omega)]
  have hdd := digits_digs n
  have hdlen : (digs n).length = dl n := rfl
  have hkc : dl n = 1 := by rw [show dl n = (digs n).length from rfl, digs_one (by omega) hn2]; rfl
  have hd0 : digs n = [n] := digs_one (by omega) hn2
  obtain ⟨k, hk⟩ : ∃ z, Hid (dl n = z) := ⟨_, rfl⟩
  rw [hk.out] at hrl hk8 hrv hdlen hkc
  obtain ⟨D, hD⟩ : ∃ z, Hid (digs n = z) := ⟨_, rfl⟩
  rw [hD.out] at hrv hdd hdlen hd0
  obtain ⟨L, hL⟩ : ∃ z, Hid (caL cr n = z) := ⟨_, rfl⟩
  rw [hL.out] at hdL hlL hcL ⊢
  obtain ⟨K2, hK2⟩ : ∃ z, Hid (kec L = z) := ⟨_, rfl⟩
  rw [hK2.out]
  have h20 : addrA K2 < 2 ^ 160 := Nat.mod_lt _ (by decide)
  have HH1 := fun (W : World) (v : Value) (h : NLx (fun _ => False) W v L) => yHashedAddrX HK h (by rw [hlL]; omega)
  rw [hK2.out] at HH1
  obtain ⟨RL, hRL⟩ : ∃ z, Hid (rlpNonce n = z) := ⟨_, rfl⟩
  rw [hRL.out] at hcL hrd hrl hrv
  have hHid : Hid (Digits L ∧ _ ∧ Digits RL) := ⟨hdL, hcL, hrd⟩
  clear hdL hlL hcL hr9 hrd HK
  go_enter Hvah.func54, Hvah.ntmps54
  go_upto_region 2 with (first | ((with_reducible (refine Veil.out ?_; apply wl_boxA (x := Operand.tmp 0))); (case hx => rfl); (case hn => exact hc); rintro B1 W1 c1 e1 b1 a1 g1) | ((with_reducible (refine Veil.out ?_; apply wl_allocA)); rintro R W2 c2 e2 b2 _ g2) | ((with_reducible (refine Veil.out ?_; apply wl_build1K 128 Hvah.underlying23)); (case hy => rfl); rintro Bb W3 e3 b3 g3))
  have hsw : NV (Wd O Bb) W3 vs n := ((hs.ext (e1.trans e2)).widen g3).ext e3
  have hOw : Small (Wd O Bb) W3 := fun b hb => by
    rcases hb with hb | hb
    · exact Nat.lt_of_lt_of_le (hO b hb) ((e1.trans e2).trans e3).size
    · rw [hb]; exact b3.lt
  go_upto_region 3 with (first | (go_at_call 132; refine (nNorm (Wd O Bb) _ _ _ hOw hsw).mono ?_; rintro e W4 ⟨r, rfl, hr, e4⟩))
  have hE3 : Ext w W3 := (e1.trans e2).trans e3
  have gRw : w.heap.size ≤ R := Nat.le_trans e1.size g2
  have gbw : w.heap.size ≤ Bb := Nat.le_trans (e1.trans e2).size g3
  have h1b : ¬ B1 = Bb := fun q => by have := (b1.ext e2).lt; omega
  have hRb : ¬ R = Bb := fun q => by have := b2.lt; omega
  have b14 := b1.ext ((e2.trans e3).trans e4)
  have b24 := b2.ext (e3.trans e4)
  have bb4 := b3.ext e4
  have hE4 : Ext w W4 := hE3.trans e4
  have hbW : Bb < W3.heap.size := b3.lt
  clear b1 b2 b3 e1 e2 e3 hE3
  rw [hD.out] at hr
  obtain ⟨o, cp, rfl, hcp, hcm, hbs⟩ := hr
  rw [hdlen] at hcp ⊢
  obtain ⟨b, off, rfl, q2, q3, q4⟩ := hbs.spot (fun q => by rw [q] at hdlen; simp at hdlen; omega)
  have hbb : b ≠ Bb := fun q => q2 (Or.inr q)
  clear q2 hbs hsw hOw hcm
  have hrvH : Hid (_ = _) := hrv
  have hdlH : Hid (_ = _) := hdlen
  have hrlH : Hid (_ = _) := hrl
  have hcpH : Hid (_ ≤ _) := hcp
  clear hrv hcp
  have hk1 : k = 1 := hkc
  subst hk1
  have K6 : ∀ W, Ext W4 W → W.cell? ⟨b, off, none⟩ = some (.int .u8 (n : Nat)) := fun W hW => by rw [hW.cell q3]; have := q4 0 (by have := hdlH.out; omega); simpa [hd0] using this
  have nz : ¬ (n : Int) < 128 := by omega
  have q4H : Hid (∀ (i : Nat) (h : i < D.length), W4.cell? ⟨b, off + i, none⟩ = some (.int .u8 ((D.getD i 0 : Nat) : Int))) := fun i h => by
    rw [q4 i h]
    simp [List.getD_eq_getElem?_getD, h]
  clear q4 hdlen hrl hk hD hL hK2 hRL
  have k0 : (0 : Int) < ((1 : Nat) : Int) := by omega
  go_upto_region 8 with (first | ((with_reducible (refine Veil.out ?_; apply wl_loadC onek5)); (case hw => first | rfl | go_simp); (case hx => rfl); (case hc => exact K6 _ (by (repeat (first | with_reducible exact Ext.refl _ | with_reducible assumption | refine Ext.trans ?_ (by with_reducible assumption) | refine Ext.alloc ?_ _ _ | refine Ext.drew ?_ | refine Ext.drewN ?_ _))))) | ((with_reducible (refine Veil.out ?_; apply wl_storeC onek5 (v := .int .u8 ((129 : Nat) : Int)))); (case hx => rfl); (case hy => rfl); (case h1 => rfl); (case hB => exact bb4); (case hi => decide); rintro W6 b6 m6))
  try simp only [Act.put]
  have hE6 : Ext w W6 := Ext.trans_mod hE4 m6 (fun q hq => by have hq2 : q = Bb := hq; rw [hq2]; exact gbw)
  have b16 := b14.mod m6 h1b
  have b26 := b24.mod m6 hRb
  have q36 : b < W6.heap.size := Nat.lt_of_lt_of_le q3 m6.size
  have q46 : Hid (∀ i (h : i < D.length), W6.cell? ⟨b, off + i, none⟩ = some (.int .u8 ((D.getD i 0 : Nat) : Int))) := fun i h => by
    rw [m6.cell q3 hbb, q4H.out i h]
  obtain ⟨T, hTd⟩ : ∃ T : Nat → Prop, Hid (T = fun b => b = Bb ∨ W6.heap.size ≤ b) := ⟨_, rfl⟩
  have hTb : ¬ T b := by rw [hTd.out]; intro q; rcases q with q | q; exact hbb q; omega
  have hT1 : ¬ T B1 := by rw [hTd.out]; intro q; rcases q with q | q; exact h1b q; have := b16.lt; omega
  have hTR : ¬ T R := by rw [hTd.out]; intro q; rcases q with q | q; exact hRb q; have := b26.lt; omega
  have hTw : ∀ x, T x → w.heap.size ≤ x := by rw [hTd.out]; intro x q; rcases q with q | q; rw [q]; exact gbw; exact Nat.le_trans hE6.size q
  have hTn : ∀ x, W6.heap.size ≤ x → T x := by rw [hTd.out]; exact fun x q => Or.inr q
  have hTB : T Bb := by rw [hTd.out]; exact Or.inl rfl
  have hf256 : 129 < 256 := by decide
  have hG6 : GRow 5 1 ByC T W6 (.slice (some ⟨Bb, 0, none⟩) 1 1) (129 :: D.reverse.take 0) := Or.inr ⟨Bb, 1, _, rfl, Nat.le_refl _, by decide, b6, hTB, fun i hi => by
    obtain rfl : i = 0 := by simp at hi; omega
    exact ⟨updv_same _ _ _, hf256⟩⟩
  clear hTd b6 bb4 b14 b24 m6 hE4 q3 q4H
  go_loopw [5, 7] (fun v5 iv wr => ∃ (i : Nat), iv = .int .i64 (i : Nat) ∧ i ≤ 1 ∧ GRow 5 1 ByC T wr v5 (129 :: D.reverse.take (1 - i)) ∧ Mod T W6 wr) (fun _ iv _ => (intOf iv).toNat)
  case atStart => exact ⟨1, rfl, Nat.le_refl _, by rw [Nat.sub_self]; exact hG6, Mod.refl _ _⟩
  case round =>
    clear hG6
    rename_i v5 _ _
    obtain ⟨i, rfl, hik, hG, hM⟩ := hrel
    rcases Nat.eq_zero_or_pos i with hi0 | hi0
    · subst hi0
      have hfull : 129 :: D.reverse.take (1 - 0) = RL := by
        rw [hrvH.out, List.take_of_length_le (by simp [hdlH.out])]
      rw [hfull] at hG
      have hrl := hrlH.out
      obtain ⟨M, hMM⟩ : ∃ z : Nat, Hid ((1 + 1 : Nat) = z) := ⟨_, rfl⟩
      have hM2 := hMM.out
      rw [hM2] at hrl
      rcases hG with ⟨hnil, _⟩ | ⟨rb, rcap, rc, hv5, hle, hcap, bS0, hTr, hrow⟩
      · rw [hnil] at hrl; simp at hrl; omega
      · rw [hrl] at hv5 hle
        subst hv5
        obtain ⟨q21, hq21⟩ : ∃ z, Hid (21 + M = z) := ⟨_, rfl⟩
        obtain ⟨fb, hfb⟩ : ∃ z, Hid (192 + (21 + M) = z) := ⟨_, rfl⟩
        have e21 := hq21.out
        have efb := hfb.out
        have r2 : IntKind.i64.wrap (21 + (M : Int)) = (q21 : Int) := by rw [IntKind.wrap_i64]; omega
        have r3 : IntKind.u8.wrap (q21 : Int) = (q21 : Int) := by rw [IntKind.wrap_u8]; omega
        have r4 : IntKind.u8.wrap (192 + (q21 : Int)) = (fb : Int) := by rw [IntKind.wrap_u8]; omega
        have hMp : 0 < M := by omega
        have hfb6 : fb < 256 := by omega
        have hM9 : M ≤ 1048576 := by omega
        have hmS : M ≤ rcap * 1 := by omega
        have bS := bS0
        have b1s := b16.mod hM hT1
        have b2s := b26.mod hM hTR
        have hES : Ext w wr := Ext.trans_mod hE6 hM hTw
        have hrc : ∀ i, i < M → rc i = .int .u8 ((RL.getD i 0 : Nat) : Int) := fun i hi => by
          have h9 := hrow i (by rw [hrl]; exact hi)
          rw [Nat.mul_one] at h9
          rw [h9.1]
          simp [List.getD_eq_getElem?_getD, show i < RL.length by rw [hrl]; exact hi]
        clear e21 hM2 hfull hrow
        have rA := fun W (hW : Ext wr W) => aat_in a1 hc (b1s.ext hW) (Nat.le_refl _)
        have rB := fun W (hW : Ext wr W) => blk_in (bS.ext hW) hrl hmS hrc
        have n1 : ([fb, 148] : List Nat).length ≤ 1048576 := by simp
        have n2 : ([fb, 148] ++ beL 20 cr).length ≤ 1048576 := by simp [l20]
        have hrdS := hHid.out.2.2
        go_upto_region 12 with (first | ((with_reducible (refine Veil.out ?_; apply wl_build2G fb 148 hfb6 (by decide) Hvah.underlying23)); (case hy => rfl); (case hz => rfl); rintro B8 W20 e20 hG20))
        go_upto_region 13 with (first | ((with_reducible (refine Veil.out ?_; apply wl_appendN Hvah.underlying23 rfl wr ([fb, 148]) (beL 20 cr))); (case hnb => exact l20); (case hs => rfl); (case hx => rfl); (case hG => exact hG20); (case hE => exact e20); (case hn => exact n1); (case hk => exact by decide); (case hk2 => omega); (case hd => exact digits_beL _ _); (case hsrc => exact rA _ e20); rintro v21 W21 hG21 hE21))
        go_wp2_with (first | ((with_reducible (refine Veil.out ?_; apply wl_appendN Hvah.underlying23 rfl wr ([fb, 148] ++ beL 20 cr) (RL))); (case hnb => exact hrl); (case hs => rfl); (case hx => rfl); (case hG => exact hG21); (case hE => exact hE21); (case hn => exact n2); (case hk => exact hMp); (case hk2 => omega); (case hd => exact hrdS); (case hsrc => exact rB _ hE21); rintro v22 W22 hG22 hE22) | (go_at_call 133; refine (HH1 _ _ (by rw [hHid.out.2.1, hrl, efb]; exact hG22.nlx (by have h9 := hHid.out.1; rw [hHid.out.2.1, hrl, efb] at h9; exact h9))).mono ?_; rintro e W24 ⟨rfl, e24⟩) | ((with_reducible (refine Veil.out ?_; apply wl_storeA (v := addrA K2))); (case hx => rfl); (case hy => rfl); (case hv => exact h20); (case hB => exact (b2s.ext hE22).ext e24); (case hi => decide); rintro W25 c25 b25 a25 _ m25))
        refine post_A Hvah.results54 rfl b25 a25 h20 (by decide) rfl ⟨rfl, Ext.trans_mod ((hES.trans hE22).trans e24) m25 (fun q hq => by have hq2 : q = R := hq; rw [hq2]; exact gRw)⟩

    · have i0 : (0 : Int) < i := by omega
      have j1 : IntKind.i64.wrap ((i : Int) - 1) = ((i - 1 : Nat) : Int) := by rw [IntKind.wrap_i64]; omega
      have ik : ((i - 1 : Nat) : Int) < 1 := by omega
      have hd6 : D.getD (i - 1) 0 < 256 := dig_getD hdd _
      have KD : ∀ W, Ext wr W → W.cell? ⟨b, off + (i - 1), none⟩ = some (.int .u8 ((D.getD (i - 1) 0 : Nat) : Int)) := fun W hW => by
        rw [hW.cell (Nat.lt_of_lt_of_le q36 hM.size), hM.cell q36 hTb, q46.out (i - 1) (by have := hdlH.out; omega)]
      have hdlen := hdlH.out
      have hstep : (129 :: D.reverse.take (1 - i)) ++ [D.getD (i - 1) 0] = 129 :: D.reverse.take (1 - (i - 1)) := by
        rw [show 1 - (i - 1) = (1 - i) + 1 by omega, List.take_add_one, List.cons_append]
        congr 2
        rw [List.getElem?_reverse (by omega), show D.length - 1 - (1 - i) = i - 1 by omega, List.getElem?_eq_getElem (by omega)]
        simp [List.getD_eq_getElem?_getD, show i - 1 < D.length by omega]
      have hLL : (129 :: D.reverse.take (1 - i)).length ≤ 1048576 := by simp; omega
      obtain ⟨LL, hLLe⟩ : ∃ z, Hid (129 :: D.reverse.take (1 - i) = z) := ⟨_, rfl⟩
      rw [hLLe.out] at hG hstep hLL
      obtain ⟨p, hp⟩ : ∃ z, Hid (i - 1 = z) := ⟨_, rfl⟩
      rw [hp.out] at j1 ik hd6 KD hstep
      obtain ⟨d, hd⟩ : ∃ z, Hid (D.getD p 0 = z) := ⟨_, rfl⟩
      rw [hd.out] at hd6 KD hstep
      have hstH : Hid (_ = _) := hstep
      clear hdlen
      have hT2 : ∀ x, wr.heap.size ≤ x → T x := fun x hx => hTn x (Nat.le_trans hM.size hx)
      clear hstep
      go_wp2_with (first | ((with_reducible (refine Veil.out ?_; apply wl_loadC onek5)); (case hw => rfl); (case hx => rfl); (case hc => exact KD _ (by (repeat (first | with_reducible exact Ext.refl _ | with_reducible assumption | refine Ext.trans ?_ (by with_reducible assumption) | refine Ext.alloc ?_ _ _ | refine Ext.drew ?_ | refine Ext.drewN ?_ _))))) | ((with_reducible (refine Veil.out ?_; apply wl_build1K d Hvah.underlying23)); (case hy => rfl); rintro B47 W11 e11 b11 g11) | ((with_reducible (refine Veil.out ?_; apply wl_appendT Hvah.underlying23 rfl T LL [d])); (case hs => rfl); (case hx => rfl); (case hG => exact hG.ext e11 (fun _ _ _ z => z)); (case hT0 => exact fun b hb => hT2 b (Nat.le_trans e11.size hb)); (case hn => exact hLL); (case hk => exact Nat.one_pos); (case hk2 => exact (by decide : 1 ≤ 1048576)); (case hd => exact fun x hx => by rw [List.mem_singleton.1 hx]; exact hd6); (case hsrc => exact blk_in b11 (l := [d]) (m := 1) rfl (Nat.le_refl _) (fun i hi => by have h0 : i = 0 := Nat.lt_one_iff.1 hi; rw [h0]; rfl)); rintro v12 W12 hG12 hM12))
      go_roundw
      case rel =>
        have hp2 := hp.out
        exact ⟨p, rfl, by omega, by rw [← hstH.out]; exact hG12, (hM.trans_ext e11).trans hM12⟩
      case measure => have hp2 := hp.out; simp [intOf]; omega
end Go.Proofs.YgvahwGreat
