import Derived.Test.YgvahwGreatPp0
namespace Go.Proofs.YgvahwGreat
open Go.RowKit
set_option linter.unusedSimpArgs false
set_option maxRecDepth 100000 in
set_option maxHeartbeats 6400000 in
theorem yCreateAddrB (HK : KSumX) {O : Nat → Prop} {w : World} {cr n : Nat} {vs : Value} (hc : cr < 2 ^ 160) (hO : Small O w) (hs : NV O w vs n) (h8 : n < 18446744073709551616) (hn0 : n ≠ 0) (hn1 : n < 128) : Calls Hvah.prog 54 #[.agg (av cr), vs] w fun e w' => e = .returned (.agg (av (createAddrA cr n))) ∧ Ext w w' := by
  have l20 := len20 hc
  have hdL := caL_dig (cr := cr) h8
  have hlL := caL_len (n := n) hc
  have hrd := rlp_dig h8
  have hr9 := rlp_len h8
  have hcL : caL cr n = [192 + (21 + (rlpNonce n).length), 148] ++ beL 20 cr ++ rlpNonce n := by unfold caL; simp
  have e0 : createAddrA cr n = addrA (kec (caL cr n)) := rfl
  rw [e0]
  clear e0
  have hrl : (rlpNonce n).length = 1 := by unfold rlpNonce; simp [hn0, hn1]
  have hrv : (rlpNonce n).getD 0 0 = n := by unfold rlpNonce; simp [hn0, hn1]
  obtain ⟨L, hL⟩ : ∃ z, Hid (caL cr n = z) := ⟨_, rfl⟩
  rw [hL.out] at hdL hlL hcL ⊢
  obtain ⟨K2, hK2⟩ : ∃ z, Hid (kec L = z) := ⟨_, rfl⟩
  rw [hK2.out]
  have h20 : addrA K2 < 2 ^ 160 := Nat.mod_lt _ (by decide)
  have HH1 := fun (W : World) (v : Value) (h : NLx (fun _ => False) W v L) => yHashedAddrX HK h (by rw [hlL]; omega)
  rw [hK2.out] at HH1
  obtain ⟨RL, hRL⟩ : ∃ z, Hid (rlpNonce n = z) := ⟨_, rfl⟩
  rw [hRL.out] at hcL hrd hrl hrv
  have hHid : Hid (Digits L ∧ _ ∧ Digits RL) := ⟨hdL, hcL, hrd⟩
  clear hdL hlL hcL hr9 hrd HK
  go_enter Hvah.func54, Hvah.ntmps54
  go_upto_region 3 with (first | ((with_reducible (refine Veil.out ?_; apply wl_boxA (x := Operand.tmp 0))); (case hx => rfl); (case hn => exact hc); rintro B1 W1 c1 e1 b1 a1 g1) | ((with_reducible (refine Veil.out ?_; apply wl_allocA)); rintro R W2 c2 e2 b2 _ g2) | ((with_reducible (refine Veil.out ?_; apply wl_build1K 128 Hvah.underlying23)); (case hy => rfl); rintro Bb W3 e3 b3 g3) | (go_at_call 132; refine (nNorm O _ _ _ (hO.ext (by (repeat (first | with_reducible exact Ext.refl _ | with_reducible assumption | refine Ext.trans ?_ (by with_reducible assumption) | refine Ext.alloc ?_ _ _ | refine Ext.drew ?_ | refine Ext.drewN ?_ _)))) (hs.ext (by (repeat (first | with_reducible exact Ext.refl _ | with_reducible assumption | refine Ext.trans ?_ (by with_reducible assumption) | refine Ext.alloc ?_ _ _ | refine Ext.drew ?_ | refine Ext.drewN ?_ _))))).mono ?_; rintro e W4 ⟨r, rfl, hr, e4⟩))
  have hE3 : Ext w W3 := (e1.trans e2).trans e3
  have gRw : w.heap.size ≤ R := Nat.le_trans e1.size g2
  have gbw : w.heap.size ≤ Bb := Nat.le_trans (e1.trans e2).size g3
  have h1b : ¬ B1 = Bb := fun q => by have := (b1.ext e2).lt; omega
  have hRb : ¬ R = Bb := fun q => by have := b2.lt; omega
  have b14 := b1.ext ((e2.trans e3).trans e4)
  have b24 := b2.ext (e3.trans e4)
  have bb4 := b3.ext e4
  have hE4 : Ext w W4 := hE3.trans e4
  have hbW : Bb < W3.heap.size := b3.lt
  clear b1 b2 b3 e1 e2 e3 hE3
  rw [digs_one hn0 (by omega)] at hr
  obtain ⟨o, cp, rfl, hcp, hcm, hbs⟩ := hr
  simp only [List.length_cons, List.length_nil, Nat.zero_add] at hcp ⊢
  obtain ⟨b, off, rfl, q2, q3, q4⟩ := hbs.spot (by simp)
  have K6 : ∀ W, Ext W4 W → W.cell? ⟨b, off, none⟩ = some (.int .u8 (n : Nat)) := fun W hW => by rw [hW.cell q3]; have := q4 0 (by simp); simpa using this
  have nz : (n : Int) < 128 := by omega
  go_upto_region 11 with (first | ((with_reducible (refine Veil.out ?_; apply wl_loadC onek5)); (case hw => first | rfl | go_simp); (case hx => rfl); (case hc => exact K6 _ (by (repeat (first | with_reducible exact Ext.refl _ | with_reducible assumption | refine Ext.trans ?_ (by with_reducible assumption) | refine Ext.alloc ?_ _ _ | refine Ext.drew ?_ | refine Ext.drewN ?_ _))))) | ((with_reducible (refine Veil.out ?_; apply wl_storeC onek5 (v := .int .u8 (n : Nat)))); (case hx => rfl); (case hy => rfl); (case h1 => rfl); (case hB => exact bb4); (case hi => decide); rintro WS bS mS))
  have b1s := b14.mod mS h1b
  have b2s := b24.mod mS hRb
  have hES : Ext w WS := Ext.trans_mod hE4 mS (fun q hq => by have hq2 : q = Bb := hq; rw [hq2]; exact gbw)
  have hmS : 1 ≤ 1 := Nat.le_refl _
  have hrc : ∀ i, i < 1 → updv (fun _ => Value.int .u8 ((128 : Nat) : Int)) 0 (.int .u8 (n : Nat)) i = .int .u8 ((RL.getD i 0 : Nat) : Int) := fun i hi => by
    obtain rfl : i = 0 := by omega
    rw [updv_same, hrv]
  clear bb4 b14 b24 hE4
  have rA := fun W (hW : Ext WS W) => aat_in a1 hc (b1s.ext hW) (Nat.le_refl _)
  have rB := fun W (hW : Ext WS W) => blk_in (bS.ext hW) hrl hmS hrc
  have n1 : ([214, 148] : List Nat).length ≤ 1048576 := by decide
  have n2 : ([214, 148] ++ beL 20 cr).length ≤ 1048576 := by simp [l20]
  have hrdS := hHid.out.2.2
  go_upto_region 12 with (first | ((with_reducible (refine Veil.out ?_; apply wl_build2G 214 148 (by omega) (by decide) Hvah.underlying23)); (case hy => rfl); (case hz => rfl); rintro B8 W20 e20 hG20))
  go_upto_region 13 with (first | ((with_reducible (refine Veil.out ?_; apply wl_appendN Hvah.underlying23 rfl WS ([214, 148]) (beL 20 cr))); (case hnb => exact l20); (case hs => rfl); (case hx => rfl); (case hG => exact hG20); (case hE => exact e20); (case hn => exact n1); (case hk => exact by decide); (case hk2 => omega); (case hd => exact digits_beL _ _); (case hsrc => exact rA _ e20); rintro v21 W21 hG21 hE21))
  go_wp2_with (first | ((with_reducible (refine Veil.out ?_; apply wl_appendN Hvah.underlying23 rfl WS ([214, 148] ++ beL 20 cr) (RL))); (case hnb => exact hrl); (case hs => rfl); (case hx => rfl); (case hG => exact hG21); (case hE => exact hE21); (case hn => exact n2); (case hk => exact by decide); (case hk2 => omega); (case hd => exact hrdS); (case hsrc => exact rB _ hE21); rintro v22 W22 hG22 hE22) | (go_at_call 133; refine (HH1 _ _ (by rw [hHid.out.2.1, hrl]; exact hG22.nlx (by have h9 := hHid.out.1; rw [hHid.out.2.1, hrl] at h9; exact h9))).mono ?_; rintro e W24 ⟨rfl, e24⟩) | ((with_reducible (refine Veil.out ?_; apply wl_storeA (v := addrA K2))); (case hx => rfl); (case hy => rfl); (case hv => exact h20); (case hB => exact (b2s.ext hE22).ext e24); (case hi => decide); rintro W25 c25 b25 a25 _ m25))
  refine post_A Hvah.results54 rfl b25 a25 h20 (by decide) rfl ⟨rfl, Ext.trans_mod ((hES.trans hE22).trans e24) m25 (fun q hq => by have hq2 : q = R := hq; rw [hq2]; exact gRw)⟩
end Go.Proofs.YgvahwGreat
