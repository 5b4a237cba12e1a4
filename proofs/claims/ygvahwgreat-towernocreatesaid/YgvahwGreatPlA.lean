import Derived.Test.YgvahwGreatPl0
namespace Go.Proofs.YgvahwGreat
open Go.RowKit
set_option linter.unusedSimpArgs false
set_option maxRecDepth 100000 in
set_option maxHeartbeats 6400000 in
theorem mCreateAddrA {w : World} {cr n : Nat} (hc : cr < 2 ^ 160) (h8 : n < 18446744073709551616) (hn0 : n = 0) : Calls Hvah.prog 102 #[.agg (av cr), .int .u64 n] w fun e w' => e = .returned (.agg (av (createAddrA cr n))) ∧ Ext w w' := by
  have h20 : addrA (kec (caL cr n)) < 2 ^ 160 := Nat.mod_lt _ (by decide)
  have e0 : createAddrA cr n = addrA (kec (caL cr n)) := rfl
  rw [e0]
  clear e0
  have hdig := caL_dig (cr := cr) h8
  have hcl := caL_len (n := n) hc
  have hat := caL_at (n := n) hc
  have hba := fun (c1 z : Nat → Value) (h1 : AAt c1 0 cr) (j : Nat) (a : 1 ≤ j) (b : j < 22) => ca_base (n := n) h1 hc z j a b
  have k2l := kec_lt (caL cr n)
  have h0 : (caL cr n).getD 0 0 = 192 + (21 + (rlpNonce n).length) := rfl
  have hrl : (rlpNonce n).length = 1 := by unfold rlpNonce; simp [hn0]
  have hrv : (rlpNonce n).getD 0 0 = 128 := by unfold rlpNonce; simp [hn0]
  obtain ⟨L, hL⟩ : ∃ z, Hid (caL cr n = z) := ⟨_, rfl⟩
  rw [hL.out] at hdig hcl hat hba k2l h0 h20 ⊢
  obtain ⟨K2, hK2⟩ : ∃ z, Hid (kec L = z) := ⟨_, rfl⟩
  rw [hK2.out] at k2l h20 ⊢
  have hatH : Hid (_ ∧ _ ∧ _ ∧ _ ∧ _) := ⟨hdig, hcl, hat, hba, h0⟩
  clear hdig hcl hat hba h0
  have HPA3 := fun W X => run_arrayAt W 31 5 20 20 20 (some ⟨X, 12, none⟩) under25k (Nat.le_refl _)
  go_enter Hvah.func102, Hvah.ntmps102
  go_upto_region 3 with (first | ((with_reducible (refine Veil.out ?_; apply wl_boxA (x := Operand.tmp 0))); (case hx => rfl); (case hn => exact hc); rintro B1 W1 c1 e1 b1 a1 g1) | ((with_reducible (refine Veil.out ?_; apply wl_allocA)); rintro R W3 c3 e3 b3 _ g3) | ((with_reducible (refine Veil.out ?_; apply wl_allocF z27k)); rintro X W4 e4 b4 g4) | ((with_reducible (refine Veil.out ?_; apply wl_storeC onek5 (v := .int .u8 148))); (case hx => rfl); (case hy => rfl); (case h1 => rfl); (case hB => exact b4); (case hi => decide); rintro W5 b5 m5))
  have hE4 : Ext w W4 := (e1.trans e3).trans e4
  have g3w : w.heap.size ≤ R := Nat.le_trans e1.size g3
  have g4w : w.heap.size ≤ X := Nat.le_trans (e1.trans e3).size g4
  have hE5 : Ext w W5 := Ext.trans_mod hE4 m5 (fun q hq => by have hq2 : q = X := hq; rw [hq2]; exact g4w)
  have h1X : ¬ B1 = X := fun q => by have := (b1.ext e3).lt; omega
  have hRX : ¬ R = X := fun q => by have := b3.lt; omega
  have b1' := (b1.ext (e3.trans e4)).mod m5 h1X
  have b3' := (b3.ext e4).mod m5 hRX
  clear b1 b3 b4 e1 e3 e4 m5 hE4
  refine w_ext ?_
  rintro W0 hW0
  refine wp_region_held_drew (S := fun w' => (0 ≤ (w' : World).heap.size)) (by kernel_rfl) (Nat.zero_le _) (fun hHeld => ?_)
  have HH : Hid ((0 ≤ (_ : World).heap.size)) := hHeld
  clear hHeld
  refine wpAnyH_take (i := 0) (v := ?_) rfl (by kernel_rfl) (by kernel_rfl) (by kernel_rfl) (fun _ _ _ h => h) (Or.inl ⟨by rfl, ?_⟩) HH.out ?_
  rotate_left
  · intro w hSw; go_simp; try with_reducible rfl
  change wpAnyH _ _ _ _ _ _ _ (Act.put _ (some 12) _) _
  simp only [Act.put, List.setIfInBounds_toArray, List.set_cons_zero, List.set_cons_succ]
  refine wpAnyH_take (i := 1) (v := ?_) rfl (by kernel_rfl) (by kernel_rfl) (by kernel_rfl) (fun _ _ _ h => h) (Or.inl ⟨by rfl, ?_⟩) HH.out ?_
  rotate_left
  · intro w hSw; go_simp; try with_reducible rfl
  change wpAnyH _ _ _ _ _ _ _ (Act.put _ (some 13) _) _
  simp only [Act.put, List.setIfInBounds_toArray, List.set_cons_zero, List.set_cons_succ]
  refine wpAnyH_ready (rs := [2]) (by kernel_rfl) (by simp) ?_
  refine AllReadyH.cons rfl (fun K hK => ?_) AllReadyH.nil
  refine step_any rfl (op_copyR (e := 5) (k := 20) (sz := 1) rfl (by kernel_rfl) (by kernel_rfl) rfl rfl (b5.ext (by (repeat (first | with_reducible exact Ext.refl _ | with_reducible assumption | refine Ext.trans ?_ (by with_reducible assumption) | refine Ext.alloc ?_ _ _ | refine Ext.drew ?_ | refine Ext.drewN ?_ _)))) ((b1'.ext (by (repeat (first | with_reducible exact Ext.refl _ | with_reducible assumption | refine Ext.trans ?_ (by with_reducible assumption) | refine Ext.alloc ?_ _ _ | refine Ext.drew ?_ | refine Ext.drewN ?_ _))))) rfl (by decide) (by decide) (fun j hj => by rw [Nat.zero_add, show c1 j = c1 (0 + j) by rw [Nat.zero_add], aat_at a1 hc j (by omega)]; rfl) ?_)
  rintro W6 b6 m6
  refine hK.out _ _ (Nat.zero_le _) (fun hHeld => ?_)
  clear hK K HH
  have HH : Hid ((0 ≤ (_ : World).heap.size)) := hHeld
  clear hHeld
  change wpAnyH _ _ _ _ _ _ _ (Act.put _ (some 14) _) _
  simp only [Act.put, List.setIfInBounds_toArray, List.set_cons_zero, List.set_cons_succ]
  refine wpAnyH_done (by kernel_rfl) ?_ _
  have hW5 : Ext W5 W0 := by (repeat (first | with_reducible exact Ext.refl _ | with_reducible assumption | refine Ext.trans ?_ (by with_reducible assumption) | refine Ext.alloc ?_ _ _ | refine Ext.drew ?_ | refine Ext.drewN ?_ _))
  have hE6 : Ext w W6 := Ext.trans_mod (hE5.trans hW5.drew) m6 (fun q hq => by have hq2 : q = X := hq; rw [hq2]; exact g4w)
  replace b3' := (b3'.ext hW5.drew).mod m6 hRX
  clear b1' b5 m6 HH hE5 hW0 hW5
  have hx6 : Hid (∀ j, 1 ≤ j → j < 22 → layv (updv (fun _ => Value.int .u8 0) 1 (.int .u8 148)) 2 (rowOf c1 0 (20 * 1)) j = .int .u8 ((L.getD j 0 : Nat) : Int)) := fun j a b => hatH.out.2.2.2.1 _ _ a1 j a b
  obtain ⟨c6, hc6⟩ : ∃ z, Hid (layv (updv (fun _ => Value.int .u8 0) 1 (.int .u8 148)) 2 (rowOf c1 0 (20 * 1)) = z) := ⟨_, rfl⟩
  rw [hc6.out] at hx6 b6
  have nz : ((n : Nat) : Int) = 0 := by omega
  go_upto_region 20 with (first | ((with_reducible (refine Veil.out ?_; apply wl_storeC onek5 (v := .int .u8 (128 : Nat)))); (case hx => rfl); (case hy => rfl); (case h1 => rfl); (case hB => exact b6); (case hi => decide); rintro WS bS mS))
  have hES : Ext w WS := Ext.trans_mod hE6 mS (fun q hq => by have hq2 : q = X := hq; rw [hq2]; exact g4w)
  have b3s := b3'.mod mS hRX
  have hxS : Hid (∀ j, 1 ≤ j → j < 22 + 1 → updv c6 22 (.int .u8 (128 : Nat)) j = .int .u8 ((L.getD j 0 : Nat) : Int)) := fun j a b => by
    by_cases e : j = 22
    · subst e
      rw [updv_same]
      have h9 := hatH.out.2.2.1 0
      rw [show 22 + 0 = 22 from rfl] at h9
      rw [h9, hrv]
    · rw [updv_ne _ _ e]; exact hx6.out j a (by omega)
  clear b6 hE6 b3' mS
  obtain ⟨hdig, hcl, hat, hba, h0⟩ := hatH.out
  rw [hrl] at hcl h0

  clear hat hba
  go_upto_region 21 with (first | ((with_reducible (refine Veil.out ?_; apply wl_storeC onek5 (v := .int .u8 (214 : Nat)))); (case hx => rfl); (case hy => rfl); (case h1 => rfl); (case hB => exact bS); (case hi => decide); rintro W20 b20 m20))
  have hE20 : Ext w W20 := Ext.trans_mod hES m20 (fun q hq => by have hq2 : q = X := hq; rw [hq2]; exact g4w)
  have b3t := b3s.mod m20 hRX
  have hNL : NL (fun _ => False) W20 (.slice (some ⟨X, 0, none⟩) (22 + 1) 32) L := blk_NL b20 (fun q => q) hcl (by omega) (by omega) (by decide) hdig (fun j hj => by
    rcases Nat.eq_zero_or_pos j with e | e
    · subst e; rw [updv_same, h0]
    · rw [updv_ne _ _ (by omega)]; exact hxS.out j e (by omega))
  have HS2 := eSum _ W20 _ _ hNL (by rw [hcl]; omega)
  rw [hK2.out] at HS2
  clear hNL hcl hdig h0 b20 bS b3s hES
  try simp only [Nat.reduceAdd] at HS2
  go_upto_region 22 with (first | (go_at_call 175; refine HS2.mono ?_; rintro e W11 ⟨rfl, e11⟩) | ((with_reducible (refine Veil.out ?_; apply wl_allocF z27k (dst := some 10))); rintro H W12 e12 b12 g12) | ((with_reducible (refine Veil.out ?_; apply wl_storeRow rt27k (r := bw K2))); (case hx => rfl); (case hy => rfl); (case hr => exact bw_sizeP k2l); (case h1 => exact bw_onesP _); (case hB => exact b12); (case hi => decide); rintro W13 b13 m13))
  have hrow := hashRow k2l (layv (fun _ => Value.int .u8 0) 0 (bw K2)) (fun i hi => by rw [layv_at _ _ _ _ (Nat.zero_le _) (by rw [bw_sizeP k2l]; omega), Nat.sub_zero])
  have g12w : w.heap.size ≤ H := Nat.le_trans (hE20.trans e11).size g12
  have hRH : ¬ R = H := fun q => by have := (b3t.ext e11).lt; omega
  have hE13 : Ext w W13 := Ext.trans_mod ((hE20.trans e11).trans e12) m13 (fun q hq => by have hq2 : q = H := hq; rw [hq2]; exact g12w)
  have b3v := (b3t.ext (e11.trans e12)).mod m13 hRH
  clear b3t
  go_wp2_with (first | ((with_reducible (refine Veil.out ?_; apply wl_loadRow rt25)); (case hx => rfl); (case hB => exact b13); (case hi => decide); rw [hrow]) | ((with_reducible (refine Veil.out ?_; apply wl_storeA (v := addrA K2))); (case hx => rfl); (case hy => rfl); (case hv => exact h20); (case hB => exact b3v); (case hi => decide); rintro W14 c14 b14 a14 _ m14))
  refine post_A Hvah.results102 rfl b14 a14 h20 (by decide) rfl ⟨rfl, Ext.trans_mod hE13 m14 (fun q hq => by have hq2 : q = R := hq; rw [hq2]; exact g3w)⟩
end Go.Proofs.YgvahwGreat
