import Derived.Test.YgvahwGreatPl0
namespace Go.Proofs.YgvahwGreat
open Go.RowKit
set_option linter.unusedSimpArgs false
set_option maxRecDepth 100000 in
set_option maxHeartbeats 6400000 in
theorem mCreateAddrC {w : World} {cr n : Nat} (hc : cr < 2 ^ 160) (h8 : n < 18446744073709551616) (hn1 : 128 ≤ n) : Calls Hvah.prog 102 #[.agg (av cr), .int .u64 n] w fun e w' => e = .returned (.agg (av (createAddrA cr n))) ∧ Ext w w' := by
  have h20 : addrA (kec (caL cr n)) < 2 ^ 160 := Nat.mod_lt _ (by decide)
  have e0 : createAddrA cr n = addrA (kec (caL cr n)) := rfl
  rw [e0]
  clear e0
  have hdig := caL_dig (cr := cr) h8
  have hcl := caL_len (n := n) hc
  have hat := caL_at (n := n) hc
  have hba := fun (c1 z : Nat → Value) (h1 : AAt c1 0 cr) (j : Nat) (a : 1 ≤ j) (b : j < 22) => ca_base (n := n) h1 hc z j a b
  have k2l := kec_lt (caL cr n)
  have h0 : (caL cr n).getD 0 0 = 192 + (21 + (rlpNonce n).length) := rfl
  have hrl : (rlpNonce n).length = dl n + 1 := by
    unfold rlpNonce
    rw [if_neg (by omega), if_neg (by omega), List.length_cons, List.length_reverse]; rfl
  have hk8 : dl n ≤ 8 := (dl_le_iff n 8).2 h8
  have hkp : ∀ i, i < dl n → n / 256 ^ i ≠ 0 := fun i hi h => by
    have : ¬ dl n ≤ i := by omega
    rw [dl_le_iff] at this
    have h9 := Nat.div_add_mod n (256 ^ i)
    have h10 := Nat.mod_lt n (Nat.pow_pos (n := i) (show 0 < 256 by decide))
    rw [h] at h9; omega
  have hkz : n / 256 ^ dl n = 0 := Nat.div_eq_of_lt ((dl_le_iff n _).1 (Nat.le_refl _))
  have hrv0 : (rlpNonce n).getD 0 0 = 128 + dl n := by
    unfold rlpNonce
    rw [if_neg (by omega), if_neg (by omega)]; rfl
  have hrv : ∀ i, i < dl n → (rlpNonce n).getD (1 + i) 0 = n / 256 ^ (dl n - 1 - i) % 256 := fun i hi => by
    unfold rlpNonce
    rw [if_neg (by omega), if_neg (by omega), Nat.add_comm 1 i, List.getD_cons_succ, digs_at n i hi]
  obtain ⟨k, hk⟩ : ∃ z, Hid (dl n = z) := ⟨_, rfl⟩
  rw [hk.out] at hrl hk8 hkp hkz hrv0 hrv
  have hf : Hid (_ ∧ _ ∧ _ ∧ _) := ⟨hkp, hkz, hrv0, hrv⟩
  clear hkp hkz hrv0 hrv
  obtain ⟨L, hL⟩ : ∃ z, Hid (caL cr n = z) := ⟨_, rfl⟩
  rw [hL.out] at hdig hcl hat hba k2l h0 h20 ⊢
  obtain ⟨K2, hK2⟩ : ∃ z, Hid (kec L = z) := ⟨_, rfl⟩
  rw [hK2.out] at k2l h20 ⊢
  have hatH : Hid (_ ∧ _ ∧ _ ∧ _ ∧ _) := ⟨hdig, hcl, hat, hba, h0⟩
  clear hdig hcl hat hba h0
  have HPA3 := fun W X => run_arrayAt W 31 5 20 20 20 (some ⟨X, 12, none⟩) under25k (Nat.le_refl _)
  go_enter Hvah.func102, Hvah.ntmps102
  go_upto_region 3 with (first | ((with_reducible (refine Veil.out ?_; apply wl_boxA (x := Operand.tmp 0))); (case hx => rfl); (case hn => exact hc); rintro B1 W1 c1 e1 b1 a1 g1) | ((with_reducible (refine Veil.out ?_; apply wl_allocA)); rintro R W3 c3 e3 b3 _ g3) | ((with_reducible (refine Veil.out ?_; apply wl_allocF z27k)); rintro X W4 e4 b4 g4) | ((with_reducible (refine Veil.out ?_; apply wl_storeC onek5 (v := .int .u8 148))); (case hx => rfl); (case hy => rfl); (case h1 => rfl); (case hB => exact b4); (case hi => decide); rintro W5 b5 m5))
  have hE4 : Ext w W4 := (e1.trans e3).trans e4
  have g3w : w.heap.size ≤ R := Nat.le_trans e1.size g3
  have g4w : w.heap.size ≤ X := Nat.le_trans (e1.trans e3).size g4
  have hE5 : Ext w W5 := Ext.trans_mod hE4 m5 (fun q hq => by have hq2 : q = X := hq; rw [hq2]; exact g4w)
  have h1X : ¬ B1 = X := fun q => by have := (b1.ext e3).lt; omega
  have hRX : ¬ R = X := fun q => by have := b3.lt; omega
  have b1' := (b1.ext (e3.trans e4)).mod m5 h1X
  have b3' := (b3.ext e4).mod m5 hRX
  clear b1 b3 b4 e1 e3 e4 m5 hE4
  refine w_ext ?_
  rintro W0 hW0
  refine wp_region_held_drew (S := fun w' => (0 ≤ (w' : World).heap.size)) (by kernel_rfl) (Nat.zero_le _) (fun hHeld => ?_)
  have HH : Hid ((0 ≤ (_ : World).heap.size)) := hHeld
  clear hHeld
  refine wpAnyH_take (i := 0) (v := ?_) rfl (by kernel_rfl) (by kernel_rfl) (by kernel_rfl) (fun _ _ _ h => h) (Or.inl ⟨by rfl, ?_⟩) HH.out ?_
  rotate_left
  · intro w hSw; go_simp; try with_reducible rfl
  change wpAnyH _ _ _ _ _ _ _ (Act.put _ (some 12) _) _
  simp only [Act.put, List.setIfInBounds_toArray, List.set_cons_zero, List.set_cons_succ]
  refine wpAnyH_take (i := 1) (v := ?_) rfl (by kernel_rfl) (by kernel_rfl) (by kernel_rfl) (fun _ _ _ h => h) (Or.inl ⟨by rfl, ?_⟩) HH.out ?_
  rotate_left
  · intro w hSw; go_simp; try with_reducible rfl
  change wpAnyH _ _ _ _ _ _ _ (Act.put _ (some 13) _) _
  simp only [Act.put, List.setIfInBounds_toArray, List.set_cons_zero, List.set_cons_succ]
  refine wpAnyH_ready (rs := [2]) (by kernel_rfl) (by simp) ?_
  refine AllReadyH.cons rfl (fun K hK => ?_) AllReadyH.nil
  refine step_any rfl (op_copyR (e := 5) (k := 20) (sz := 1) rfl (by kernel_rfl) (by kernel_rfl) rfl rfl (b5.ext (by (repeat (first | with_reducible exact Ext.refl _ | with_reducible assumption | refine Ext.trans ?_ (by with_reducible assumption) | refine Ext.alloc ?_ _ _ | refine Ext.drew ?_ | refine Ext.drewN ?_ _)))) ((b1'.ext (by (repeat (first | with_reducible exact Ext.refl _ | with_reducible assumption | refine Ext.trans ?_ (by with_reducible assumption) | refine Ext.alloc ?_ _ _ | refine Ext.drew ?_ | refine Ext.drewN ?_ _))))) rfl (by decide) (by decide) (fun j hj => by rw [Nat.zero_add, show c1 j = c1 (0 + j) by rw [Nat.zero_add], aat_at a1 hc j (by omega)]; rfl) ?_)
  rintro W6 b6 m6
  refine hK.out _ _ (Nat.zero_le _) (fun hHeld => ?_)
  clear hK K HH
  have HH : Hid ((0 ≤ (_ : World).heap.size)) := hHeld
  clear hHeld
  change wpAnyH _ _ _ _ _ _ _ (Act.put _ (some 14) _) _
  simp only [Act.put, List.setIfInBounds_toArray, List.set_cons_zero, List.set_cons_succ]
  refine wpAnyH_done (by kernel_rfl) ?_ _
  have hW5 : Ext W5 W0 := by (repeat (first | with_reducible exact Ext.refl _ | with_reducible assumption | refine Ext.trans ?_ (by with_reducible assumption) | refine Ext.alloc ?_ _ _ | refine Ext.drew ?_ | refine Ext.drewN ?_ _))
  have hE6 : Ext w W6 := Ext.trans_mod (hE5.trans hW5.drew) m6 (fun q hq => by have hq2 : q = X := hq; rw [hq2]; exact g4w)
  replace b3' := (b3'.ext hW5.drew).mod m6 hRX
  clear b1' b5 m6 HH hE5 hW0 hW5
  have hx6 : Hid (∀ j, 1 ≤ j → j < 22 → layv (updv (fun _ => Value.int .u8 0) 1 (.int .u8 148)) 2 (rowOf c1 0 (20 * 1)) j = .int .u8 ((L.getD j 0 : Nat) : Int)) := fun j a b => hatH.out.2.2.2.1 _ _ a1 j a b
  obtain ⟨c6, hc6⟩ : ∃ z, Hid (layv (updv (fun _ => Value.int .u8 0) 1 (.int .u8 148)) 2 (rowOf c1 0 (20 * 1)) = z) := ⟨_, rfl⟩
  rw [hc6.out] at hx6 b6
  have nz : ((n : Int) == 0) = false := by simp; omega
  have nz2 : ¬ (n : Int) < 128 := by omega
  go_upto_region 7 with (fail)
  try simp only [Act.put]
  go_loopw [7, 8] (fun iv yv wr => ∃ (i y : Nat), iv = .int .i64 (i : Nat) ∧ yv = .int .u64 (y : Nat) ∧ i ≤ k ∧ Hid (n / 256 ^ i = y) ∧ wr = W6) (fun iv _ _ => 9 - (intOf iv).toNat)
  case atStart => exact ⟨0, n, rfl, rfl, Nat.zero_le _, (by rw [Nat.pow_zero, Nat.div_one] : n / 256 ^ 0 = n), rfl⟩
  case round =>
    obtain ⟨i, y, rfl, rfl, hik, hy, hww⟩ := hrel
    replace hww := hww.symm
    subst hww
    rcases Nat.lt_or_ge i k with hlt | hge
    · have hy0 : 0 < y := by
        have h1 := hf.out.1 i hlt
        have h2 := hy.out
        omega
      have y0 : (0 : Int) < y := by omega
      have j1 : IntKind.i64.wrap ((i : Int) + 1) = ((i + 1 : Nat) : Int) := by rw [IntKind.wrap_i64]; omega
      obtain ⟨i1, hi1⟩ : ∃ z, Hid (i + 1 = z) := ⟨_, rfl⟩
      rw [hi1.out] at j1
      obtain ⟨y2, hy2⟩ : ∃ z, Hid (y / 256 = z) := ⟨_, rfl⟩
      have d1 : (y : Int) / 256 = (y2 : Int) := by have := hy2.out; omega
      have d2 : (y : Int) / 2 ^ 8 = (y2 : Int) := by rw [show (2 : Int) ^ 8 = 256 by decide]; exact d1
      go_wp2
      go_roundw
      case rel =>
        have h1 := hi1.out
        refine ⟨i1, y2, rfl, rfl, by omega, ?_, trivial⟩
        show n / 256 ^ i1 = y2
        rw [← h1, ← hy2.out, ← hy.out, Nat.pow_succ, Nat.div_div_eq_div_mul]
      case measure => have h1 := hi1.out; simp [intOf]; omega
    · obtain rfl : i = k := by omega
      have hy0 : y = 0 := by rw [← hy.out]; exact hf.out.2.1
      subst hy0
      obtain ⟨f22, hf22⟩ : ∃ z, Hid (128 + i = z) := ⟨_, rfl⟩
      have t1 : IntKind.u8.wrap (i : Int) = (i : Int) := by rw [IntKind.wrap_u8]; omega
      have t2 : IntKind.u8.wrap (128 + (i : Int)) = (f22 : Int) := by have := hf22.out; rw [IntKind.wrap_u8]; omega
      go_upto_region 12 with (first | ((with_reducible (refine Veil.out ?_; apply wl_storeC onek5 (v := .int .u8 (f22 : Nat)))); (case hx => rfl); (case hy => rfl); (case h1 => rfl); (case hB => exact b6); (case hi => decide); rintro W8 b8 m8))
      try simp only [Act.put]
      have hE8 : Ext w W8 := Ext.trans_mod hE6 m8 (fun q hq => by have hq2 : q = X := hq; rw [hq2]; exact g4w)
      have b38 := b3'.mod m8 hRX
      have hx8 : Hid (∀ j, 1 ≤ j → j < 23 → updv c6 22 (.int .u8 (f22 : Nat)) j = .int .u8 ((L.getD j 0 : Nat) : Int)) := fun j a b => by
        by_cases e : j = 22
        · subst e
          rw [updv_same]
          have h9 := hatH.out.2.2.1 0
          rw [show 22 + 0 = 22 from rfl] at h9
          rw [h9, hf.out.2.2.1, hf22.out]
        · rw [updv_ne _ _ e]; exact hx6.out j a (by omega)
      clear b6 hE6 b3' m8
      go_loopw [9] (fun iv wr => ∃ (q : Nat) (cx : Nat → Value), iv = .int .i64 (q : Nat) ∧ q ≤ i ∧ Blk wr X 32 32 cx ∧ Hid (∀ j, 1 ≤ j → j < 23 + q → cx j = .int .u8 ((L.getD j 0 : Nat) : Int)) ∧ Blk wr R 20 31 c3 ∧ Ext w wr) (fun iv _ => 9 - (intOf iv).toNat)
      case atStart => exact ⟨0, _, rfl, Nat.zero_le _, b8, hx8, b38, hE8⟩
      case round =>
        clear b8 hx8 b38 hE8
        obtain ⟨q, cx, rfl, hqi, bx, hxx, bRx, hEx⟩ := hrel
        rcases Nat.lt_or_ge q i with hlq | hgq
        · have q0 : (q : Int) < i := by omega
          have j1 : IntKind.i64.wrap (23 + (q : Int)) = ((23 + q : Nat) : Int) := by rw [IntKind.wrap_i64]; omega
          have j2 : IntKind.i64.wrap ((i : Int) - 1) = ((i - 1 : Nat) : Int) := by rw [IntKind.wrap_i64]; omega
          have j3 : IntKind.i64.wrap (((i - 1 : Nat) : Int) - q) = ((i - 1 - q : Nat) : Int) := by rw [IntKind.wrap_i64]; omega
          have j4 : IntKind.i64.wrap (8 * ((i - 1 - q : Nat) : Int)) = ((8 * (i - 1 - q) : Nat) : Int) := by rw [IntKind.wrap_i64]; omega
          have i32 : ((23 + q : Nat) : Int) < 32 := by omega
          have j5 : IntKind.i64.wrap ((q : Int) + 1) = ((q + 1 : Nat) : Int) := by rw [IntKind.wrap_i64]; omega
          have hvv := hf.out.2.2.2 q hlq
          have hp : (n : Int) / 2 ^ (8 * (i - 1 - q)) = ((n / 256 ^ (i - 1 - q) : Nat) : Int) := by
            rw [show (256 : Nat) = 2 ^ 8 by decide, ← Nat.pow_mul]
            simp
          have hw8 : IntKind.u8.wrap ((n / 256 ^ (i - 1 - q) : Nat) : Int) = ((n / 256 ^ (i - 1 - q) % 256 : Nat) : Int) := by rw [IntKind.wrap_u8]; omega
          obtain ⟨v, hv⟩ : ∃ z, Hid (n / 256 ^ (i - 1 - q) % 256 = z) := ⟨_, rfl⟩
          rw [hv.out] at hvv hw8
          obtain ⟨yq, hyq⟩ : ∃ z, Hid (n / 256 ^ (i - 1 - q) = z) := ⟨_, rfl⟩
          rw [hyq.out] at hp hw8
          obtain ⟨s8, hs8⟩ : ∃ z, Hid (8 * (i - 1 - q) = z) := ⟨_, rfl⟩
          rw [hs8.out] at hp j4
          obtain ⟨dd, hdd⟩ : ∃ z, Hid (i - 1 - q = z) := ⟨_, rfl⟩
          rw [hdd.out] at j3 j4
          obtain ⟨im, him⟩ : ∃ z, Hid (i - 1 = z) := ⟨_, rfl⟩
          rw [him.out] at j2 j3
          obtain ⟨p, hpp⟩ : ∃ z, Hid (23 + q = z) := ⟨_, rfl⟩
          rw [hpp.out] at j1 i32
          obtain ⟨q1, hq1⟩ : ∃ z, Hid (q + 1 = z) := ⟨_, rfl⟩
          rw [hq1.out] at j5
          have hvH : Hid (_ = _) := hvv
          have hs64 : (s8 : Int) < 64 := by have := hs8.out; omega
          clear hvv
          go_wp2_with (first | ((with_reducible (refine Veil.out ?_; apply wl_storeC onek5 (v := .int .u8 (v : Nat)))); (case hx => rfl); (case hy => rfl); (case h1 => rfl); (case hB => exact bx); (case hi => omega); rintro W9 b9 m9))
          go_roundw
          case rel =>
            have h1 := hq1.out
            have h2 := hpp.out
            refine ⟨q1, _, rfl, by omega, b9, ?_, bRx.mod m9 hRX, Ext.trans_mod hEx m9 (fun q hq => by have hq2 : q = X := hq; rw [hq2]; exact g4w)⟩
            show ∀ j, 1 ≤ j → j < 23 + q1 → updv cx p (.int .u8 (v : Nat)) j = _
            intro j a b
            by_cases e : j = p
            · subst e
              rw [updv_same, ← h2, show 23 + q = 22 + (1 + q) by omega, hatH.out.2.2.1 (1 + q), hvH.out]
            · rw [updv_ne _ _ e]; exact hxx.out j a (by omega)
          case measure => have h1 := hq1.out; simp [intOf]; omega
        · obtain rfl : q = i := by omega
          obtain ⟨M, hM⟩ : ∃ z, Hid (q + 1 = z) := ⟨_, rfl⟩
          have hM2 := hM.out
          rw [hM2] at hrl
          have r1 : IntKind.i64.wrap (1 + (q : Int)) = (M : Int) := by rw [IntKind.wrap_i64]; omega
          obtain ⟨q21, hq21⟩ : ∃ z, Hid (21 + M = z) := ⟨_, rfl⟩
          obtain ⟨q22, hq22⟩ : ∃ z, Hid (22 + M = z) := ⟨_, rfl⟩
          obtain ⟨fb, hfb⟩ : ∃ z, Hid (192 + (21 + M) = z) := ⟨_, rfl⟩
          have e21 := hq21.out
          have e22 := hq22.out
          have efb := hfb.out
          have r2 : IntKind.i64.wrap (21 + (M : Int)) = (q21 : Int) := by rw [IntKind.wrap_i64]; omega
          have r3 : IntKind.u8.wrap (q21 : Int) = (q21 : Int) := by rw [IntKind.wrap_u8]; omega
          have r4 : IntKind.u8.wrap (192 + (q21 : Int)) = (fb : Int) := by rw [IntKind.wrap_u8]; omega
          have r5 : IntKind.i64.wrap (22 + (M : Int)) = (q22 : Int) := by rw [IntKind.wrap_i64]; omega
          have r6 : (q22 : Int) ≤ 32 := by omega
          have r7 : q22 ≤ 32 := by omega
          have hxS : Hid (∀ j, 1 ≤ j → j < q22 → cx j = .int .u8 ((L.getD j 0 : Nat) : Int)) := fun j a b => hxx.out j a (by omega)
          have bS := bx
          have b3s := bRx
          have hES := hEx
          clear bx bRx hEx hxx
          obtain ⟨hdig, hcl, hat, hba, h0⟩ := hatH.out
          rw [hrl] at hcl h0
          rw [e22] at hcl
          rw [efb] at h0
          clear e21 e22 efb hM2 hrl
          clear hat hba
          go_upto_region 21 with (first | ((with_reducible (refine Veil.out ?_; apply wl_storeC onek5 (v := .int .u8 (fb : Nat)))); (case hx => rfl); (case hy => rfl); (case h1 => rfl); (case hB => exact bS); (case hi => decide); rintro W20 b20 m20))
          have hE20 : Ext w W20 := Ext.trans_mod hES m20 (fun q hq => by have hq2 : q = X := hq; rw [hq2]; exact g4w)
          have b3t := b3s.mod m20 hRX
          have hNL : NL (fun _ => False) W20 (.slice (some ⟨X, 0, none⟩) q22 32) L := blk_NL b20 (fun q => q) hcl r7 r7 (by decide) hdig (fun j hj => by
            rcases Nat.eq_zero_or_pos j with e | e
            · subst e; rw [updv_same, h0]
            · rw [updv_ne _ _ (by omega)]; exact hxS.out j e (by omega))
          have HS2 := eSum _ W20 _ _ hNL (by rw [hcl]; omega)
          rw [hK2.out] at HS2
          clear hNL hcl hdig h0 b20 bS b3s hES
          try simp only [Nat.reduceAdd] at HS2
          go_upto_region 22 with (first | (go_at_call 175; refine HS2.mono ?_; rintro e W11 ⟨rfl, e11⟩) | ((with_reducible (refine Veil.out ?_; apply wl_allocF z27k (dst := some 10))); rintro H W12 e12 b12 g12) | ((with_reducible (refine Veil.out ?_; apply wl_storeRow rt27k (r := bw K2))); (case hx => rfl); (case hy => rfl); (case hr => exact bw_sizeP k2l); (case h1 => exact bw_onesP _); (case hB => exact b12); (case hi => decide); rintro W13 b13 m13))
          have hrow := hashRow k2l (layv (fun _ => Value.int .u8 0) 0 (bw K2)) (fun i hi => by rw [layv_at _ _ _ _ (Nat.zero_le _) (by rw [bw_sizeP k2l]; omega), Nat.sub_zero])
          have g12w : w.heap.size ≤ H := Nat.le_trans (hE20.trans e11).size g12
          have hRH : ¬ R = H := fun q => by have := (b3t.ext e11).lt; omega
          have hE13 : Ext w W13 := Ext.trans_mod ((hE20.trans e11).trans e12) m13 (fun q hq => by have hq2 : q = H := hq; rw [hq2]; exact g12w)
          have b3v := (b3t.ext (e11.trans e12)).mod m13 hRH
          clear b3t
          go_wp2_with (first | ((with_reducible (refine Veil.out ?_; apply wl_loadRow rt25)); (case hx => rfl); (case hB => exact b13); (case hi => decide); rw [hrow]) | ((with_reducible (refine Veil.out ?_; apply wl_storeA (v := addrA K2))); (case hx => rfl); (case hy => rfl); (case hv => exact h20); (case hB => exact b3v); (case hi => decide); rintro W14 c14 b14 a14 _ m14))
          refine post_A Hvah.results102 rfl b14 a14 h20 (by decide) rfl ⟨rfl, Ext.trans_mod hE13 m14 (fun q hq => by have hq2 : q = R := hq; rw [hq2]; exact g3w)⟩

end Go.Proofs.YgvahwGreat
