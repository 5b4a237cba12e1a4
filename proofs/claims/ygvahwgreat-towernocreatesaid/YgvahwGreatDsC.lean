import Derived.Test.YgvahwGreatDr
namespace Go.Proofs.YgvahwGreat
open Go.RowKit
set_option linter.unusedSimpArgs false
set_option maxRecDepth 100000 in
set_option maxHeartbeats 6400000 in
theorem uRemC (g h top : Nat) (t t' : TypeId) (x m : List Nat) (w : World) (hx : UB w g t x) (hm : UB w h t' m) (lx : x.length = 16) (lm : m.length = 8) (dx : L64 x) (dm : L64 m) (hmz : ∀ i, 1 ≤ i → i < 8 → m.getD i 0 = 0) (hmt : 0 < 1 → m.getD (1 - 1) 0 ≠ 0) (ht : top ≤ 16) (hxz : ∀ i, top ≤ i → i < 16 → x.getD i 0 = 0) (hxt : 0 < top → x.getD (top - 1) 0 ≠ 0) (htn : 1 ≤ top) : Calls Hvah.prog 368 #[.pointer (some ⟨g, 0, none⟩), .pointer (some ⟨h, 0, none⟩)] w fun e w' => ∃ rl pv, e = .returned (.tuple #[.agg (ucells rl).toArray, .agg pv]) ∧ rl.length = 8 ∧ L64 rl ∧ pv.size = 3 ∧ Ones pv ∧ lv rl = dmod (lv x) (lv m) ∧ Ext w w' := by
  have HL := fun W (hW : Ext w W) => uLimbsW h 1 t' m W (hm.ext hW) lm (by decide) hmz hmt
  go_enter Hvah.func368, Hvah.ntmps368
  go_upto_region 3 with (first | ((with_reducible (refine Veil.out ?_; apply wl_allocF z337d)); rintro R W1 e1 bR gR) | ((with_reducible (refine Veil.out ?_; apply wl_allocF z408)); rintro P W2 e2 bP gP) | (go_at_call 409; refine (HL _ (by (repeat (first | with_reducible exact Ext.refl _ | with_reducible assumption | refine Ext.trans ?_ (by with_reducible assumption) | refine Ext.alloc ?_ _ _ | refine Ext.drew ?_ | refine Ext.drewN ?_ _)))).mono ?_; rintro e w1 ⟨rfl, hww⟩; replace hww := hww.symm; subst hww))
  try simp only [Act.put]
  have gPw : w.heap.size ≤ P := Nat.le_trans e1.size gP
  have hRP : ¬ R = P := fun q => by have := bR.lt; omega
  have bR2 := bR.ext e2
  have hE2 : Ext w W2 := e1.trans e2
  clear bR e1 e2
  go_loopw [7] (fun iv wr => ∃ k : Nat, iv = .int .u8 (k : Nat) ∧ top ≤ k ∧ k ≤ 16 ∧ wr = W2) (fun iv _ => (intOf iv).toNat)
  case atStart => exact ⟨16, rfl, ht, by decide, rfl⟩
  case round =>
    obtain ⟨k, rfl, hk1, hk2, hww⟩ := hrel
    replace hww := hww.symm
    subst hww
    rcases Nat.eq_zero_or_pos k with hk0 | hk0
    · subst hk0
      obtain rfl : top = 0 := by omega
      exact absurd htn (by decide)
    · have k0 : (0 : Int) < k := by omega
      have j1 : IntKind.u8.wrap ((k : Int) - 1) = ((k - 1 : Nat) : Int) := by rw [IntKind.wrap_u8]; omega
      have i1 : ((k - 1 : Nat) : Int) < 16 := by omega
      have K1 := (hx.ext hE2).atD (i := k - 1) (by omega)
      rcases Nat.lt_or_ge top k with hlt | hge
      · rw [hxz (k - 1) (by omega) (by omega)] at K1
        obtain ⟨p, hp⟩ : ∃ p, Hid (k - 1 = p) := ⟨_, rfl⟩
        rw [hp.out] at K1 j1 i1
        go_wp2_with ((with_reducible (refine Veil.out ?_; apply wl_loadC onet26k)); (case hw => first | rfl | go_simp); (case hx => rfl); (case hc => exact K1))
        go_roundw
        case rel => have hp2 := hp.out; exact ⟨p, int_eq (by omega), by omega, by omega, trivial⟩
        case measure => have hp2 := hp.out; simp [intOf]; omega
      · obtain rfl : top = k := by omega
        have hne := hxt hk0
        obtain ⟨p, hp⟩ : ∃ p, Hid (top - 1 = p) := ⟨_, rfl⟩
        rw [hp.out] at K1 j1 i1 hne
        obtain ⟨y, hy⟩ : ∃ y, Hid (x.getD p 0 = y) := ⟨_, rfl⟩
        rw [hy.out] at K1 hne
        have hb : ((y : Int) == 0) = false := by simp; omega
        have hym : lv m = m.getD 0 0 := by
          rw [lv_of_zeros m 1 (by omega) (fun i h1 h2 => hmz i h1 (by omega))]
          match m, lm with
          | a :: l, _ => simp [lv]
        have hy0 : m.getD 0 0 ≠ 0 := hmt (by decide)
        have hy6 := dm.getD 0
        have KM : ∀ W, Ext w W → W.cell? ⟨h, 0, none⟩ = some (.int .u64 ((m.getD 0 0 : Nat) : Int)) := fun W hW => (hm.ext hW).atD (by omega)
        have hymH : Hid (lv m = m.getD 0 0) := hym
        clear hym
        obtain ⟨z, hz⟩ : ∃ z, Hid (m.getD 0 0 = z) := ⟨_, rfl⟩
        rw [hz.out] at hy0 hy6 KM
        have c2 : ¬ (top : Int) < 1 := by omega
        have s1 : IntKind.u8.wrap ((top : Int) - 1) = ((top - 1 : Nat) : Int) := by rw [IntKind.wrap_u8]; omega
        rw [hp.out] at s1
        have s2 : IntKind.u8.wrap ((p : Int) + 1) = (top : Int) := by have hp2 := hp.out; rw [IntKind.wrap_u8]; omega
        go_upto_region 13 with (first | ((with_reducible (refine Veil.out ?_; apply wl_loadC onet26k)); (case hw => first | rfl | go_simp); (case hx => rfl); (case hc => exact K1)) | ((with_reducible (refine Veil.out ?_; apply wl_storeC onet5k (v := .int .u8 (top : Nat)))); (case hx => rfl); (case hy => rfl); (case h1 => rfl); (case hB => exact bP.ext (by (repeat (first | with_reducible exact Ext.refl _ | with_reducible assumption | refine Ext.trans ?_ (by with_reducible assumption) | refine Ext.alloc ?_ _ _ | refine Ext.drew ?_ | refine Ext.drewN ?_ _)))); (case hi => decide); rintro W6 b6 m6))
        try simp only [Act.put]
        have hE6 : Ext w W6 := Ext.trans_mod hE2 m6 (fun q hq => by have hq2 : q = P := hq; rw [hq2]; exact gPw)
        have bR6 := bR2.mod m6 hRP
        clear bP bR2 m6 K1
        go_loopw [8, 9] (fun rv iv wr => ∃ (k r : Nat), rv = .int .u64 (r : Nat) ∧ iv = .int .u8 (k : Nat) ∧ k ≤ top ∧ r < z ∧ Hid (r = lv (x.drop k) % z) ∧ Blk wr R 8 345 (fun _ => Value.int .u64 0) ∧ Blk wr P 3 416 (updv (fun _ => Value.int .u8 0) 0 (.int .u8 (top : Nat))) ∧ Ext w wr) (fun _ iv _ => (intOf iv).toNat)
        case atStart => exact ⟨top, 0, rfl, rfl, Nat.le_refl _, by omega, (by show (0:Nat) = lv (x.drop top) % z; rw [lv_zero (x.drop top) (fun i hi => by rw [getD_drop]; simp at hi; exact hxz _ (by omega) (by omega))]; simp : (0:Nat) = lv (x.drop top) % z), bR6, b6, hE6⟩
        case round =>
          clear bR6 b6 hE6
          obtain ⟨k, r, rfl, rfl, hk, hrz, hrm, bR, b6, hE⟩ := hrel
          rcases Nat.eq_zero_or_pos k with hk0 | hk0
          · subst hk0
            go_upto_region 18 with (first | ((with_reducible (refine Veil.out ?_; apply wl_storeC onet26k (v := .int .u64 (r : Nat)))); (case hx => rfl); (case hy => rfl); (case h1 => rfl); (case hB => exact bR.ext (by (repeat (first | with_reducible exact Ext.refl _ | with_reducible assumption | refine Ext.trans ?_ (by with_reducible assumption) | refine Ext.alloc ?_ _ _ | refine Ext.drew ?_ | refine Ext.drewN ?_ _)))); (case hi => decide); rintro W7 b7 m7))
            have hE7 : Ext w W7 := Ext.trans_mod hE m7 (fun q hq => by have hq2 : q = R := hq; rw [hq2]; exact gR)
            refine w_ext ?_
            rintro W0 hW0
            refine wp_region_held_drew (S := fun w' => (Ext w (w') ∧ Blk (w') R 8 345 (updv (fun _ => Value.int .u64 0) 0 (.int .u64 (r : Nat))) ∧ Blk (w') P 3 416 (updv (fun _ => Value.int .u8 0) 0 (.int .u8 (top : Nat))))) (by kernel_rfl) ⟨(hE7.trans (by (repeat (first | with_reducible exact Ext.refl _ | with_reducible assumption | refine Ext.trans ?_ (by with_reducible assumption) | refine Ext.alloc ?_ _ _ | refine Ext.drew ?_ | refine Ext.drewN ?_ _)))).drew, (b7.ext (by (repeat (first | with_reducible exact Ext.refl _ | with_reducible assumption | refine Ext.trans ?_ (by with_reducible assumption) | refine Ext.alloc ?_ _ _ | refine Ext.drew ?_ | refine Ext.drewN ?_ _)))).drew, (b6.mod m7 (fun q => hRP q.symm) |>.ext (by (repeat (first | with_reducible exact Ext.refl _ | with_reducible assumption | refine Ext.trans ?_ (by with_reducible assumption) | refine Ext.alloc ?_ _ _ | refine Ext.drew ?_ | refine Ext.drewN ?_ _)))).drew⟩ (fun hHeld => ?_)
            have HH : Hid ((Ext w (_) ∧ Blk (_) R 8 345 (updv (fun _ => Value.int .u64 0) 0 (.int .u64 (r : Nat))) ∧ Blk (_) P 3 416 (updv (fun _ => Value.int .u8 0) 0 (.int .u8 (top : Nat))))) := hHeld
            clear hHeld
            refine wpAnyH_take (i := 0) rfl (by kernel_rfl) (by kernel_rfl) (by kernel_rfl) (fun _ _ _ h => h) (yields_row rt337d (by rfl) rfl rfl (fun W hW => hW.2.1) (by decide)) HH.out ?_
            change wpAnyH _ _ _ _ _ _ _ (Act.put _ (some 79) _) _
            simp only [Act.put, List.setIfInBounds_toArray, List.set_cons_zero, List.set_cons_succ]
            refine wpAnyH_take (i := 1) rfl (by kernel_rfl) (by kernel_rfl) (by kernel_rfl) (fun _ _ _ h => h) (yields_row rt408 (by rfl) rfl rfl (fun W hW => hW.2.2) (by decide)) HH.out ?_
            change wpAnyH _ _ _ _ _ _ _ (Act.put _ (some 80) _) _
            simp only [Act.put, List.setIfInBounds_toArray, List.set_cons_zero, List.set_cons_succ]
            refine wpAnyH_ready (rs := [2]) (by kernel_rfl) (by simp) ?_
            refine AllReadyH.cons rfl (fun K hK => ?_) AllReadyH.nil
            refine step_any rfl (op_storeRow rfl rt337d rfl rfl (rowOf_size _ _ _) (ones_u64 _) HH.out.2.1 (by decide) ?_)
            rintro W5 b5 m5
            refine hK.out _ _ ⟨Ext.trans_mod HH.out.1 m5 (fun q hq => by have hq2 : q = R := hq; rw [hq2]; exact gR), b5.laySelf, HH.out.2.2.mod m5 (fun q => hRP q.symm)⟩ (fun hHeld => ?_)
            clear hK K HH
            have HH : Hid ((Ext w (_) ∧ Blk (_) R 8 345 (updv (fun _ => Value.int .u64 0) 0 (.int .u64 (r : Nat))) ∧ Blk (_) P 3 416 (updv (fun _ => Value.int .u8 0) 0 (.int .u8 (top : Nat))))) := hHeld
            clear hHeld
            change wpAnyH _ _ _ _ _ _ _ (Act.put _ none _) _
            simp only [Act.put, List.setIfInBounds_toArray, List.set_cons_zero, List.set_cons_succ]
            refine wpAnyH_ready (rs := [3]) (by kernel_rfl) (by simp) ?_
            refine AllReadyH.cons rfl (fun K hK => ?_) AllReadyH.nil
            refine step_any rfl (op_storeRow rfl rt408 rfl rfl (rowOf_size _ _ _) (ones_u8 _) HH.out.2.2 (by decide) ?_)
            rintro W6 b6 m6
            refine hK.out _ _ ⟨Ext.trans_mod HH.out.1 m6 (fun q hq => by have hq2 : q = P := hq; rw [hq2]; exact gPw), HH.out.2.1.mod m6 hRP, b6.laySelf⟩ (fun hHeld => ?_)
            clear hK K HH
            have HH : Hid ((Ext w (_) ∧ Blk (_) R 8 345 (updv (fun _ => Value.int .u64 0) 0 (.int .u64 (r : Nat))) ∧ Blk (_) P 3 416 (updv (fun _ => Value.int .u8 0) 0 (.int .u8 (top : Nat))))) := hHeld
            clear hHeld
            change wpAnyH _ _ _ _ _ _ _ (Act.put _ none _) _
            simp only [Act.put, List.setIfInBounds_toArray, List.set_cons_zero, List.set_cons_succ]
            refine wpAnyH_done (by kernel_rfl) ?_ _
            go_wp2
            obtain ⟨hEf, bRf, bPf⟩ := HH.out
            refine post_rr rt337d rt408 (rowOf (updv (fun _ => Value.int .u64 0) 0 (.int .u64 (r : Nat))) 0 8) (rowOf (updv (fun _ => Value.int .u8 0) 0 (.int .u8 (top : Nat))) 0 3) (rowOf_size _ _ _) (rowOf_size _ _ _) rfl rfl rfl (bRf.rowIn (by decide)) (bPf.rowIn (by decide)) rfl ?_
            refine ⟨[r, 0, 0, 0, 0, 0, 0, 0], _, rfl, rfl, ?_, rowOf_size _ _ _, ones_u8 _, ?_, hEf⟩
            · intro d hd
              simp at hd
              rcases hd with rfl | rfl
              · omega
              · decide
            · have e0 : lv [r, 0, 0, 0, 0, 0, 0, 0] = r := by simp [lv]
              rw [e0, hrm.out, List.drop_zero, hymH.out, hz.out]
              unfold dmod
              rw [if_neg (by omega)]
              done
          · have k1 : (0 : Int) < k := by omega
            have j2 : IntKind.u8.wrap ((k : Int) - 1) = ((k - 1 : Nat) : Int) := by rw [IntKind.wrap_u8]; omega
            have i2 : ((k - 1 : Nat) : Int) < 16 := by omega
            have KX : ∀ W, Ext wr W → W.cell? ⟨g, k - 1, none⟩ = some (.int .u64 ((x.getD (k - 1) 0 : Nat) : Int)) := fun W hW => (hx.ext (hE.trans hW)).atD (by omega)
            have hv : lv (x.drop (k - 1)) = x.getD (k - 1) 0 + 18446744073709551616 * lv (x.drop k) := by
              have : x.drop (k - 1) = x.getD (k - 1) 0 :: x.drop (k - 1 + 1) := by
                rw [List.drop_eq_getElem_cons (by omega)]
                simp [List.getD_eq_getElem?_getD, List.getElem?_eq_getElem, show k - 1 < x.length by omega]
              rw [this, show k - 1 + 1 = k by omega]
              simp only [lv]
            have hx6 := dx.getD (k - 1)
            obtain ⟨v, hvv⟩ : ∃ v, Hid (x.getD (k - 1) 0 = v) := ⟨_, rfl⟩
            rw [hvv.out] at KX hv hx6
            have hvH : Hid (_ = _) := hv
            clear hv
            obtain ⟨q, hq⟩ : ∃ q, Hid (k - 1 = q) := ⟨_, rfl⟩
            rw [hq.out] at j2 i2 KX hvH
            have HD := fun W => mDiv64_yes r v z W hrz hx6 hy6
            go_upto_region 15 with (fail)
            refine w_ext ?_
            rintro W0 hW0
            have hWr : Ext wr W0 := by (repeat (first | with_reducible exact Ext.refl _ | with_reducible assumption | refine Ext.trans ?_ (by with_reducible assumption) | refine Ext.alloc ?_ _ _ | refine Ext.drew ?_ | refine Ext.drewN ?_ _))
            refine wp_region_held_drew (S := fun w' => Ext W0 w') (by kernel_rfl) (Ext.refl _).drew (fun hHeld => ?_)
            have HH : Hid (Ext W0 _) := hHeld
            clear hHeld
            refine wpAnyH_take (i := 0) (v := ?_) rfl (by kernel_rfl) (by kernel_rfl) (by kernel_rfl) (fun _ _ _ h => h) (Or.inl ⟨by rfl, ?_⟩) HH.out ?_
            rotate_left
            · intro w hSw; go_simp; try with_reducible rfl
            change wpAnyH _ _ _ _ _ _ _ (Act.put _ (some 61) _) _
            simp only [Act.put, List.setIfInBounds_toArray, List.set_cons_zero, List.set_cons_succ]
            refine wpAnyH_take (i := 1) (v := ?_) rfl (by kernel_rfl) (by kernel_rfl) (by kernel_rfl) (fun _ _ _ h => h) (Or.inl ⟨by rfl, ?_⟩) HH.out ?_
            rotate_left
            · intro w hSw; go_simp; try with_reducible rfl
            change wpAnyH _ _ _ _ _ _ _ (Act.put _ (some 62) _) _
            simp only [Act.put, List.setIfInBounds_toArray, List.set_cons_zero, List.set_cons_succ]
            refine wpAnyH_take (i := 2) (v := ?_) rfl (by kernel_rfl) (by kernel_rfl) (by kernel_rfl) (fun _ _ _ h => h) (Or.inl ⟨by rfl, ?_⟩) HH.out ?_
            rotate_left
            · intro w hSw; go_simp; try with_reducible rfl
            change wpAnyH _ _ _ _ _ _ _ (Act.put _ (some 63) _) _
            simp only [Act.put, List.setIfInBounds_toArray, List.set_cons_zero, List.set_cons_succ]
            refine wpAnyH_take (i := 3) (v := ?_) rfl (by kernel_rfl) (by kernel_rfl) (by kernel_rfl) (fun _ _ _ h => h) (Or.inl ⟨by rfl, ?_⟩) HH.out ?_
            rotate_left
            · intro w hSw; go_simp; try with_reducible rfl
            change wpAnyH _ _ _ _ _ _ _ (Act.put _ (some 64) _) _
            simp only [Act.put, List.setIfInBounds_toArray, List.set_cons_zero, List.set_cons_succ]
            refine wpAnyH_take (i := 4) (v := ?_) rfl (by kernel_rfl) (by kernel_rfl) (by kernel_rfl) (fun _ _ _ h => h) (Or.inl ⟨by rfl, ?_⟩) HH.out ?_
            rotate_left
            · intro w hSw; go_simp; try with_reducible rfl
            change wpAnyH _ _ _ _ _ _ _ (Act.put _ (some 65) _) _
            simp only [Act.put, List.setIfInBounds_toArray, List.set_cons_zero, List.set_cons_succ]
            refine wpAnyH_take (i := 5) (v := ?_) rfl (by kernel_rfl) (by kernel_rfl) (by kernel_rfl) (fun _ _ _ h => h) (Or.inl ⟨by rfl, ?_⟩) HH.out ?_
            rotate_left
            · intro w hSw; go_simp; try with_reducible rfl
            change wpAnyH _ _ _ _ _ _ _ (Act.put _ (some 66) _) _
            simp only [Act.put, List.setIfInBounds_toArray, List.set_cons_zero, List.set_cons_succ]
            refine wpAnyH_take (i := 6) rfl (by kernel_rfl) (by kernel_rfl) (by kernel_rfl) (fun _ _ _ h => h) (yieldsIf_load1 (by rfl) _ _ rfl _ _ rfl onet26k _ (fun w hSw => KX _ (hWr.trans hSw))) HH.out ?_
            change wpAnyH _ _ _ _ _ _ _ (Act.put _ (some 67) _) _
            simp only [Act.put, List.setIfInBounds_toArray, List.set_cons_zero, List.set_cons_succ]
            refine wpAnyH_take (i := 7) (v := ?_) rfl (by kernel_rfl) (by kernel_rfl) (by kernel_rfl) (fun _ _ _ h => h) (Or.inl ⟨by rfl, ?_⟩) HH.out ?_
            rotate_left
            · intro w hSw; go_simp; try with_reducible rfl
            change wpAnyH _ _ _ _ _ _ _ (Act.put _ (some 68) _) _
            simp only [Act.put, List.setIfInBounds_toArray, List.set_cons_zero, List.set_cons_succ]
            refine wpAnyH_take (i := 8) (v := ?_) rfl (by kernel_rfl) (by kernel_rfl) (by kernel_rfl) (fun _ _ _ h => h) (Or.inl ⟨by rfl, ?_⟩) HH.out ?_
            rotate_left
            · intro w hSw; go_simp; try with_reducible rfl
            change wpAnyH _ _ _ _ _ _ _ (Act.put _ (some 69) _) _
            simp only [Act.put, List.setIfInBounds_toArray, List.set_cons_zero, List.set_cons_succ]
            refine wpAnyH_take (i := 9) (v := ?_) rfl (by kernel_rfl) (by kernel_rfl) (by kernel_rfl) (fun _ _ _ h => h) (Or.inl ⟨by rfl, ?_⟩) HH.out ?_
            rotate_left
            · intro w hSw; go_simp; try with_reducible rfl
            change wpAnyH _ _ _ _ _ _ _ (Act.put _ (some 70) _) _
            simp only [Act.put, List.setIfInBounds_toArray, List.set_cons_zero, List.set_cons_succ]
            refine wpAnyH_take (i := 10) rfl (by kernel_rfl) (by kernel_rfl) (by kernel_rfl) (fun _ _ _ h => h) (yieldsIf_load1 (by rfl) _ _ rfl _ _ rfl onet26k _ (fun w hSw => KM _ (hE.trans (hWr.trans hSw)))) HH.out ?_
            change wpAnyH _ _ _ _ _ _ _ (Act.put _ (some 71) _) _
            simp only [Act.put, List.setIfInBounds_toArray, List.set_cons_zero, List.set_cons_succ]
            refine wpAnyH_ready (rs := [11]) (by kernel_rfl) (by simp) ?_
            refine AllReadyH.cons rfl (fun K hK => ?_) AllReadyH.nil
            go_simp
            go_at_call 379; refine (HD _).mono ?_; rintro e w5 ⟨q', r', rfl, hq', hr', hdv, he⟩
            refine hK.out _ _ ?_ (fun hHeld => ?_)
            · first | exact HH.out.trans hmY | exact HH.out.trans he | exact HH.out
            clear hK K HH
            have HH : Hid (Ext W0 _) := hHeld
            clear hHeld
            refine wpAnyH_take (i := 12) (v := ?_) rfl (by kernel_rfl) (by kernel_rfl) (by kernel_rfl) (fun _ _ _ h => h) (Or.inl ⟨by rfl, ?_⟩) HH.out ?_
            rotate_left
            · intro w hSw; go_simp; try with_reducible rfl
            change wpAnyH _ _ _ _ _ _ _ (Act.put _ (some 60) _) _
            simp only [Act.put, List.setIfInBounds_toArray, List.set_cons_zero, List.set_cons_succ]
            refine wpAnyH_take (i := 13) (v := ?_) rfl (by kernel_rfl) (by kernel_rfl) (by kernel_rfl) (fun _ _ _ h => h) (Or.inl ⟨by rfl, ?_⟩) HH.out ?_
            rotate_left
            · intro w hSw; go_simp; try with_reducible rfl
            change wpAnyH _ _ _ _ _ _ _ (Act.put _ (some 73) _) _
            simp only [Act.put, List.setIfInBounds_toArray, List.set_cons_zero, List.set_cons_succ]
            refine wpAnyH_take (i := 14) (v := ?_) rfl (by kernel_rfl) (by kernel_rfl) (by kernel_rfl) (fun _ _ _ h => h) (Or.inl ⟨by rfl, ?_⟩) HH.out ?_
            rotate_left
            · intro w hSw; go_simp; try with_reducible rfl
            change wpAnyH _ _ _ _ _ _ _ (Act.put _ (some 74) _) _
            simp only [Act.put, List.setIfInBounds_toArray, List.set_cons_zero, List.set_cons_succ]
            refine wpAnyH_take (i := 15) (v := ?_) rfl (by kernel_rfl) (by kernel_rfl) (by kernel_rfl) (fun _ _ _ h => h) (Or.inl ⟨by rfl, ?_⟩) HH.out ?_
            rotate_left
            · intro w hSw; go_simp; try with_reducible rfl
            change wpAnyH _ _ _ _ _ _ _ (Act.put _ (some 75) _) _
            simp only [Act.put, List.setIfInBounds_toArray, List.set_cons_zero, List.set_cons_succ]
            refine wpAnyH_take (i := 16) (v := ?_) rfl (by kernel_rfl) (by kernel_rfl) (by kernel_rfl) (fun _ _ _ h => h) (Or.inl ⟨by rfl, ?_⟩) HH.out ?_
            rotate_left
            · intro w hSw; go_simp; try with_reducible rfl
            change wpAnyH _ _ _ _ _ _ _ (Act.put _ (some 10) _) _
            simp only [Act.put, List.setIfInBounds_toArray, List.set_cons_zero, List.set_cons_succ]
            refine wpAnyH_take (i := 17) (v := ?_) rfl (by kernel_rfl) (by kernel_rfl) (by kernel_rfl) (fun _ _ _ h => h) (Or.inl ⟨by rfl, ?_⟩) HH.out ?_
            rotate_left
            · intro w hSw; go_simp; try with_reducible rfl
            change wpAnyH _ _ _ _ _ _ _ (Act.put _ (some 11) _) _
            simp only [Act.put, List.setIfInBounds_toArray, List.set_cons_zero, List.set_cons_succ]
            refine wpAnyH_take (i := 18) (v := ?_) rfl (by kernel_rfl) (by kernel_rfl) (by kernel_rfl) (fun _ _ _ h => h) (Or.inl ⟨by rfl, ?_⟩) HH.out ?_
            rotate_left
            · intro w hSw; go_simp; try with_reducible rfl
            change wpAnyH _ _ _ _ _ _ _ (Act.put _ (some 12) _) _
            simp only [Act.put, List.setIfInBounds_toArray, List.set_cons_zero, List.set_cons_succ]
            refine wpAnyH_done (by kernel_rfl) ?_ _
            go_wp2
            go_roundw
            case rel =>
              have hq2 := hq.out
              have hEW : Ext wr W0 := by (repeat (first | with_reducible exact Ext.refl _ | with_reducible assumption | refine Ext.trans ?_ (by with_reducible assumption) | refine Ext.alloc ?_ _ _ | refine Ext.drew ?_ | refine Ext.drewN ?_ _))
              have hEf : Ext wr w5 := by (repeat (first | with_reducible exact Ext.refl _ | with_reducible assumption | refine Ext.trans ?_ (by with_reducible assumption) | refine Ext.alloc ?_ _ _ | refine Ext.drew ?_ | refine Ext.drewN ?_ _))
              refine ⟨q, r', rfl, int_eq (by omega), by omega, hr', ?_, bR.ext (by (repeat (first | with_reducible exact Ext.refl _ | with_reducible assumption | refine Ext.trans ?_ (by with_reducible assumption) | refine Ext.alloc ?_ _ _ | refine Ext.drew ?_ | refine Ext.drewN ?_ _))), b6.ext (by (repeat (first | with_reducible exact Ext.refl _ | with_reducible assumption | refine Ext.trans ?_ (by with_reducible assumption) | refine Ext.alloc ?_ _ _ | refine Ext.drew ?_ | refine Ext.drewN ?_ _))), hE.trans (by (repeat (first | with_reducible exact Ext.refl _ | with_reducible assumption | refine Ext.trans ?_ (by with_reducible assumption) | refine Ext.alloc ?_ _ _ | refine Ext.drew ?_ | refine Ext.drewN ?_ _)))⟩
              show r' = lv (x.drop q) % z
              have e1 := hvH.out
              have e2 := hdv.out
              have e3 := hrm.out
              rw [e1]
              have e4 := Nat.div_add_mod (lv (x.drop k)) z
              rw [← e3] at e4
              have e5 : v + 18446744073709551616 * lv (x.drop k) = r' + z * (q' + 18446744073709551616 * (lv (x.drop k) / z)) := by
                rw [Nat.mul_add, ← Nat.mul_assoc, Nat.mul_comm z 18446744073709551616, Nat.mul_assoc, Nat.mul_comm z q']
                omega
              rw [e5, Nat.add_mul_mod_self_left, Nat.mod_eq_of_lt hr']
            case measure => have hq2 := hq.out; simp [intOf]; omega
end Go.Proofs.YgvahwGreat
