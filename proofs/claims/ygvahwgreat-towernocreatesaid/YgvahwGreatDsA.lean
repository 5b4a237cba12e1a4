import Derived.Test.YgvahwGreatDr
namespace Go.Proofs.YgvahwGreat
open Go.RowKit
set_option linter.unusedSimpArgs false
set_option maxRecDepth 100000 in
set_option maxHeartbeats 6400000 in
theorem uRemA (g h top : Nat) (t t' : TypeId) (x m : List Nat) (w : World) (hx : UB w g t x) (hm : UB w h t' m) (lx : x.length = 16) (lm : m.length = 8) (hmz : ∀ i, 0 ≤ i → i < 8 → m.getD i 0 = 0) (ht : top ≤ 16) (hxz : ∀ i, top ≤ i → i < 16 → x.getD i 0 = 0) (hxt : 0 < top → x.getD (top - 1) 0 ≠ 0) : Calls Hvah.prog 368 #[.pointer (some ⟨g, 0, none⟩), .pointer (some ⟨h, 0, none⟩)] w fun e w' => ∃ rl pv, e = .returned (.tuple #[.agg (ucells rl).toArray, .agg pv]) ∧ rl.length = 8 ∧ L64 rl ∧ pv.size = 3 ∧ Ones pv ∧ lv rl = dmod (lv x) (lv m) ∧ Ext w w' := by
  have HL := fun W (hW : Ext w W) => uLimbsW h 0 t' m W (hm.ext hW) lm (by decide) hmz (fun q => absurd q (by decide))
  go_enter Hvah.func368, Hvah.ntmps368
  go_upto_region 3 with (first | ((with_reducible (refine Veil.out ?_; apply wl_allocF z337d)); rintro R W1 e1 bR gR) | ((with_reducible (refine Veil.out ?_; apply wl_allocF z408)); rintro P W2 e2 bP gP) | (go_at_call 409; refine (HL _ (by (repeat (first | with_reducible exact Ext.refl _ | with_reducible assumption | refine Ext.trans ?_ (by with_reducible assumption) | refine Ext.alloc ?_ _ _ | refine Ext.drew ?_ | refine Ext.drewN ?_ _)))).mono ?_; rintro e w1 ⟨rfl, hww⟩; replace hww := hww.symm; subst hww))
  try simp only [Act.put]
  have gPw : w.heap.size ≤ P := Nat.le_trans e1.size gP
  have hRP : ¬ R = P := fun q => by have := bR.lt; omega
  have bR2 := bR.ext e2
  have hE2 : Ext w W2 := e1.trans e2
  clear bR e1 e2
  go_loopw [7] (fun iv wr => ∃ k : Nat, iv = .int .u8 (k : Nat) ∧ top ≤ k ∧ k ≤ 16 ∧ wr = W2) (fun iv _ => (intOf iv).toNat)
  case atStart => exact ⟨16, rfl, ht, by decide, rfl⟩
  case round =>
    obtain ⟨k, rfl, hk1, hk2, hww⟩ := hrel
    replace hww := hww.symm
    subst hww
    rcases Nat.eq_zero_or_pos k with hk0 | hk0
    · subst hk0
      obtain rfl : top = 0 := by omega
      go_upto_region 6 with (fail)
      refine w_ext ?_
      rintro W0 hW0
      have hEW : Ext w W0 := by (repeat (first | with_reducible exact Ext.refl _ | with_reducible assumption | refine Ext.trans ?_ (by with_reducible assumption) | refine Ext.alloc ?_ _ _ | refine Ext.drew ?_ | refine Ext.drewN ?_ _))
      refine wp_region_held_drew (S := fun w' => (Ext w (w') ∧ Blk (w') R 8 345 (fun _ => Value.int .u64 0) ∧ Blk (w') P 3 416 (fun _ => Value.int .u8 0))) (by kernel_rfl) ⟨(hEW).drew, (bR2.ext (by (repeat (first | with_reducible exact Ext.refl _ | with_reducible assumption | refine Ext.trans ?_ (by with_reducible assumption) | refine Ext.alloc ?_ _ _ | refine Ext.drew ?_ | refine Ext.drewN ?_ _)))).drew, (bP.ext (by (repeat (first | with_reducible exact Ext.refl _ | with_reducible assumption | refine Ext.trans ?_ (by with_reducible assumption) | refine Ext.alloc ?_ _ _ | refine Ext.drew ?_ | refine Ext.drewN ?_ _)))).drew⟩ (fun hHeld => ?_)
      have HH : Hid ((Ext w (_) ∧ Blk (_) R 8 345 (fun _ => Value.int .u64 0) ∧ Blk (_) P 3 416 (fun _ => Value.int .u8 0))) := hHeld
      clear hHeld
      refine wpAnyH_take (i := 0) rfl (by kernel_rfl) (by kernel_rfl) (by kernel_rfl) (fun _ _ _ h => h) (yields_row rt337d (by rfl) rfl rfl (fun W hW => hW.2.1) (by decide)) HH.out ?_
      change wpAnyH _ _ _ _ _ _ _ (Act.put _ (some 37) _) _
      simp only [Act.put, List.setIfInBounds_toArray, List.set_cons_zero, List.set_cons_succ]
      refine wpAnyH_take (i := 1) rfl (by kernel_rfl) (by kernel_rfl) (by kernel_rfl) (fun _ _ _ h => h) (yields_row rt408 (by rfl) rfl rfl (fun W hW => hW.2.2) (by decide)) HH.out ?_
      change wpAnyH _ _ _ _ _ _ _ (Act.put _ (some 38) _) _
      simp only [Act.put, List.setIfInBounds_toArray, List.set_cons_zero, List.set_cons_succ]
      refine wpAnyH_ready (rs := [2]) (by kernel_rfl) (by simp) ?_
      refine AllReadyH.cons rfl (fun K hK => ?_) AllReadyH.nil
      refine step_any rfl (op_storeRow rfl rt337d rfl rfl (rowOf_size _ _ _) (ones_c64) HH.out.2.1 (by decide) ?_)
      rintro W5 b5 m5
      refine hK.out _ _ ⟨Ext.trans_mod HH.out.1 m5 (fun q hq => by have hq2 : q = R := hq; rw [hq2]; exact gR), b5.laySelf, HH.out.2.2.mod m5 (fun q => hRP q.symm)⟩ (fun hHeld => ?_)
      clear hK K HH
      have HH : Hid ((Ext w (_) ∧ Blk (_) R 8 345 (fun _ => Value.int .u64 0) ∧ Blk (_) P 3 416 (fun _ => Value.int .u8 0))) := hHeld
      clear hHeld
      change wpAnyH _ _ _ _ _ _ _ (Act.put _ none _) _
      simp only [Act.put, List.setIfInBounds_toArray, List.set_cons_zero, List.set_cons_succ]
      refine wpAnyH_ready (rs := [3]) (by kernel_rfl) (by simp) ?_
      refine AllReadyH.cons rfl (fun K hK => ?_) AllReadyH.nil
      refine step_any rfl (op_storeRow rfl rt408 rfl rfl (rowOf_size _ _ _) (ones_c8) HH.out.2.2 (by decide) ?_)
      rintro W6 b6 m6
      refine hK.out _ _ ⟨Ext.trans_mod HH.out.1 m6 (fun q hq => by have hq2 : q = P := hq; rw [hq2]; exact gPw), HH.out.2.1.mod m6 hRP, b6.laySelf⟩ (fun hHeld => ?_)
      clear hK K HH
      have HH : Hid ((Ext w (_) ∧ Blk (_) R 8 345 (fun _ => Value.int .u64 0) ∧ Blk (_) P 3 416 (fun _ => Value.int .u8 0))) := hHeld
      clear hHeld
      change wpAnyH _ _ _ _ _ _ _ (Act.put _ none _) _
      simp only [Act.put, List.setIfInBounds_toArray, List.set_cons_zero, List.set_cons_succ]
      refine wpAnyH_done (by kernel_rfl) ?_ _
      go_wp2
      obtain ⟨hEf, bRf, bPf⟩ := HH.out
      refine post_rr rt337d rt408 (rowOf (fun _ => Value.int .u64 0) 0 8) (rowOf (fun _ => Value.int .u8 0) 0 3) (rowOf_size _ _ _) (rowOf_size _ _ _) rfl rfl rfl (bRf.rowIn (by decide)) (bPf.rowIn (by decide)) rfl ?_
      refine ⟨List.replicate 8 0, _, ?_, by simp, ?_, rowOf_size _ _ _, ones_c8, ?_, hEf⟩
      · rfl
      · intro d hd; rw [List.eq_of_mem_replicate hd]; decide
      · rw [lv_zero _ (fun i _ => ?_), show lv m = 0 from ?_]
        · simp [dmod]
        · exact lv_zero _ (fun i hi => hmz i (Nat.zero_le _) (by omega))
        · rw [List.getD_eq_getElem?_getD, List.getElem?_replicate]; split <;> rfl
    · have k0 : (0 : Int) < k := by omega
      have j1 : IntKind.u8.wrap ((k : Int) - 1) = ((k - 1 : Nat) : Int) := by rw [IntKind.wrap_u8]; omega
      have i1 : ((k - 1 : Nat) : Int) < 16 := by omega
      have K1 := (hx.ext hE2).atD (i := k - 1) (by omega)
      rcases Nat.lt_or_ge top k with hlt | hge
      · rw [hxz (k - 1) (by omega) (by omega)] at K1
        obtain ⟨p, hp⟩ : ∃ p, Hid (k - 1 = p) := ⟨_, rfl⟩
        rw [hp.out] at K1 j1 i1
        go_wp2_with ((with_reducible (refine Veil.out ?_; apply wl_loadC onet26k)); (case hw => first | rfl | go_simp); (case hx => rfl); (case hc => exact K1))
        go_roundw
        case rel => have hp2 := hp.out; exact ⟨p, int_eq (by omega), by omega, by omega, trivial⟩
        case measure => have hp2 := hp.out; simp [intOf]; omega
      · obtain rfl : top = k := by omega
        have hne := hxt hk0
        obtain ⟨p, hp⟩ : ∃ p, Hid (top - 1 = p) := ⟨_, rfl⟩
        rw [hp.out] at K1 j1 i1 hne
        obtain ⟨y, hy⟩ : ∃ y, Hid (x.getD p 0 = y) := ⟨_, rfl⟩
        rw [hy.out] at K1 hne
        have hb : ((y : Int) == 0) = false := by simp; omega
        go_upto_region 6 with (first | ((with_reducible (refine Veil.out ?_; apply wl_loadC onet26k)); (case hw => first | rfl | go_simp); (case hx => rfl); (case hc => exact K1)))
        refine w_ext ?_
        rintro W0 hW0
        have hEW : Ext w W0 := by (repeat (first | with_reducible exact Ext.refl _ | with_reducible assumption | refine Ext.trans ?_ (by with_reducible assumption) | refine Ext.alloc ?_ _ _ | refine Ext.drew ?_ | refine Ext.drewN ?_ _))
        refine wp_region_held_drew (S := fun w' => (Ext w (w') ∧ Blk (w') R 8 345 (fun _ => Value.int .u64 0) ∧ Blk (w') P 3 416 (fun _ => Value.int .u8 0))) (by kernel_rfl) ⟨(hEW).drew, (bR2.ext (by (repeat (first | with_reducible exact Ext.refl _ | with_reducible assumption | refine Ext.trans ?_ (by with_reducible assumption) | refine Ext.alloc ?_ _ _ | refine Ext.drew ?_ | refine Ext.drewN ?_ _)))).drew, (bP.ext (by (repeat (first | with_reducible exact Ext.refl _ | with_reducible assumption | refine Ext.trans ?_ (by with_reducible assumption) | refine Ext.alloc ?_ _ _ | refine Ext.drew ?_ | refine Ext.drewN ?_ _)))).drew⟩ (fun hHeld => ?_)
        have HH : Hid ((Ext w (_) ∧ Blk (_) R 8 345 (fun _ => Value.int .u64 0) ∧ Blk (_) P 3 416 (fun _ => Value.int .u8 0))) := hHeld
        clear hHeld
        refine wpAnyH_take (i := 0) rfl (by kernel_rfl) (by kernel_rfl) (by kernel_rfl) (fun _ _ _ h => h) (yields_row rt337d (by rfl) rfl rfl (fun W hW => hW.2.1) (by decide)) HH.out ?_
        change wpAnyH _ _ _ _ _ _ _ (Act.put _ (some 37) _) _
        simp only [Act.put, List.setIfInBounds_toArray, List.set_cons_zero, List.set_cons_succ]
        refine wpAnyH_take (i := 1) rfl (by kernel_rfl) (by kernel_rfl) (by kernel_rfl) (fun _ _ _ h => h) (yields_row rt408 (by rfl) rfl rfl (fun W hW => hW.2.2) (by decide)) HH.out ?_
        change wpAnyH _ _ _ _ _ _ _ (Act.put _ (some 38) _) _
        simp only [Act.put, List.setIfInBounds_toArray, List.set_cons_zero, List.set_cons_succ]
        refine wpAnyH_ready (rs := [2]) (by kernel_rfl) (by simp) ?_
        refine AllReadyH.cons rfl (fun K hK => ?_) AllReadyH.nil
        refine step_any rfl (op_storeRow rfl rt337d rfl rfl (rowOf_size _ _ _) (ones_c64) HH.out.2.1 (by decide) ?_)
        rintro W5 b5 m5
        refine hK.out _ _ ⟨Ext.trans_mod HH.out.1 m5 (fun q hq => by have hq2 : q = R := hq; rw [hq2]; exact gR), b5.laySelf, HH.out.2.2.mod m5 (fun q => hRP q.symm)⟩ (fun hHeld => ?_)
        clear hK K HH
        have HH : Hid ((Ext w (_) ∧ Blk (_) R 8 345 (fun _ => Value.int .u64 0) ∧ Blk (_) P 3 416 (fun _ => Value.int .u8 0))) := hHeld
        clear hHeld
        change wpAnyH _ _ _ _ _ _ _ (Act.put _ none _) _
        simp only [Act.put, List.setIfInBounds_toArray, List.set_cons_zero, List.set_cons_succ]
        refine wpAnyH_ready (rs := [3]) (by kernel_rfl) (by simp) ?_
        refine AllReadyH.cons rfl (fun K hK => ?_) AllReadyH.nil
        refine step_any rfl (op_storeRow rfl rt408 rfl rfl (rowOf_size _ _ _) (ones_c8) HH.out.2.2 (by decide) ?_)
        rintro W6 b6 m6
        refine hK.out _ _ ⟨Ext.trans_mod HH.out.1 m6 (fun q hq => by have hq2 : q = P := hq; rw [hq2]; exact gPw), HH.out.2.1.mod m6 hRP, b6.laySelf⟩ (fun hHeld => ?_)
        clear hK K HH
        have HH : Hid ((Ext w (_) ∧ Blk (_) R 8 345 (fun _ => Value.int .u64 0) ∧ Blk (_) P 3 416 (fun _ => Value.int .u8 0))) := hHeld
        clear hHeld
        change wpAnyH _ _ _ _ _ _ _ (Act.put _ none _) _
        simp only [Act.put, List.setIfInBounds_toArray, List.set_cons_zero, List.set_cons_succ]
        refine wpAnyH_done (by kernel_rfl) ?_ _
        go_wp2
        obtain ⟨hEf, bRf, bPf⟩ := HH.out
        refine post_rr rt337d rt408 (rowOf (fun _ => Value.int .u64 0) 0 8) (rowOf (fun _ => Value.int .u8 0) 0 3) (rowOf_size _ _ _) (rowOf_size _ _ _) rfl rfl rfl (bRf.rowIn (by decide)) (bPf.rowIn (by decide)) rfl ?_
        refine ⟨List.replicate 8 0, _, ?_, by simp, ?_, rowOf_size _ _ _, ones_c8, ?_, hEf⟩
        · rfl
        · intro d hd; rw [List.eq_of_mem_replicate hd]; decide
        · rw [lv_zero _ (fun i _ => ?_), show lv m = 0 from ?_]
          · simp [dmod]
          · exact lv_zero _ (fun i hi => hmz i (Nat.zero_le _) (by omega))
          · rw [List.getD_eq_getElem?_getD, List.getElem?_replicate]; split <;> rfl
end Go.Proofs.YgvahwGreat
