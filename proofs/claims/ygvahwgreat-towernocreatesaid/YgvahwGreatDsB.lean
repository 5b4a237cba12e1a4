import Derived.Test.YgvahwGreatDr
namespace Go.Proofs.YgvahwGreat
open Go.RowKit
set_option linter.unusedSimpArgs false
theorem lay_over (c c' : Nat → Value) (n i : Nat) (h : i < n) : layv c 0 (rowOf c' 0 n) i = c' i := by
  unfold layv
  rw [if_pos ⟨Nat.zero_le _, by rw [rowOf_size]; omega⟩]
  rw [show (rowOf c' 0 n).getD (i - 0) undef = cf (rowOf c' 0 n) i from rfl, cf_rowOf _ _ _ h, Nat.zero_add]
set_option maxRecDepth 100000 in
set_option maxHeartbeats 6400000 in
theorem uRemB (g h n top : Nat) (t t' : TypeId) (x m : List Nat) (w : World) (hx : UB w g t x) (hm : UB w h t' m) (lx : x.length = 16) (lm : m.length = 8) (dx : L64 x) (hn : n ≤ 8) (hmz : ∀ i, n ≤ i → i < 8 → m.getD i 0 = 0) (hmt : 0 < n → m.getD (n - 1) 0 ≠ 0) (ht : top ≤ 16) (hxz : ∀ i, top ≤ i → i < 16 → x.getD i 0 = 0) (hxt : 0 < top → x.getD (top - 1) 0 ≠ 0) (htn : top < n) : Calls Hvah.prog 368 #[.pointer (some ⟨g, 0, none⟩), .pointer (some ⟨h, 0, none⟩)] w fun e w' => ∃ rl pv, e = .returned (.tuple #[.agg (ucells rl).toArray, .agg pv]) ∧ rl.length = 8 ∧ L64 rl ∧ pv.size = 3 ∧ Ones pv ∧ lv rl = dmod (lv x) (lv m) ∧ Ext w w' := by
  have HL := fun W (hW : Ext w W) => uLimbsW h n t' m W (hm.ext hW) lm hn hmz hmt
  go_enter Hvah.func368, Hvah.ntmps368
  go_upto_region 3 with (first | ((with_reducible (refine Veil.out ?_; apply wl_allocF z337d)); rintro R W1 e1 bR gR) | ((with_reducible (refine Veil.out ?_; apply wl_allocF z408)); rintro P W2 e2 bP gP) | (go_at_call 409; refine (HL _ (by (repeat (first | with_reducible exact Ext.refl _ | with_reducible assumption | refine Ext.trans ?_ (by with_reducible assumption) | refine Ext.alloc ?_ _ _ | refine Ext.drew ?_ | refine Ext.drewN ?_ _)))).mono ?_; rintro e w1 ⟨rfl, hww⟩; replace hww := hww.symm; subst hww))
  try simp only [Act.put]
  have gPw : w.heap.size ≤ P := Nat.le_trans e1.size gP
  have hRP : ¬ R = P := fun q => by have := bR.lt; omega
  have bR2 := bR.ext e2
  have hE2 : Ext w W2 := e1.trans e2
  clear bR e1 e2
  go_loopw [7] (fun iv wr => ∃ k : Nat, iv = .int .u8 (k : Nat) ∧ top ≤ k ∧ k ≤ 16 ∧ wr = W2) (fun iv _ => (intOf iv).toNat)
  case atStart => exact ⟨16, rfl, ht, by decide, rfl⟩
  case round =>
    obtain ⟨k, rfl, hk1, hk2, hww⟩ := hrel
    replace hww := hww.symm
    subst hww
    rcases Nat.eq_zero_or_pos k with hk0 | hk0
    · subst hk0
      obtain rfl : top = 0 := by omega
      have HPA := fun W => run_arrayAt W 345 24 8 8 16 (some ⟨g, 0, none⟩) under337d (Nat.le_refl _)
      have c1 : ((n : Int) == 0) = false := by simp; omega
      have c2 : (0 : Int) < n := by omega
      go_upto_region 8 with (fail)
      refine w_ext ?_
      rintro W0 hW0
      have hEW : Ext w W0 := by (repeat (first | with_reducible exact Ext.refl _ | with_reducible assumption | refine Ext.trans ?_ (by with_reducible assumption) | refine Ext.alloc ?_ _ _ | refine Ext.drew ?_ | refine Ext.drewN ?_ _))
      refine wp_region_held_drew (S := fun w' => (Ext w (w') ∧ Blk (w') P 3 416 (fun _ => Value.int .u8 0))) (by kernel_rfl) ⟨hEW.drew, (bP.ext (by (repeat (first | with_reducible exact Ext.refl _ | with_reducible assumption | refine Ext.trans ?_ (by with_reducible assumption) | refine Ext.alloc ?_ _ _ | refine Ext.drew ?_ | refine Ext.drewN ?_ _)))).drew⟩ (fun hHeld => ?_)
      have HH : Hid ((Ext w (_) ∧ Blk (_) P 3 416 (fun _ => Value.int .u8 0))) := hHeld
      clear hHeld
      refine wpAnyH_take (i := 0) (v := ?_) rfl (by kernel_rfl) (by kernel_rfl) (by kernel_rfl) (fun _ _ _ h => h) (Or.inl ⟨by rfl, ?_⟩) HH.out ?_
      rotate_left
      · intro w hSw; go_simp; try with_reducible rfl
      change wpAnyH _ _ _ _ _ _ _ (Act.put _ (some 42) _) _
      simp only [Act.put, List.setIfInBounds_toArray, List.set_cons_zero, List.set_cons_succ]
      refine wpAnyH_take (i := 1) (v := ?_) rfl (by kernel_rfl) (by kernel_rfl) (by kernel_rfl) (fun _ _ _ h => h) (Or.inl ⟨by rfl, ?_⟩) HH.out ?_
      rotate_left
      · intro w hSw; go_simp; try with_reducible rfl
      change wpAnyH _ _ _ _ _ _ _ (Act.put _ (some 43) _) _
      simp only [Act.put, List.setIfInBounds_toArray, List.set_cons_zero, List.set_cons_succ]
      refine wpAnyH_take (i := 2) (v := ?_) rfl (by kernel_rfl) (by kernel_rfl) (by kernel_rfl) (fun _ _ _ h => h) (Or.inl ⟨by rfl, ?_⟩) HH.out ?_
      rotate_left
      · intro w hSw; go_simp; try with_reducible rfl
      change wpAnyH _ _ _ _ _ _ _ (Act.put _ (some 44) _) _
      simp only [Act.put, List.setIfInBounds_toArray, List.set_cons_zero, List.set_cons_succ]
      refine wpAnyH_take (i := 3) (v := ?_) rfl (by kernel_rfl) (by kernel_rfl) (by kernel_rfl) (fun _ _ _ h => h) (Or.inl ⟨by rfl, ?_⟩) HH.out ?_
      rotate_left
      · intro w hSw; go_simp; try with_reducible rfl
      change wpAnyH _ _ _ _ _ _ _ (Act.put _ (some 45) _) _
      simp only [Act.put, List.setIfInBounds_toArray, List.set_cons_zero, List.set_cons_succ]
      refine wpAnyH_take (i := 4) rfl (by kernel_rfl) (by kernel_rfl) (by kernel_rfl) (fun _ _ _ h => h) (yields_row rt337d (by rfl) rfl rfl (fun W hW => (hx.ext hW.1).toB lx) (by decide)) HH.out ?_
      change wpAnyH _ _ _ _ _ _ _ (Act.put _ (some 46) _) _
      simp only [Act.put, List.setIfInBounds_toArray, List.set_cons_zero, List.set_cons_succ]
      refine wpAnyH_take (i := 5) rfl (by kernel_rfl) (by kernel_rfl) (by kernel_rfl) (fun _ _ _ h => h) (yields_row rt408 (by rfl) rfl rfl (fun W hW => hW.2) (by decide)) HH.out ?_
      change wpAnyH _ _ _ _ _ _ _ (Act.put _ (some 47) _) _
      simp only [Act.put, List.setIfInBounds_toArray, List.set_cons_zero, List.set_cons_succ]
      refine wpAnyH_ready (rs := [6]) (by kernel_rfl) (by simp) ?_
      refine AllReadyH.cons rfl (fun K hK => ?_) AllReadyH.nil
      refine step_any rfl (op_storeRow rfl rt337d rfl rfl (rowOf_size _ _ _) (ones_lf _ _ _) (bR2.ext (by (repeat (first | with_reducible exact Ext.refl _ | with_reducible assumption | refine Ext.trans ?_ (by with_reducible assumption) | refine Ext.alloc ?_ _ _ | refine Ext.drew ?_ | refine Ext.drewN ?_ _)))) (by decide) ?_)
      rintro W5 b5 m5
      refine hK.out _ _ ⟨Ext.trans_mod HH.out.1 m5 (fun q hq => by have hq2 : q = R := hq; rw [hq2]; exact gR), HH.out.2.mod m5 (fun q => hRP q.symm)⟩ (fun hHeld => ?_)
      clear hK K HH
      have HH : Hid ((Ext w (_) ∧ Blk (_) P 3 416 (fun _ => Value.int .u8 0))) := hHeld
      clear hHeld
      change wpAnyH _ _ _ _ _ _ _ (Act.put _ none _) _
      simp only [Act.put, List.setIfInBounds_toArray, List.set_cons_zero, List.set_cons_succ]
      refine wpAnyH_ready (rs := [7]) (by kernel_rfl) (by simp) ?_
      refine AllReadyH.cons rfl (fun K hK => ?_) AllReadyH.nil
      refine step_any rfl (op_storeRow rfl rt408 rfl rfl (rowOf_size _ _ _) ones_c8 HH.out.2 (by decide) ?_)
      rintro W6 b6 m6
      refine hK.out _ _ ⟨Ext.trans_mod HH.out.1 m6 (fun q hq => by have hq2 : q = P := hq; rw [hq2]; exact gPw), b6.laySelf⟩ (fun hHeld => ?_)
      clear hK K HH
      have HH : Hid ((Ext w (_) ∧ Blk (_) P 3 416 (fun _ => Value.int .u8 0))) := hHeld
      clear hHeld
      change wpAnyH _ _ _ _ _ _ _ (Act.put _ none _) _
      simp only [Act.put, List.setIfInBounds_toArray, List.set_cons_zero, List.set_cons_succ]
      refine wpAnyH_done (by kernel_rfl) ?_ _
      go_wp2
      obtain ⟨hEf, bPf⟩ := HH.out
      refine post_rr rt337d rt408 (rowOf (lf x) 0 8) (rowOf (fun _ => Value.int .u8 0) 0 3) (rowOf_size _ _ _) (rowOf_size _ _ _) rfl rfl rfl (((b5.same (fun i hi => (lay_over _ (lf x) 8 i hi).symm)).mod m6 hRP).rowIn (by decide)) (bPf.rowIn (by decide)) rfl ?_
      rw [rowOf_lf x 8 (by omega)]
      refine ⟨x.take 8, _, rfl, by simp [lx], dx.take 8, rowOf_size _ _ _, ones_c8, ?_, hEf⟩
      have e1 := lv_of_zeros x 8 (by omega) (fun i h1 h2 => hxz i (by omega) (by omega))
      rw [← e1]
      have e2 : lv x < Bn 0 := by
        rw [lv_of_zeros x 0 (by omega) (fun i h1 h2 => hxz i h1 (by omega))]
        have := lv_lt (x.take 0) (dx.take _)
        rwa [List.length_take, show min 0 x.length = 0 by omega] at this
      have e3 := lv_ge m (n - 1) (by omega)
      have e4 : Bn 0 ≤ Bn (n - 1) := Bn_le (by omega)
      have e5 : Bn (n - 1) * 1 ≤ Bn (n - 1) * m.getD (n - 1) 0 := Nat.mul_le_mul_left _ (by have := hmt (by omega); omega)
      have e6 : lv x < lv m := by omega
      unfold dmod
      rw [if_neg (by omega), Nat.mod_eq_of_lt e6]
    · have k0 : (0 : Int) < k := by omega
      have j1 : IntKind.u8.wrap ((k : Int) - 1) = ((k - 1 : Nat) : Int) := by rw [IntKind.wrap_u8]; omega
      have i1 : ((k - 1 : Nat) : Int) < 16 := by omega
      have K1 := (hx.ext hE2).atD (i := k - 1) (by omega)
      rcases Nat.lt_or_ge top k with hlt | hge
      · rw [hxz (k - 1) (by omega) (by omega)] at K1
        obtain ⟨p, hp⟩ : ∃ p, Hid (k - 1 = p) := ⟨_, rfl⟩
        rw [hp.out] at K1 j1 i1
        go_wp2_with ((with_reducible (refine Veil.out ?_; apply wl_loadC onet26k)); (case hw => first | rfl | go_simp); (case hx => rfl); (case hc => exact K1))
        go_roundw
        case rel => have hp2 := hp.out; exact ⟨p, int_eq (by omega), by omega, by omega, trivial⟩
        case measure => have hp2 := hp.out; simp [intOf]; omega
      · obtain rfl : top = k := by omega
        have hne := hxt hk0
        obtain ⟨p, hp⟩ : ∃ p, Hid (top - 1 = p) := ⟨_, rfl⟩
        rw [hp.out] at K1 j1 i1 hne
        obtain ⟨y, hy⟩ : ∃ y, Hid (x.getD p 0 = y) := ⟨_, rfl⟩
        rw [hy.out] at K1 hne
        have hb : ((y : Int) == 0) = false := by simp; omega
        have HPA := fun W => run_arrayAt W 345 24 8 8 16 (some ⟨g, 0, none⟩) under337d (Nat.le_refl _)
        have c1 : ((n : Int) == 0) = false := by simp; omega
        have c2 : (top : Int) < n := by omega
        go_upto_region 8 with (first | ((with_reducible (refine Veil.out ?_; apply wl_loadC onet26k)); (case hw => first | rfl | go_simp); (case hx => rfl); (case hc => exact K1)))
        refine w_ext ?_
        rintro W0 hW0
        have hEW : Ext w W0 := by (repeat (first | with_reducible exact Ext.refl _ | with_reducible assumption | refine Ext.trans ?_ (by with_reducible assumption) | refine Ext.alloc ?_ _ _ | refine Ext.drew ?_ | refine Ext.drewN ?_ _))
        refine wp_region_held_drew (S := fun w' => (Ext w (w') ∧ Blk (w') P 3 416 (fun _ => Value.int .u8 0))) (by kernel_rfl) ⟨hEW.drew, (bP.ext (by (repeat (first | with_reducible exact Ext.refl _ | with_reducible assumption | refine Ext.trans ?_ (by with_reducible assumption) | refine Ext.alloc ?_ _ _ | refine Ext.drew ?_ | refine Ext.drewN ?_ _)))).drew⟩ (fun hHeld => ?_)
        have HH : Hid ((Ext w (_) ∧ Blk (_) P 3 416 (fun _ => Value.int .u8 0))) := hHeld
        clear hHeld
        refine wpAnyH_take (i := 0) (v := ?_) rfl (by kernel_rfl) (by kernel_rfl) (by kernel_rfl) (fun _ _ _ h => h) (Or.inl ⟨by rfl, ?_⟩) HH.out ?_
        rotate_left
        · intro w hSw; go_simp; try with_reducible rfl
        change wpAnyH _ _ _ _ _ _ _ (Act.put _ (some 42) _) _
        simp only [Act.put, List.setIfInBounds_toArray, List.set_cons_zero, List.set_cons_succ]
        refine wpAnyH_take (i := 1) (v := ?_) rfl (by kernel_rfl) (by kernel_rfl) (by kernel_rfl) (fun _ _ _ h => h) (Or.inl ⟨by rfl, ?_⟩) HH.out ?_
        rotate_left
        · intro w hSw; go_simp; try with_reducible rfl
        change wpAnyH _ _ _ _ _ _ _ (Act.put _ (some 43) _) _
        simp only [Act.put, List.setIfInBounds_toArray, List.set_cons_zero, List.set_cons_succ]
        refine wpAnyH_take (i := 2) (v := ?_) rfl (by kernel_rfl) (by kernel_rfl) (by kernel_rfl) (fun _ _ _ h => h) (Or.inl ⟨by rfl, ?_⟩) HH.out ?_
        rotate_left
        · intro w hSw; go_simp; try with_reducible rfl
        change wpAnyH _ _ _ _ _ _ _ (Act.put _ (some 44) _) _
        simp only [Act.put, List.setIfInBounds_toArray, List.set_cons_zero, List.set_cons_succ]
        refine wpAnyH_take (i := 3) (v := ?_) rfl (by kernel_rfl) (by kernel_rfl) (by kernel_rfl) (fun _ _ _ h => h) (Or.inl ⟨by rfl, ?_⟩) HH.out ?_
        rotate_left
        · intro w hSw; go_simp; try with_reducible rfl
        change wpAnyH _ _ _ _ _ _ _ (Act.put _ (some 45) _) _
        simp only [Act.put, List.setIfInBounds_toArray, List.set_cons_zero, List.set_cons_succ]
        refine wpAnyH_take (i := 4) rfl (by kernel_rfl) (by kernel_rfl) (by kernel_rfl) (fun _ _ _ h => h) (yields_row rt337d (by rfl) rfl rfl (fun W hW => (hx.ext hW.1).toB lx) (by decide)) HH.out ?_
        change wpAnyH _ _ _ _ _ _ _ (Act.put _ (some 46) _) _
        simp only [Act.put, List.setIfInBounds_toArray, List.set_cons_zero, List.set_cons_succ]
        refine wpAnyH_take (i := 5) rfl (by kernel_rfl) (by kernel_rfl) (by kernel_rfl) (fun _ _ _ h => h) (yields_row rt408 (by rfl) rfl rfl (fun W hW => hW.2) (by decide)) HH.out ?_
        change wpAnyH _ _ _ _ _ _ _ (Act.put _ (some 47) _) _
        simp only [Act.put, List.setIfInBounds_toArray, List.set_cons_zero, List.set_cons_succ]
        refine wpAnyH_ready (rs := [6]) (by kernel_rfl) (by simp) ?_
        refine AllReadyH.cons rfl (fun K hK => ?_) AllReadyH.nil
        refine step_any rfl (op_storeRow rfl rt337d rfl rfl (rowOf_size _ _ _) (ones_lf _ _ _) (bR2.ext (by (repeat (first | with_reducible exact Ext.refl _ | with_reducible assumption | refine Ext.trans ?_ (by with_reducible assumption) | refine Ext.alloc ?_ _ _ | refine Ext.drew ?_ | refine Ext.drewN ?_ _)))) (by decide) ?_)
        rintro W5 b5 m5
        refine hK.out _ _ ⟨Ext.trans_mod HH.out.1 m5 (fun q hq => by have hq2 : q = R := hq; rw [hq2]; exact gR), HH.out.2.mod m5 (fun q => hRP q.symm)⟩ (fun hHeld => ?_)
        clear hK K HH
        have HH : Hid ((Ext w (_) ∧ Blk (_) P 3 416 (fun _ => Value.int .u8 0))) := hHeld
        clear hHeld
        change wpAnyH _ _ _ _ _ _ _ (Act.put _ none _) _
        simp only [Act.put, List.setIfInBounds_toArray, List.set_cons_zero, List.set_cons_succ]
        refine wpAnyH_ready (rs := [7]) (by kernel_rfl) (by simp) ?_
        refine AllReadyH.cons rfl (fun K hK => ?_) AllReadyH.nil
        refine step_any rfl (op_storeRow rfl rt408 rfl rfl (rowOf_size _ _ _) ones_c8 HH.out.2 (by decide) ?_)
        rintro W6 b6 m6
        refine hK.out _ _ ⟨Ext.trans_mod HH.out.1 m6 (fun q hq => by have hq2 : q = P := hq; rw [hq2]; exact gPw), b6.laySelf⟩ (fun hHeld => ?_)
        clear hK K HH
        have HH : Hid ((Ext w (_) ∧ Blk (_) P 3 416 (fun _ => Value.int .u8 0))) := hHeld
        clear hHeld
        change wpAnyH _ _ _ _ _ _ _ (Act.put _ none _) _
        simp only [Act.put, List.setIfInBounds_toArray, List.set_cons_zero, List.set_cons_succ]
        refine wpAnyH_done (by kernel_rfl) ?_ _
        go_wp2
        obtain ⟨hEf, bPf⟩ := HH.out
        refine post_rr rt337d rt408 (rowOf (lf x) 0 8) (rowOf (fun _ => Value.int .u8 0) 0 3) (rowOf_size _ _ _) (rowOf_size _ _ _) rfl rfl rfl (((b5.same (fun i hi => (lay_over _ (lf x) 8 i hi).symm)).mod m6 hRP).rowIn (by decide)) (bPf.rowIn (by decide)) rfl ?_
        rw [rowOf_lf x 8 (by omega)]
        refine ⟨x.take 8, _, rfl, by simp [lx], dx.take 8, rowOf_size _ _ _, ones_c8, ?_, hEf⟩
        have e1 := lv_of_zeros x 8 (by omega) (fun i h1 h2 => hxz i (by omega) (by omega))
        rw [← e1]
        have e2 : lv x < Bn top := by
          rw [lv_of_zeros x top (by omega) (fun i h1 h2 => hxz i h1 (by omega))]
          have := lv_lt (x.take top) (dx.take _)
          rwa [List.length_take, show min top x.length = top by omega] at this
        have e3 := lv_ge m (n - 1) (by omega)
        have e4 : Bn top ≤ Bn (n - 1) := Bn_le (by omega)
        have e5 : Bn (n - 1) * 1 ≤ Bn (n - 1) * m.getD (n - 1) 0 := Nat.mul_le_mul_left _ (by have := hmt (by omega); omega)
        have e6 : lv x < lv m := by omega
        unfold dmod
        rw [if_neg (by omega), Nat.mod_eq_of_lt e6]
end Go.Proofs.YgvahwGreat
