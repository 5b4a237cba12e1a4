import Derived.Test.YgvahwGreatRowsC
namespace Go.Proofs.YgvahwGreat
open Go.RowKit

theorem mPlus (a b : Nat) (w : World) (ha : a < 18446744073709551616) (hb : b < 18446744073709551616) (hab : a + b < 18446744073709551616) :
    Calls Hvah.prog 380 #[.int .u64 a, .int .u64 b] w fun e w' => e = .returned (.int .u64 (a + b : Nat)) ∧ w' = w := by
  have HA : ∀ W, Calls Hvah.prog 178 #[.int .u64 a, .int .u64 b, .int .u64 0] W fun e w' => e = .returned (.tuple #[.int .u64 (a + b : Nat), .int .u64 0]) ∧ w' = W := fun W => by
    refine (mAdd64 a b 0 ha hb (by omega) W).mono ?_
    rintro e w1 ⟨s, k, rfl, hs, hk, hh, rfl⟩
    have h := hh.out
    have e1 : k = 0 := by omega
    have e2 : s = a + b := by omega
    subst e1; subst e2
    exact ⟨rfl, rfl⟩
  generalize a + b = s at *
  go_enter Hvah.func380, Hvah.ntmps380
  go_wp2_with (go_at_call 178; refine (HA _).mono ?_; rintro e w1 ⟨rfl, rfl⟩)
  go_ret
  exact ⟨rfl, rfl⟩

theorem mTimes (a b : Nat) (w : World) (ha : a < 18446744073709551616) (hb : b < 18446744073709551616) (hab : a * b < 18446744073709551616) :
    Calls Hvah.prog 381 #[.int .u64 a, .int .u64 b] w fun e w' => e = .returned (.int .u64 (a * b : Nat)) ∧ w' = w := by
  have HA : ∀ W, Calls Hvah.prog 177 #[.int .u64 a, .int .u64 b] W fun e w' => e = .returned (.tuple #[.int .u64 0, .int .u64 (a * b : Nat)]) ∧ w' = W := fun W => by
    refine (mMul64 a b ha hb W).mono ?_
    rintro e w1 ⟨h, l, rfl, hh, hl, hp, rfl⟩
    have hq := hp.out
    generalize a * b = p at *
    have e1 : h = 0 := by omega
    have e2 : l = p := by omega
    subst e1; subst e2
    exact ⟨rfl, rfl⟩
  generalize a * b = s at *
  go_enter Hvah.func381, Hvah.ntmps381
  go_wp2_with (go_at_call 177; refine (HA _).mono ?_; rintro e w1 ⟨rfl, rfl⟩)
  go_ret
  exact ⟨rfl, rfl⟩

theorem mMemCost (n : Nat) (w : World) (hn : n < 1048576) :
    Calls Hvah.prog 279 #[.int .u64 n] w fun e w' => e = .returned (.int .u64 (memCostA n : Nat)) ∧ Ext w w' := by
  have hnn : n * n < 1099511627776 := Nat.mul_lt_mul'' hn hn
  have HA : ∀ W, Calls Hvah.prog 177 #[.int .u64 n, .int .u64 n] W fun e w' => e = .returned (.tuple #[.int .u64 0, .int .u64 (n * n : Nat)]) ∧ w' = W := fun W => by
    refine (mMul64 n n (by omega) (by omega) W).mono ?_
    rintro e w1 ⟨h, l, rfl, hh, hl, hp, rfl⟩
    have hq := hp.out
    generalize n * n = p at *
    have e1 : h = 0 := by omega
    have e2 : l = p := by omega
    subst e1; subst e2
    exact ⟨rfl, rfl⟩
  have HD : ∀ W, Calls Hvah.prog 379 #[.int .u64 0, .int .u64 (n * n : Nat), .int .u64 512] W fun e w' => ∃ r : Nat, e = .returned (.tuple #[.int .u64 (n * n / 512 : Nat), .int .u64 r, .bool true]) ∧ Ext W w' := fun W => by
    refine (mDiv64_yes 0 (n * n) 512 W (by omega) (by omega) (by omega)).mono ?_
    rintro e w1 ⟨q, r, rfl, hq, hr, hh, he⟩
    have hq := hh.out
    have e1 : q = n * n / 512 := by omega
    subst e1
    exact ⟨r, rfl, he⟩
  have HT := fun W => mTimes 3 n W (by omega) (by omega) (by omega)
  have HP := fun W => mPlus (3 * n) (n * n / 512) W (by omega) (by omega) (by omega)
  unfold memCostA
  generalize n * n / 512 = q at *
  generalize n * n = p at *
  generalize 3 * n = m at *
  go_enter Hvah.func279, Hvah.ntmps279
  go_wp2_with (first | (go_at_call 177; refine (HA _).mono ?_; rintro e w1 ⟨rfl, rfl⟩) | (go_at_call 379; refine (HD _).mono ?_; rintro e w1 ⟨r, rfl, he⟩) | (go_at_call 381; refine (HT _).mono ?_; rintro e w1 ⟨rfl, rfl⟩) | (go_at_call 380; refine (HP _).mono ?_; rintro e w1 ⟨rfl, rfl⟩))
  go_ret
  exact ⟨rfl, he⟩

set_option maxRecDepth 100000 in
theorem mReach (o n : Nat) (w : World) (ho : o < P256) (hn : n < P256) :
    Calls Hvah.prog 370 #[wv o, wv n] w fun e w' => e = .returned (.tuple #[.int .u64 (if endA o n ≤ 717280 then wordsA (endA o n) else 0 : Nat), .bool (decide (endA o n ≤ 717280))]) ∧ Ext w w' := by
  have HZ := fun W => uIsZero n W hn
  have HN := fun W => uU64 n W hn
  have HO := fun W => uU64 o W ho
  have HB := boxes2 w (wvA o) (wvA n) 79 79
  have hE := Ext.refl ((w.alloc (.cells (wvA o) 79)).alloc (.cells (wvA n) 79))
  by_cases h0 : n = 0
  · subst h0
    simp only [decide_true] at HZ
    have e1 : endA o 0 = 0 := rfl
    rw [e1]
    clear e1
    go_enter Hvah.func370, Hvah.ntmps370
    go_wp2_with (first | ((with_reducible (refine Veil.out ?_; apply wl_box)); (case hx => rfl)) | ((with_reducible (refine Veil.out ?_; apply wl_loadW)); (case hx => rfl); (case hr => first | (with_reducible exact (HB _ hE).1) | (with_reducible exact (HB _ hE).2))) | (go_at_call 87; refine (HZ _).mono ?_; rintro e w1 ⟨rfl, he⟩; replace hE := hE.trans he; clear he) | (go_at_call_of 309 (wv n); refine (HN _).mono ?_; rintro e w2 ⟨rfl, he⟩; replace hE := hE.trans he; clear he) | (go_at_call_of 309 (wv o); refine (HO _).mono ?_; rintro e w3 ⟨rfl, he⟩; replace hE := hE.trans he; clear he))
    go_ret2
    exact ⟨rfl, (ext2 ..).trans hE⟩
  · have e1 : endA o n = o + n := by simp [endA, h0]
    rw [e1]
    clear e1
    by_cases hf : n ≤ 717280 ∧ o ≤ 717280 - n
    · rw [if_pos (by omega), decide_eq_true (by omega)]
      exact mReach_t o n w ho hn hf.1 hf.2 h0
    · have hno : ¬ o + n ≤ 717280 := by omega
      rw [if_neg hno, decide_eq_false hno]
      clear hno
      simp only [h0, decide_false] at HZ
      by_cases h1 : n < 18446744073709551616
      · have ⟨q1, q2⟩ := fit64_yes h1
        simp only [q1, q2] at HN
        clear q1 q2
        by_cases h3 : o < 18446744073709551616
        · have ⟨q3, q4⟩ := fit64_yes h3
          simp only [q3, q4] at HO
          clear q3 q4
          by_cases h2 : 717280 < n
          · have i2 : (717280 : Int) < n := by omega
            go_enter Hvah.func370, Hvah.ntmps370
            go_wp2_with (first | ((with_reducible (refine Veil.out ?_; apply wl_box)); (case hx => rfl)) | ((with_reducible (refine Veil.out ?_; apply wl_loadW)); (case hx => rfl); (case hr => first | (with_reducible exact (HB _ hE).1) | (with_reducible exact (HB _ hE).2))) | (go_at_call 87; refine (HZ _).mono ?_; rintro e w1 ⟨rfl, he⟩; replace hE := hE.trans he; clear he) | (go_at_call_of 309 (wv n); refine (HN _).mono ?_; rintro e w2 ⟨rfl, he⟩; replace hE := hE.trans he; clear he) | (go_at_call_of 309 (wv o); refine (HO _).mono ?_; rintro e w3 ⟨rfl, he⟩; replace hE := hE.trans he; clear he))
            go_ret2
            exact ⟨rfl, (ext2 ..).trans hE⟩
          · have i2 : ¬ (717280 : Int) < n := by omega
            have i3 : (717280 - (n : Int)) < o := by omega
            have hs : IntKind.u64.wrap (717280 - (n : Int)) = 717280 - n := by rw [IntKind.wrap_u64]; omega
            go_enter Hvah.func370, Hvah.ntmps370
            go_wp2_with (first | ((with_reducible (refine Veil.out ?_; apply wl_box)); (case hx => rfl)) | ((with_reducible (refine Veil.out ?_; apply wl_loadW)); (case hx => rfl); (case hr => first | (with_reducible exact (HB _ hE).1) | (with_reducible exact (HB _ hE).2))) | (go_at_call 87; refine (HZ _).mono ?_; rintro e w1 ⟨rfl, he⟩; replace hE := hE.trans he; clear he) | (go_at_call_of 309 (wv n); refine (HN _).mono ?_; rintro e w2 ⟨rfl, he⟩; replace hE := hE.trans he; clear he) | (go_at_call_of 309 (wv o); refine (HO _).mono ?_; rintro e w3 ⟨rfl, he⟩; replace hE := hE.trans he; clear he))
            go_ret2
            exact ⟨rfl, (ext2 ..).trans hE⟩
        · have ⟨q3, q4⟩ := fit64_no h3
          simp only [q3, q4] at HO
          clear q3 q4
          go_enter Hvah.func370, Hvah.ntmps370
          go_wp2_with (first | ((with_reducible (refine Veil.out ?_; apply wl_box)); (case hx => rfl)) | ((with_reducible (refine Veil.out ?_; apply wl_loadW)); (case hx => rfl); (case hr => first | (with_reducible exact (HB _ hE).1) | (with_reducible exact (HB _ hE).2))) | (go_at_call 87; refine (HZ _).mono ?_; rintro e w1 ⟨rfl, he⟩; replace hE := hE.trans he; clear he) | (go_at_call_of 309 (wv n); refine (HN _).mono ?_; rintro e w2 ⟨rfl, he⟩; replace hE := hE.trans he; clear he) | (go_at_call_of 309 (wv o); refine (HO _).mono ?_; rintro e w3 ⟨rfl, he⟩; replace hE := hE.trans he; clear he))
          go_ret2
          exact ⟨rfl, (ext2 ..).trans hE⟩
      · have ⟨q1, q2⟩ := fit64_no h1
        simp only [q1, q2] at HN
        clear q1 q2
        go_enter Hvah.func370, Hvah.ntmps370
        go_wp2_with (first | ((with_reducible (refine Veil.out ?_; apply wl_box)); (case hx => rfl)) | ((with_reducible (refine Veil.out ?_; apply wl_loadW)); (case hx => rfl); (case hr => first | (with_reducible exact (HB _ hE).1) | (with_reducible exact (HB _ hE).2))) | (go_at_call 87; refine (HZ _).mono ?_; rintro e w1 ⟨rfl, he⟩; replace hE := hE.trans he; clear he) | (go_at_call_of 309 (wv n); refine (HN _).mono ?_; rintro e w2 ⟨rfl, he⟩; replace hE := hE.trans he; clear he) | (go_at_call_of 309 (wv o); refine (HO _).mono ?_; rintro e w3 ⟨rfl, he⟩; replace hE := hE.trans he; clear he))
        go_ret2
        exact ⟨rfl, (ext2 ..).trans hE⟩

theorem mDeposit (O : Nat → Prop) (gas : Nat) (v : Value) (l : List Nat) (w : World) (hg : gas < 18446744073709551616) (h : NL O w v l) :
    Calls Hvah.prog 263 #[.int .u64 gas, v] w fun e w' => e = .returned (.tuple #[.int .u64 ((depositA gas l).1 : Nat), .int .u8 ((depositA gas l).2 : Nat)]) ∧ w' = w := by
  obtain ⟨o, c, rfl, hc, hm, hb⟩ := h
  have hp : IntKind.u64.wrap (200 * (l.length : Int)) = ((200 * l.length : Nat) : Int) := by rw [IntKind.wrap_u64]; omega
  by_cases h1 : 256 < l.length
  · have e1 : depositA gas l = (0, 10) := by simp [depositA, h1]
    have i1 : (256 : Int) < l.length := by omega
    rw [e1]
    go_enter Hvah.func263, Hvah.ntmps263
    go_wp2
    go_ret2
    exact ⟨rfl, rfl⟩
  · have i1 : ¬ (256 : Int) < l.length := by omega
    by_cases h2 : l = []
    · subst h2
      have e1 : depositA gas [] = (gas, 0) := by simp [depositA]
      rw [e1]
      go_enter Hvah.func263, Hvah.ntmps263
      go_wp2
      go_ret2
      exact ⟨rfl, rfl⟩
    · obtain ⟨b, off, rfl, _, _, hcell⟩ := hb.spot h2
      have hpos : 0 < l.length := List.length_pos_iff.2 h2
      have i2 : (0 : Int) < l.length := by omega
      have c0 := hcell 0 hpos
      rw [Nat.add_zero] at c0
      have hd : l.getD 0 0 = l[0] := by simp [List.getD, hpos]
      have hlt : l[0] < 256 := hb.lt _ (List.getElem_mem hpos)
      have e1 : depositA gas l = if l[0] = 239 then (0, 11) else if gas < 200 * l.length then (0, 2) else (gas - 200 * l.length, 0) := by simp only [depositA, h1, hd, if_false]
      rw [e1]
      clear e1 hd hcell hb
      generalize l[0] = x at *
      by_cases h3 : x = 239
      · subst h3
        go_enter Hvah.func263, Hvah.ntmps263
        go_wp2
        go_ret2
        exact ⟨rfl, rfl⟩
      · have i3 : ((x : Int) == 239) = false := by simp; omega
        rw [if_neg h3]
        have hsm : 200 * l.length ≤ 51200 := by omega
        generalize hL : l.length = n at *
        by_cases h4 : gas < 200 * n
        · have i4 : (gas : Int) < ((200 * n : Nat) : Int) := by omega
          rw [if_pos h4]
          generalize 200 * n = p at *
          go_enter Hvah.func263, Hvah.ntmps263
          go_wp2
          go_ret2
          exact ⟨rfl, rfl⟩
        · have i4 : ¬ (gas : Int) < ((200 * n : Nat) : Int) := by omega
          rw [if_neg h4]
          generalize 200 * n = p at *
          go_enter Hvah.func263, Hvah.ntmps263
          go_wp2
          go_ret2
          exact ⟨by rw [show ((gas - p : Nat) : Int) = (gas : Int) - p by omega]; rfl, rfl⟩

theorem oImm (o : Nat) (w : World) (ho : o < 256) :
    Calls Hvah.prog 160 #[.int .u8 o] w fun e w' => e = .returned (.int .u8 (immA o : Nat)) ∧ w' = w := by
  unfold immA
  by_cases h : 95 < o ∧ o ≤ 127
  · obtain ⟨h1, h2⟩ := h
    have i1 : (95 : Int) < o := by omega
    have i2 : (o : Int) ≤ 127 := by omega
    rw [if_pos ⟨h1, h2⟩]
    go_enter Hvah.func160, Hvah.ntmps160
    go_wp2
    go_ret
    exact ⟨by rw [show ((o - 95 : Nat) : Int) = (o : Int) - 95 by omega]; rfl, rfl⟩
  · rw [if_neg h]
    by_cases h1 : 95 < o
    · have i1 : (95 : Int) < o := by omega
      have i2 : ¬ (o : Int) ≤ 127 := by omega
      go_enter Hvah.func160, Hvah.ntmps160
      go_wp2
      go_ret
      exact ⟨rfl, rfl⟩
    · have i1 : ¬ (95 : Int) < o := by omega
      go_enter Hvah.func160, Hvah.ntmps160
      go_wp2
      go_ret
      exact ⟨rfl, rfl⟩
end Go.Proofs.YgvahwGreat
