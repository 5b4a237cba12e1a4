import Derived.Test.YgvahwGreatYpV
import Derived.Test.YgvahwGreatRowsF
namespace Go.Proofs.YgvahwGreat
open Go.RowKit
theorem dl_P256' {x : Nat} (h : x < P256) : dl x ≤ 32 := dl32 h
section
variable {O : Nat → Prop} {w : World} {v u : Value} {x y : Nat}
set_option maxRecDepth 100000 in
set_option maxHeartbeats 1600000 in
theorem yPicked (hO : Small O w) (h : NV O w v x) (g : NV O w u y) (hy : y < P256) : Calls Hvah.prog 356 #[v, u] w fun e w' => ∃ r, e = .returned r ∧ NV O w' r (if x < 32 then y / 256 ^ (31 - x) % 256 else 0) ∧ Ext w w' := by
  have HU := nU64 O v x w h
  obtain ⟨lb, ⟨ob, cb, rfl, hb1, hb2, hb3⟩, rfl⟩ := g
  have hdb := val_digit lb hb3.lt
  have hlb : (lb.length : Int) ≤ 140737488355328 := by omega
  by_cases hx : x < 32
  · rw [if_pos hx]
    have h64 : x < 18446744073709551616 := by omega
    rw [if_pos h64, decide_eq_true h64] at HU
    clear h64
    have hxi : (x : Int) < 32 := by omega
    rw [← hdb (31 - x)]
    by_cases hl : 31 - x < lb.length
    · have i1 : ¬ ((lb.length : Int) ≤ 31 - x) := by omega
      obtain ⟨b, off, rfl, _, hb, hc⟩ := hb3.spot (fun q => by rw [q] at hl; cases hl)
      have c1 := hc (31 - x) hl
      have hlt := hb3.lt _ (List.getElem_mem hl)
      rw [show lb.getD (31 - x) 0 = lb[31 - x] by simp [List.getD, hl]]
      generalize lb[31 - x] = z at *
      obtain ⟨k, hk⟩ : ∃ k, Hid (31 - x = k) := ⟨_, rfl⟩
      rw [hk.out] at c1 hl
      have i2 : (31 : Int) - x = k := by have := hk.out; omega
      have i3 : (k : Int) < lb.length := by omega
      clear hc hdb
      have hE : Ext w (w.alloc (.cells #[.int .u8 (z : Int)] 5)) := (Ext.refl w).alloc _ _
      have hN : NV O (w.alloc (.cells #[.int .u8 (z : Int)] 5)) (.slice (some ⟨w.heap.size, 0, none⟩) 1 1) z := ⟨[z], NL.row (t := 5) (heap_new _ _) (fun d hd => by rw [List.mem_singleton.1 hd]; exact hlt) (fun hx => Nat.lt_irrefl _ (hO _ hx)) rfl (by decide), by simp [val]⟩
      go_enter Hvah.func356, Hvah.ntmps356
      go_wp2_with (first | (go_at_call 89; refine HU.mono ?_; rintro e w1 ⟨rfl, rfl⟩) | (go_at_call 132; refine (nNorm O _ _ _ (hO.ext hE) hN).mono ?_; rintro e w1 ⟨r, rfl, hr0, he⟩))
      go_ret
      exact ⟨r, rfl, hr0.nv, hE.trans he⟩
    · have i1 : ((lb.length : Int) ≤ 31 - x) := by omega
      rw [show lb.getD (31 - x) 0 = 0 by simp [List.getD, Nat.le_of_not_lt hl]]
      go_enter Hvah.func356, Hvah.ntmps356
      go_wp2_with (first | (go_at_call 89; refine HU.mono ?_; rintro e w1 ⟨rfl, rfl⟩))
      go_ret
      exact ⟨_, rfl, NV.nil, Ext.refl _⟩
  · rw [if_neg hx]
    by_cases h64 : x < 18446744073709551616
    · rw [if_pos h64, decide_eq_true h64] at HU
      have hxi : ¬ (x : Int) < 32 := by omega
      have hxi2 : (32 : Int) ≤ x := by omega
      go_enter Hvah.func356, Hvah.ntmps356
      go_wp2_with (first | (go_at_call 89; refine HU.mono ?_; rintro e w1 ⟨rfl, rfl⟩))
      go_ret
      exact ⟨_, rfl, NV.nil, Ext.refl _⟩
    · rw [if_neg h64, decide_eq_false h64] at HU
      go_enter Hvah.func356, Hvah.ntmps356
      go_wp2_with (first | (go_at_call 89; refine HU.mono ?_; rintro e w1 ⟨rfl, rfl⟩))
      go_ret
      exact ⟨_, rfl, NV.nil, Ext.refl _⟩
set_option maxRecDepth 100000 in
set_option maxHeartbeats 1600000 in
theorem yPower (hO : Small O w) (h : NV O w v x) (g : NV O w u y) (hx : x < P256) (hy : y < P256) : Calls Hvah.prog 351 #[v, u] w fun e w' => ∃ r, e = .returned r ∧ NV O w' r (x ^ y % P256) ∧ Ext w w' := by
  obtain ⟨lb, hb0, hval⟩ := g
  have hb := hb0
  obtain ⟨ob, cb, rfl, hb1, hb2, hb3⟩ := hb0
  have hlb : (lb.length : Int) ≤ 140737488355328 := by omega
  have hmin : (min (lb.length : Int) 32) = ((min lb.length 32 : Nat) : Int) := by omega
  obtain ⟨m, hm⟩ : ∃ m, Hid (min lb.length 32 = m) := ⟨_, rfl⟩
  rw [hm.out] at hmin
  have hm32 : m ≤ 32 := by have := hm.out; omega
  have hm32i : (m : Int) ≤ 32 := by omega
  have hym : y < 2 ^ (8 * m) := by
    have := hm.out
    rw [Nat.pow_mul]
    by_cases hl : lb.length ≤ 32
    · rw [show m = lb.length by omega, ← hval]
      exact val_lt lb hb3.lt
    · rw [show m = 32 by omega]
      have : P256 = (2 ^ 8) ^ 32 := P256_eq
      omega
  have hdx := dl_P256' hx
  have hE0 : Ext w (w.alloc (.cells #[.int .u8 1] 5)) := (Ext.refl w).alloc _ _
  have hN : NV O (w.alloc (.cells #[.int .u8 1] 5)) (.slice (some ⟨w.heap.size, 0, none⟩) 1 1) 1 := ⟨[1], NL.row (t := 5) (heap_new _ _) (fun d hd => by rw [List.mem_singleton.1 hd]; decide) (fun hx => Nat.lt_irrefl _ (hO _ hx)) rfl (by decide), by simp [val]⟩
  go_enter Hvah.func351, Hvah.ntmps351
  go_wp2
  go_loopw [5, 6] (fun p ix wr => ∃ k, k ≤ 8 * m ∧ ix = .int .i64 (k : Nat) ∧ Ext w wr ∧ NV O wr p (x ^ (y / 2 ^ k) % P256)) (fun _ ix _ => (intOf ix).toNat)
  case atStart => exact ⟨8 * m, Nat.le_refl _, int_eq (by omega), hE0, by
    rw [Nat.div_eq_of_lt hym]
    exact hN⟩
  case round =>
    obtain ⟨k, hk, rfl, hE, hp⟩ := hrel
    by_cases h0 : k = 0
    · subst h0
      rw [Nat.pow_zero, Nat.div_one] at hp
      go_wp2
      go_ret
      exact ⟨_, rfl, hp, hE⟩
    · obtain ⟨j, rfl⟩ : ∃ j, k = j + 1 := ⟨k - 1, by omega⟩
      have hj : j < 65536 := by omega
      have hji : ((j + 1 : Nat) : Int) - 1 = j := by omega
      have hj0 : (0 : Int) < ((j + 1 : Nat) : Int) := by omega
      have hjw : IntKind.u16.wrap (j : Int) = j := by rw [IntKind.wrap_u16]; omega
      have hpb := pow_bit x y j
      generalize x ^ (y / 2 ^ (j + 1)) = A at *
      obtain ⟨B, hBe⟩ : ∃ B, Hid (x ^ (y / 2 ^ j) = B) := ⟨_, rfl⟩
      rw [hBe.out] at hpb
      have hA := dl_P256' (Nat.mod_lt A P256_pos)
      have hdm := dl_mul _ _ _ _ hA hA
      have hm1 : A % P256 * (A % P256) % P256 = A * A % P256 := by rw [← Nat.mul_mod]
      have hdA := dl_P256' (Nat.mod_lt (A * A) P256_pos)
      have hdm2 := dl_mul _ _ _ _ hdA hdx
      have hm2 : A * A % P256 * x % P256 = A * A * x % P256 := by rw [Nat.mod_mul_mod]
      go_wp2_with (first
        | (go_at_call_of 60 v; refine (nMul O _ _ _ _ _ (hO.ext (hE.trans (he1.trans he2))) hr2 (h.ext (hE.trans (he1.trans he2))) (by omega) (by omega)).mono ?_; rintro e w3 ⟨r3, rfl, hr3, he3⟩)
        | (go_at_call 60; refine (nMul O _ _ _ _ _ (hO.ext hE) hp hp (by omega) (by omega)).mono ?_; rintro e w1 ⟨r1, rfl, hr1, he1⟩)
        | (go_at_call_of 346 r3; refine (yWrapped (hO.ext (hE.trans ((he1.trans he2).trans he3))) hr3).mono ?_; rintro e w4 ⟨r4, rfl, hr4, he4⟩)
        | (go_at_call 346; refine (yWrapped (hO.ext (hE.trans he1)) hr1).mono ?_; rintro e w2 ⟨r2, rfl, hr2, he2⟩; rw [hm1] at hr2)
        | (go_at_call 339; refine (nBit (NV.ext ⟨lb, hb, hval⟩ (hE.trans (he1.trans he2))) j hj).mono ?_; rintro e w5 ⟨rfl, rfl⟩))
      · have hb : y.testBit j = true := by assumption
        rw [if_pos hb] at hpb
        refine ⟨⟨j, by omega, rfl, hE.trans ((he1.trans he2).trans (he3.trans he4)), ?_⟩, by simp [intOf]⟩
        rw [hBe.out, ← hpb, ← hm2]
        exact hr4
      · have hb : y.testBit j = false := by first | assumption | simpa using (by assumption : ¬ y.testBit j = true)
        rw [hb] at hpb
        refine ⟨⟨j, by omega, rfl, hE.trans (he1.trans he2), ?_⟩, by simp [intOf]⟩
        rw [hBe.out, ← hpb]
        simpa using hr2
set_option maxRecDepth 100000 in
set_option maxHeartbeats 1600000 in
theorem ySignExt (hO : Small O w) (h : NV O w v x) (g : NV O w u y) (_hx : x < P256) (hy : y < P256) : Calls Hvah.prog 352 #[v, u] w fun e w' => ∃ r, e = .returned r ∧ NV O w' r (sextW x y) ∧ Ext w w' := by
  have HU := nU64 O v x w h
  have hdy := dl_P256' hy
  have hE := Ext.refl w
  by_cases hx31 : x < 31
  · have h64 : x < 18446744073709551616 := by omega
    rw [if_pos h64, decide_eq_true h64] at HU
    clear h64
    have hs := sext_tb x y hx31
    have i1 : ¬ (31 : Int) ≤ x := by omega
    have i2 : (x : Int) < 31 := by omega
    have i3 : IntKind.u16.wrap (8 * (x : Int) + 7) = ((8 * x + 7 : Nat) : Int) := by rw [IntKind.wrap_u16]; omega
    have i4 : ((8 * x + 7 : Nat) : Int) + 1 = ((8 * x + 8 : Nat) : Int) := by omega
    have i5 : IntKind.u16.wrap ((8 * x + 8 : Nat) : Int) = ((8 * x + 8 : Nat) : Int) := by rw [IntKind.wrap_u16]; omega
    have hdp : dl (2 ^ (8 * x + 8)) ≤ 33 := (dl_le_iff _ _).2 (by
      rw [show (256 : Nat) = 2 ^ 8 from rfl, ← Nat.pow_mul]
      generalize hz : 8 * 33 = z
      exact Nat.pow_lt_pow_right (by decide) (by omega))
    have h0 : 2 ^ (8 * x + 8) ≠ 0 := Nat.ne_of_gt (Nat.pow_pos (by decide))
    have hdl := Nat.le_trans (dl_mod y (2 ^ (8 * x + 8)) _ hdy) (by decide : 32 ≤ 2000)
    have hd2 : dl (P256 - 2 ^ (8 * x + 8)) ≤ 2000 := Nat.le_trans (dl_sub _ _ 33 (by decide +kernel)) (by decide)
    obtain ⟨k, hk⟩ : ∃ k, Hid (8 * x + 8 = k) := ⟨_, rfl⟩
    obtain ⟨m, hm⟩ : ∃ m, Hid (8 * x + 7 = m) := ⟨_, rfl⟩
    have hk6 : k < 65536 := by have := hk.out; omega
    have hm6 : m < 65536 := by have := hm.out; omega
    rw [hk.out] at i4 i5 hdp h0 hdl hd2 hs
    rw [hm.out] at i3 i4 hs
    have hpp : Hid (P256 = 2 ^ 256) := P256_eq
    have HS : Hid (_ = _) := hs
    clear hs
    have HK6 : Hid (k < 65536 ∧ m < 65536) := ⟨hk6, hm6⟩
    clear hk6 hm6
    have HP2 : ∀ W, Ext w W → Calls Hvah.prog 405 #[.int .u16 256] W fun e w' => ∃ r, e = .returned r ∧ NV O w' r P256 ∧ Ext W w' := fun W hW => by
      have := nPow2 (hO.ext hW) 256 (by decide)
      rwa [← hpp.out] at this
    have HPk := fun W (hW : Ext w W) => nPow2 (hO.ext hW) k HK6.out.1
    obtain ⟨Z, hZ⟩ : ∃ Z, 2 ^ k = Z := ⟨_, rfl⟩
    rw [hZ] at HPk hdp h0 hdl hd2 HS
    clear hZ hpp
    have Hdp : Hid (_ ∧ _ ∧ _ ∧ _) := ⟨Nat.le_trans hdy (by decide : 32 ≤ 2000), Nat.le_trans hdp (by decide : 33 ≤ 2000), hdl, hd2⟩
    have H0 : Hid (_ ≠ _) := h0
    clear hdp hdl hd2 h0 hdy hy
    go_enter Hvah.func352, Hvah.ntmps352
    go_wp2_with (first
      | (go_at_call 89; refine HU.mono ?_; rintro e w1 ⟨rfl, rfl⟩)
      | (go_at_call 405; with_reducible refine (HP2 _ hE).mono ?_; rintro e w1 ⟨r4, rfl, hr4, he⟩; replace hE := hE.trans he; replace hr2 := hr2.ext he)
      | (go_at_call 405; with_reducible refine (HPk _ hE).mono ?_; rintro e w1 ⟨r1, rfl, hr1, he⟩; replace hE := hE.trans he; (try replace hr2 := hr2.ext he); (try replace hr4 := hr4.ext he))
      | (go_at_call 164; refine (nDivMod O _ _ _ _ _ (hO.ext hE) (g.ext hE) hr1 Hdp.out.1 Hdp.out.2.1).mono ?_; rintro e w1 ⟨r3, r2, rfl, hr3, hr2, he⟩; replace hE := hE.trans he; rw [if_neg H0.out] at hr2)
      | (go_at_call 339; refine (nBit (g.ext hE) m HK6.out.2).mono ?_; rintro e w5 ⟨rfl, rfl⟩)
      | (go_at_call 134; refine (nSub O _ _ _ _ _ (hO.ext hE) hr4 hr1).mono ?_; rintro e w1 ⟨r5, rfl, hr5, he⟩; replace hE := hE.trans he; replace hr2 := hr2.ext he)
      | (go_at_call 44; refine (nAdd O _ _ _ _ _ (hO.ext hE) hr2 hr5 Hdp.out.2.2.1 Hdp.out.2.2.2).mono ?_; rintro e w1 ⟨r6, rfl, hr6, he⟩; replace hE := hE.trans he))
    · go_ret
      have hb : y.testBit m = false := by simpa using (by assumption : (!y.testBit m) = true)
      exact ⟨_, rfl, by rw [HS.out, hb]; exact hr2, hE⟩
    · go_ret
      have hb : y.testBit m = true := by simpa using (by assumption : (!y.testBit m) = false)
      exact ⟨_, rfl, by rw [HS.out, if_pos hb]; exact hr6, hE⟩
  · have hs : sextW x y = y := by unfold sextW; rw [if_neg hx31]
    rw [hs]
    by_cases h64 : x < 18446744073709551616
    · rw [if_pos h64, decide_eq_true h64] at HU
      have i1 : (31 : Int) ≤ x := by omega
      go_enter Hvah.func352, Hvah.ntmps352
      go_wp2_with (first | (go_at_call 89; refine HU.mono ?_; rintro e w1 ⟨rfl, rfl⟩) | (go_at_call 132; refine (nNorm O _ _ _ hO g).mono ?_; rintro e w1 ⟨r, rfl, hr0, he⟩))
      go_ret
      exact ⟨r, rfl, hr0.nv, he⟩
    · rw [if_neg h64, decide_eq_false h64] at HU
      go_enter Hvah.func352, Hvah.ntmps352
      go_wp2_with (first | (go_at_call 89; refine HU.mono ?_; rintro e w1 ⟨rfl, rfl⟩) | (go_at_call 132; refine (nNorm O _ _ _ hO g).mono ?_; rintro e w1 ⟨r, rfl, hr0, he⟩))
      go_ret
      exact ⟨r, rfl, hr0.nv, he⟩
end
end Go.Proofs.YgvahwGreat
