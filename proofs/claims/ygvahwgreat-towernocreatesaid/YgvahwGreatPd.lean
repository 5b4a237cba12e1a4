import Derived.Test.YgvahwGreatPc
import Derived.Test.YgvahwGreatNa
namespace Go.Proofs.YgvahwGreat
open Go.RowKit
set_option linter.unusedSimpArgs false
theorem nbits_top (x n l r : Nat) (he : x = l * 2 ^ (64 * n) + r) (hr : r < 2 ^ (64 * n)) (h0 : l ≠ 0) (hl : l < 2 ^ 64) : nbits x = 64 * n + Lib.bitLen l := by
  have h1 := bl_lt l hl
  have h2 := bl_ge l h0 hl
  have h3 := bl_pos l h0 hl
  have h4 : 2 ^ (Lib.bitLen l - 1) ≤ l := by
    have : 2 ^ Lib.bitLen l = 2 ^ (Lib.bitLen l - 1) * 2 := by rw [← Nat.pow_succ]; congr 1; omega
    omega
  have h5 := Nat.mul_le_mul_right (2 ^ (64 * n)) h4
  rw [← Nat.pow_add] at h5
  have h6 : (l + 1) * 2 ^ (64 * n) ≤ 2 ^ Lib.bitLen l * 2 ^ (64 * n) := Nat.mul_le_mul_right _ h1
  rw [Nat.add_mul, Nat.one_mul, ← Nat.pow_add] at h6
  have h7 := nbits_of (x := x) (j := Lib.bitLen l - 1 + 64 * n) (by omega) (by rw [show Lib.bitLen l - 1 + 64 * n + 1 = Lib.bitLen l + 64 * n by omega]; omega)
  omega
theorem WAt.at_ {c : Nat → Value} {x j : Nat} (h : WAt c 0 x) (hj : j < 4) : c j = .int .u64 (lim x j : Nat) := by
  have : j = 0 ∨ j = 1 ∨ j = 2 ∨ j = 3 := by omega
  rcases this with rfl | rfl | rfl | rfl
  · exact h.c0
  · exact h.c1
  · exact h.c2
  · exact h.c3
theorem nbits_nlim (x : Nat) (hx : x < P256) : (nlim x = 0 ∧ x = 0) ∨ (1 ≤ nlim x ∧ lim x (nlim x - 1) ≠ 0 ∧ nbits x = 64 * (nlim x - 1) + Lib.bitLen (lim x (nlim x - 1))) := by
  obtain ⟨e, h0, h1, h2, h3⟩ := lim4 x hx
  unfold nlim
  split
  next h =>
    right; refine ⟨by omega, h, ?_⟩
    exact nbits_top x 3 (lim x 3) (lim x 0 + 18446744073709551616 * (lim x 1 + 18446744073709551616 * lim x 2)) (by rw [show (2 : Nat) ^ (64 * 3) = 6277101735386680763835789423207666416102355444464034512896 by decide]; omega) (by rw [show (2 : Nat) ^ (64 * 3) = 6277101735386680763835789423207666416102355444464034512896 by decide]; omega) h h3
  next h =>
    have hz : lim x 3 = 0 := by omega
    rw [hz] at e
    split
    next h =>
      right; refine ⟨by omega, h, ?_⟩
      exact nbits_top x 2 (lim x 2) (lim x 0 + 18446744073709551616 * lim x 1) (by rw [show (2 : Nat) ^ (64 * 2) = 340282366920938463463374607431768211456 by decide]; omega) (by rw [show (2 : Nat) ^ (64 * 2) = 340282366920938463463374607431768211456 by decide]; omega) h h2
    next h =>
      have hz : lim x 2 = 0 := by omega
      rw [hz] at e
      split
      next h =>
        right; refine ⟨by omega, h, ?_⟩
        exact nbits_top x 1 (lim x 1) (lim x 0) (by rw [show (2 : Nat) ^ (64 * 1) = 18446744073709551616 by decide]; omega) (by rw [show (2 : Nat) ^ (64 * 1) = 18446744073709551616 by decide]; omega) h h1
      next h =>
        have hz : lim x 1 = 0 := by omega
        rw [hz] at e
        split
        next h =>
          right; refine ⟨by omega, h, ?_⟩
          exact nbits_top x 0 (lim x 0) 0 (by rw [show (2 : Nat) ^ (64 * 0) = 1 by decide]; omega) (by decide) h h0
        next h => left; exact ⟨rfl, by omega⟩

section
variable {w : World}
set_option maxRecDepth 100000 in
set_option maxHeartbeats 6400000 in
theorem mNatCost4 {O : Nat → Prop} {v : Value} {L : List Nat} (hv : NL O w v L) : Calls Hvah.prog 193 #[.int .u8 4, v] w fun e w' => e = .returned (.tuple #[.int .u64 (15 + 3 * wordsA L.length : Nat), .bool true]) ∧ Ext w w' := by
  obtain ⟨o, cap, rfl, i1, i2, i3⟩ := hv
  have hl : L.length ≤ 140737488355328 := by omega
  have HW := fun W => mWords L.length (by omega) W
  have hw1 : IntKind.u64.wrap (L.length : Int) = L.length := by rw [IntKind.wrap_u64]; omega
  obtain ⟨q, hq⟩ : ∃ q, Hid ((L.length + 31) / 32 = q) := ⟨_, rfl⟩
  have hq2 : q ≤ 140737488355328 := by rw [← hq.out]; omega
  rw [hq.out] at HW
  have hw2 : IntKind.u64.wrap ((3 : Int) * q) = 3 * q := by rw [IntKind.wrap_u64]; omega
  have hw3 : IntKind.u64.wrap ((15 : Int) + 3 * q) = 15 + 3 * q := by rw [IntKind.wrap_u64]; omega
  go_enter Hvah.func193, Hvah.ntmps193
  go_wp2_with (first | (go_at_call 176; refine (HW _).mono ?_; rintro e w1 ⟨rfl, hww⟩; replace hww := hww.symm; subst hww))
  refine bodyPost_ret (v := .tuple #[.int .u64 (15 + 3 * wordsA L.length : Nat), .bool true]) (by simp [results, Hvah.results193, go_sem]; unfold wordsA; rw [hq.out]; try rfl) rfl ?_
  exact ⟨rfl, by (repeat (first | with_reducible exact Ext.refl _ | with_reducible assumption | refine Ext.trans ?_ (by with_reducible assumption) | refine Ext.alloc ?_ _ _ | refine Ext.drew ?_ | refine Ext.drewN ?_ _))⟩
set_option maxRecDepth 100000 in
set_option maxHeartbeats 6400000 in
theorem mNatCost5n {O : Nat → Prop} {v : Value} {L : List Nat} (hv : NL O w v L) (hn : natLens L = none) : Calls Hvah.prog 193 #[.int .u8 5, v] w fun e w' => e = .returned (.tuple #[.int .u64 0, .bool false]) ∧ Ext w w' := by
  have HL := fun W (hW : Ext w W) => mLengths (hv.ext hW)
  rw [show lensI L = .tuple #[.int .i64 0, .int .i64 0, .int .i64 0, .bool false] by unfold lensI; rw [hn]] at HL
  clear hn
  go_enter Hvah.func193, Hvah.ntmps193
  go_wp2_with (first | (go_at_call 259; refine (HL _ (by (repeat (first | with_reducible exact Ext.refl _ | with_reducible assumption | refine Ext.trans ?_ (by with_reducible assumption) | refine Ext.alloc ?_ _ _ | refine Ext.drew ?_ | refine Ext.drewN ?_ _)))).mono ?_; rintro e w1 ⟨rfl, he⟩))
  refine bodyPost_ret (v := .tuple #[.int .u64 0, .bool false]) (by simp [results, Hvah.results193, go_sem]; try rfl) rfl ?_
  exact ⟨rfl, by (repeat (first | with_reducible exact Ext.refl _ | with_reducible assumption | refine Ext.trans ?_ (by with_reducible assumption) | refine Ext.alloc ?_ _ _ | refine Ext.drew ?_ | refine Ext.drewN ?_ _))⟩
set_option maxRecDepth 100000 in
set_option maxHeartbeats 6400000 in
theorem mNatCost5 {O : Nat → Prop} {v : Value} {L : List Nat} (hv : NL O w v L) {b e m : Nat} (hn : natLens L = some (b, e, m)) : Calls Hvah.prog 193 #[.int .u8 5, v] w fun e' w' => e' = .returned (.tuple #[.int .u64 (max 200 ((max b m + 7) / 8 * ((max b m + 7) / 8) * max (nbits (natPart L (96 + b) (min e 32)) - 1 + 8 * (e - 32)) 1 / 3) : Nat), .bool true]) ∧ Ext w w' := by
  have hle : b ≤ 64 ∧ e ≤ 64 ∧ m ≤ 64 := by
    unfold natLens at hn
    simp only [] at hn
    split at hn
    · cases hn
    · injection hn with hn; injection hn with h1 h2; injection h2 with h2 h3; omega
  obtain ⟨hb64, he64, hm64⟩ := hle
  have HL := fun W (hW : Ext w W) => mLengths (hv.ext hW)
  rw [show lensI L = .tuple #[.int .i64 (b : Nat), .int .i64 (e : Nat), .int .i64 (m : Nat), .bool true] by unfold lensI; rw [hn]] at HL
  clear hn
  obtain ⟨hx, hdig⟩ := natPart_lt hv (96 + b) (min e 32)
  obtain ⟨k, hk⟩ : ∃ k, Hid (min e 32 = k) := ⟨_, rfl⟩
  have hk32 : k ≤ 32 := by rw [← hk.out]; omega
  rw [hk.out] at hx hdig
  rw [hk.out]
  have HP : ∀ W, Ext w W → ∀ B c, Blk W B 32 32 c → (∀ i, i < 32 → c i = .int .u8 0) → Calls Hvah.prog 260 #[.slice (some ⟨B, 0, none⟩) 32 32, v, .int .i64 (96 + (b : Int)), .int .i64 (k : Nat)] W fun e w' => e = .returned (.tuple #[]) ∧ ∃ c', Blk w' B 32 32 c' ∧ rowOf c' 0 32 = (bcells (List.replicate (32 - k) 0 ++ cutA L (96 + b) k)).toArray ∧ Mod (· = B) W w' := fun W hW B c hB hz => by
    rw [show (96 : Int) + b = ((96 + b : Nat) : Int) by omega]
    exact mPart (hv.ext hW) hB hz (by decide) (96 + b) k (by omega) hk32
  have HF := fun W => uFromBytes (List.replicate (32 - k) 0 ++ cutA L (96 + b) k) W (by simp [cutA]; omega) (fun d hd => by
    rcases List.mem_append.1 hd with q | q
    · rw [List.eq_of_mem_replicate q]; decide
    · exact hdig d q)
  rw [bev_zeros] at HF
  have hxP : natPart L (96 + b) k < P256 := by rw [show P256 = 256 ^ 32 from by decide]; exact Nat.lt_of_lt_of_le hx (Nat.pow_le_pow_right (by decide) hk32)
  change ∀ W, Calls Hvah.prog 92 _ W fun e w' => e = .returned (wv (natPart L (96 + b) k)) ∧ Ext W w' at HF
  have hT9 : ∃ T : List Nat, List.replicate (32 - k) 0 ++ cutA L (96 + b) k = T := ⟨_, rfl⟩
  obtain ⟨T, hT⟩ := hT9
  rw [hT] at HF HP
  clear hT hdig hx
  obtain ⟨x, hxx⟩ : ∃ x, Hid (natPart L (96 + b) k = x) := ⟨_, rfl⟩
  rw [hxx.out] at HF hxP
  rw [hxx.out]
  clear hxx
  have HN := fun W => uLimbs x W
  have hN4 := nlim_le x
  have hmin : min (e : Int) 32 = (k : Nat) := by have := hk.out; omega
  have hbm : (max (b : Int) m) = ((max b m : Nat) : Int) := by omega
  obtain ⟨M, hM⟩ : ∃ M, Hid (max b m = M) := ⟨_, rfl⟩
  have hM64 : M ≤ 64 := by have := hM.out; omega
  rw [hM.out] at hbm
  rw [hM.out]
  obtain ⟨d, hd⟩ : ∃ d, Hid ((M + 7) / 8 = d) := ⟨_, rfl⟩
  have hd8 : d ≤ 8 := by have := hd.out; omega
  rw [hd.out]
  have jw1 : IntKind.u64.wrap (M : Int) = M := by rw [IntKind.wrap_u64]; omega
  have jw2 : IntKind.u64.wrap ((M : Int) + 7) = (M : Int) + 7 := by rw [IntKind.wrap_u64]; omega
  have jw3 : ((M : Int) + 7) / 8 = (d : Nat) := by have := hd.out; omega
  have jw4 : IntKind.u64.wrap (d : Int) = d := by rw [IntKind.wrap_u64]; omega
  have jw5 : IntKind.i64.wrap ((96 : Int) + b) = 96 + b := by rw [IntKind.wrap_i64]; omega
  rcases Nat.lt_or_ge 32 e with he32 | he32
  · have i32 :  (32 : Int) < e := by omega
    have ke : IntKind.i64.wrap ((e : Int) - 32) = ((e - 32 : Nat) : Int) := by rw [IntKind.wrap_i64]; omega
    obtain ⟨E, hE9⟩ : ∃ E, Hid (e - 32 = E) := ⟨_, rfl⟩
    have hE32 : E ≤ 32 := by have := hE9.out; omega
    rw [hE9.out] at ke
    rw [hE9.out]
    have ke2 : IntKind.u64.wrap (E : Int) = E := by rw [IntKind.wrap_u64]; omega
    have ke3 : IntKind.u64.wrap ((8 : Int) * E) = 8 * E := by rw [IntKind.wrap_u64]; omega
    rcases nbits_nlim x hxP with ⟨h1, h2⟩ | ⟨h1, h2, h3⟩
    · rw [h1] at HN
      rw [h2, show nbits 0 = 0 from rfl]
      clear h2
      have t9 : ∃ T9, Hid (0 - 1 + 8 * E = T9) := ⟨_, rfl⟩
      obtain ⟨T9, hT9⟩ := t9
      rw [hT9.out]
      have hT8 : T9 ≤ 600 := by have := hT9.out; omega
      have kt : (8 : Int) * E = (T9 : Nat) := by have := hT9.out; omega
      rw [kt] at ke3
      obtain ⟨u, hu⟩ : ∃ u, Hid (max T9 1 = u) := ⟨_, rfl⟩
      have hu9 : u ≤ 600 := by have := hu.out; omega
      rw [hu.out]
      have ku : max ((T9 : Nat) : Int) 1 = (u : Nat) := by have := hu.out; omega
      obtain ⟨dd, hdd⟩ : ∃ dd, Hid (d * d = dd) := ⟨_, rfl⟩
      have hdd9 : dd ≤ 64 := by rw [← hdd.out]; exact Nat.mul_le_mul hd8 hd8
      have kd0 : (d : Int) * d = (dd : Nat) := by rw [← hdd.out]; exact (Int.natCast_mul d d).symm
      have kd : IntKind.u64.wrap ((d : Int) * d) = (dd : Nat) := by rw [kd0, IntKind.wrap_u64]; omega
      clear kd0
      rw [hdd.out]
      obtain ⟨p, hp⟩ : ∃ p, Hid (dd * u = p) := ⟨_, rfl⟩
      have hp9 : p ≤ 64 * 600 := by rw [← hp.out]; exact Nat.mul_le_mul hdd9 hu9
      have kp0 : (dd : Int) * u = (p : Nat) := by rw [← hp.out]; exact (Int.natCast_mul dd u).symm
      have kp : IntKind.u64.wrap ((dd : Int) * u) = (p : Nat) := by rw [kp0, IntKind.wrap_u64]; omega
      clear kp0
      rw [hp.out]
      obtain ⟨q, hq⟩ : ∃ q, Hid (p / 3 = q) := ⟨_, rfl⟩
      have kq : (p : Int) / 3 = (q : Nat) := by have := hq.out; omega
      have kq1 : Int.tdiv (p : Int) 3 = (q : Nat) := by rw [Int.tdiv_eq_ediv_of_nonneg (by omega), kq]
      have kq2 : IntKind.u64.wrap (q : Int) = q := by have := hq.out; rw [IntKind.wrap_u64]; omega
      rw [hq.out]
      obtain ⟨r, hr⟩ : ∃ r, Hid (max 200 q = r) := ⟨_, rfl⟩
      have kr : max (200 : Int) (q : Nat) = (r : Nat) := by have := hr.out; omega
      rw [hr.out]
      go_enter Hvah.func193, Hvah.ntmps193
      go_wp2_with (first | (go_at_call 259; refine (HL _ (by (repeat (first | with_reducible exact Ext.refl _ | with_reducible assumption | refine Ext.trans ?_ (by with_reducible assumption) | refine Ext.alloc ?_ _ _ | refine Ext.drew ?_ | refine Ext.drewN ?_ _)))).mono ?_; rintro e w1 ⟨rfl, he⟩) | ((with_reducible (refine Veil.out ?_; apply wl_allocB (n := 32) z27)); (case hn => rfl); rintro B5 W5 e5 b5 g5) | (go_at_call 260; refine (HP _ (by (repeat (first | with_reducible exact Ext.refl _ | with_reducible assumption | refine Ext.trans ?_ (by with_reducible assumption) | refine Ext.alloc ?_ _ _ | refine Ext.drew ?_ | refine Ext.drewN ?_ _))) _ _ b5 (fun i hi => z27_at hi)).mono ?_; rintro e W7 ⟨rfl, c7, b7, r7, m7⟩; have hE7 : Ext w W7 := Ext.trans_mod (show Ext w _ by (repeat (first | with_reducible exact Ext.refl _ | with_reducible assumption | refine Ext.trans ?_ (by with_reducible assumption) | refine Ext.alloc ?_ _ _ | refine Ext.drew ?_ | refine Ext.drewN ?_ _))) m7 (fun x hx => by have hx2 : x = B5 := hx; rw [hx2]; exact Nat.le_trans (Ext.size (show Ext w _ by (repeat (first | with_reducible exact Ext.refl _ | with_reducible assumption | refine Ext.trans ?_ (by with_reducible assumption) | refine Ext.alloc ?_ _ _ | refine Ext.drew ?_ | refine Ext.drewN ?_ _)))) g5); clear m7 b5 e5) | ((with_reducible (refine Veil.out ?_; apply wl_loadRow rt27)); (case hx => rfl); (case hB => exact b7.ext (by (repeat (first | with_reducible exact Ext.refl _ | with_reducible assumption | refine Ext.trans ?_ (by with_reducible assumption) | refine Ext.alloc ?_ _ _ | refine Ext.drew ?_ | refine Ext.drewN ?_ _)))); (case hi => decide); rw [r7]) | (go_at_call 92; refine (HF _).mono ?_; rintro e w1 ⟨rfl, he⟩) | ((with_reducible (refine Veil.out ?_; apply wl_allocW)); rintro B20 Wa20 ca20 ea20 ba20 aa20 ga20; have hC20 : w.heap.size ≤ B20 := Nat.le_trans (Ext.size (show Ext w _ from by (repeat (first | with_reducible exact Ext.refl _ | with_reducible assumption | refine Ext.trans ?_ (by with_reducible assumption) | refine Ext.alloc ?_ _ _ | refine Ext.drew ?_ | refine Ext.drewN ?_ _)))) ga20) | ((with_reducible (refine Veil.out ?_; apply wl_storeWB)); (case hx => rfl); (case hy => first | rfl | exact wv0.symm); (case hB => exact ba20.ext (by (repeat (first | with_reducible exact Ext.refl _ | with_reducible assumption | refine Ext.trans ?_ (by with_reducible assumption) | refine Ext.alloc ?_ _ _ | refine Ext.drew ?_ | refine Ext.drewN ?_ _)))); (case hi => decide); rintro W20 c20 b20 a20 _ m20; have hE20 : Ext w W20 := Ext.trans_mod (by (repeat (first | with_reducible exact Ext.refl _ | with_reducible assumption | refine Ext.trans ?_ (by with_reducible assumption) | refine Ext.alloc ?_ _ _ | refine Ext.drew ?_ | refine Ext.drewN ?_ _))) m20 (fun i hi => by have hi2 : i = _ := hi; rw [hi2]; exact hC20); clear ba20 aa20 m20) | ((with_reducible (refine Veil.out ?_; apply wl_loadWB)); (case hx => rfl); (case hB => exact b20.ext (by (repeat (first | with_reducible exact Ext.refl _ | with_reducible assumption | refine Ext.trans ?_ (by with_reducible assumption) | refine Ext.alloc ?_ _ _ | refine Ext.drew ?_ | refine Ext.drewN ?_ _)))); (case hW => exact a20); (case hi => decide)) | (go_at_call 261; refine (HN _).mono ?_; rintro e w1 ⟨rfl, he⟩) | ((with_reducible (refine Veil.out ?_; apply wl_loadC onel26)); (case hw => rfl); (case hx => rfl); (case hc => exact KL _ (by (repeat (first | with_reducible exact Ext.refl _ | with_reducible assumption | refine Ext.trans ?_ (by with_reducible assumption) | refine Ext.alloc ?_ _ _ | refine Ext.drew ?_ | refine Ext.drewN ?_ _))))) | (go_at_call 262; refine (HB _).mono ?_; rintro e w1 ⟨rfl, hww⟩; replace hww := hww.symm; subst hww))
      refine bodyPost_ret (v := .tuple #[.int .u64 (r : Nat), .bool true]) (by simp [results, Hvah.results193, go_sem]; try rfl) rfl ?_
      exact ⟨rfl, by (repeat (first | with_reducible exact Ext.refl _ | with_reducible assumption | refine Ext.trans ?_ (by with_reducible assumption) | refine Ext.alloc ?_ _ _ | refine Ext.drew ?_ | refine Ext.drewN ?_ _))⟩
    · obtain ⟨j, hj⟩ : ∃ j, nlim x = j + 1 := ⟨nlim x - 1, by omega⟩
      rw [hj] at HN h2 h3 hN4
      rw [Nat.add_sub_cancel] at h2 h3
      have hbl := bl_le64 (lim x j) (lim_lt' _ _)
      have hb0 := bl_pos (lim x j) h2 (lim_lt' _ _)
      have HB := fun W => mLen64 (lim x j) W (lim_lt _ _)
      have hc := fun (c : Nat → Value) (h : WAt c 0 x) => WAt.at_ h (j := j) (by omega)
      generalize Lib.bitLen (lim x j) = bl at *
      rw [h3]
      clear h2 h3 hj h1
      have k1 : IntKind.u8.wrap ((j : Int) + 1 - 1) = j := by rw [IntKind.wrap_u8]; omega
      have k2 : IntKind.u64.wrap (j : Int) = j := by rw [IntKind.wrap_u64]; omega
      have k3 : IntKind.u64.wrap ((64 : Int) * j) = 64 * j := by rw [IntKind.wrap_u64]; omega
      have k4 : IntKind.u64.wrap (bl : Int) = bl := by rw [IntKind.wrap_u64]; omega
      have k5 : IntKind.u64.wrap ((64 : Int) * j + bl) = 64 * j + bl := by rw [IntKind.wrap_u64]; omega
      have k6 : IntKind.u64.wrap ((64 : Int) * j + bl - 1) = ((64 * j + bl - 1 : Nat) : Int) := by rw [IntKind.wrap_u64]; omega
      have k7 : (j : Int) < 4 := by omega
      have k8 : IntKind.u8.wrap (j : Int) = j := by rw [IntKind.wrap_u8]; omega
      obtain ⟨y, hy⟩ : ∃ y, Hid (64 * j + bl - 1 = y) := ⟨_, rfl⟩
      have hy9 : y ≤ 256 := by have := hy.out; omega
      rw [hy.out] at k6
      rw [hy.out]
      have t9 : ∃ T9, Hid (y + 8 * E = T9) := ⟨_, rfl⟩
      obtain ⟨T9, hT9⟩ := t9
      rw [hT9.out]
      have hT8 : T9 ≤ 600 := by have := hT9.out; omega
      have kt : IntKind.u64.wrap ((y : Int) + 8 * E) = (T9 : Nat) := by have := hT9.out; rw [IntKind.wrap_u64]; omega
      obtain ⟨u, hu⟩ : ∃ u, Hid (max T9 1 = u) := ⟨_, rfl⟩
      have hu9 : u ≤ 600 := by have := hu.out; omega
      rw [hu.out]
      have ku : max ((T9 : Nat) : Int) 1 = (u : Nat) := by have := hu.out; omega
      obtain ⟨dd, hdd⟩ : ∃ dd, Hid (d * d = dd) := ⟨_, rfl⟩
      have hdd9 : dd ≤ 64 := by rw [← hdd.out]; exact Nat.mul_le_mul hd8 hd8
      have kd0 : (d : Int) * d = (dd : Nat) := by rw [← hdd.out]; exact (Int.natCast_mul d d).symm
      have kd : IntKind.u64.wrap ((d : Int) * d) = (dd : Nat) := by rw [kd0, IntKind.wrap_u64]; omega
      clear kd0
      rw [hdd.out]
      obtain ⟨p, hp⟩ : ∃ p, Hid (dd * u = p) := ⟨_, rfl⟩
      have hp9 : p ≤ 64 * 600 := by rw [← hp.out]; exact Nat.mul_le_mul hdd9 hu9
      have kp0 : (dd : Int) * u = (p : Nat) := by rw [← hp.out]; exact (Int.natCast_mul dd u).symm
      have kp : IntKind.u64.wrap ((dd : Int) * u) = (p : Nat) := by rw [kp0, IntKind.wrap_u64]; omega
      clear kp0
      rw [hp.out]
      obtain ⟨q, hq⟩ : ∃ q, Hid (p / 3 = q) := ⟨_, rfl⟩
      have kq : (p : Int) / 3 = (q : Nat) := by have := hq.out; omega
      have kq1 : Int.tdiv (p : Int) 3 = (q : Nat) := by rw [Int.tdiv_eq_ediv_of_nonneg (by omega), kq]
      have kq2 : IntKind.u64.wrap (q : Int) = q := by have := hq.out; rw [IntKind.wrap_u64]; omega
      rw [hq.out]
      obtain ⟨r, hr⟩ : ∃ r, Hid (max 200 q = r) := ⟨_, rfl⟩
      have kr : max (200 : Int) (q : Nat) = (r : Nat) := by have := hr.out; omega
      rw [hr.out]
      go_enter Hvah.func193, Hvah.ntmps193
      go_upto_region 14 with (first | (go_at_call 259; refine (HL _ (by (repeat (first | with_reducible exact Ext.refl _ | with_reducible assumption | refine Ext.trans ?_ (by with_reducible assumption) | refine Ext.alloc ?_ _ _ | refine Ext.drew ?_ | refine Ext.drewN ?_ _)))).mono ?_; rintro e w1 ⟨rfl, he⟩) | ((with_reducible (refine Veil.out ?_; apply wl_allocB (n := 32) z27)); (case hn => rfl); rintro B5 W5 e5 b5 g5) | (go_at_call 260; refine (HP _ (by (repeat (first | with_reducible exact Ext.refl _ | with_reducible assumption | refine Ext.trans ?_ (by with_reducible assumption) | refine Ext.alloc ?_ _ _ | refine Ext.drew ?_ | refine Ext.drewN ?_ _))) _ _ b5 (fun i hi => z27_at hi)).mono ?_; rintro e W7 ⟨rfl, c7, b7, r7, m7⟩; have hE7 : Ext w W7 := Ext.trans_mod (show Ext w _ by (repeat (first | with_reducible exact Ext.refl _ | with_reducible assumption | refine Ext.trans ?_ (by with_reducible assumption) | refine Ext.alloc ?_ _ _ | refine Ext.drew ?_ | refine Ext.drewN ?_ _))) m7 (fun x hx => by have hx2 : x = B5 := hx; rw [hx2]; exact Nat.le_trans (Ext.size (show Ext w _ by (repeat (first | with_reducible exact Ext.refl _ | with_reducible assumption | refine Ext.trans ?_ (by with_reducible assumption) | refine Ext.alloc ?_ _ _ | refine Ext.drew ?_ | refine Ext.drewN ?_ _)))) g5); clear m7 b5 e5) | ((with_reducible (refine Veil.out ?_; apply wl_loadRow rt27)); (case hx => rfl); (case hB => exact b7.ext (by (repeat (first | with_reducible exact Ext.refl _ | with_reducible assumption | refine Ext.trans ?_ (by with_reducible assumption) | refine Ext.alloc ?_ _ _ | refine Ext.drew ?_ | refine Ext.drewN ?_ _)))); (case hi => decide); rw [r7]) | (go_at_call 92; refine (HF _).mono ?_; rintro e w1 ⟨rfl, he⟩) | ((with_reducible (refine Veil.out ?_; apply wl_allocW)); rintro B20 Wa20 ca20 ea20 ba20 aa20 ga20; have hC20 : w.heap.size ≤ B20 := Nat.le_trans (Ext.size (show Ext w _ from by (repeat (first | with_reducible exact Ext.refl _ | with_reducible assumption | refine Ext.trans ?_ (by with_reducible assumption) | refine Ext.alloc ?_ _ _ | refine Ext.drew ?_ | refine Ext.drewN ?_ _)))) ga20) | ((with_reducible (refine Veil.out ?_; apply wl_storeWB)); (case hx => rfl); (case hy => first | rfl | exact wv0.symm); (case hB => exact ba20.ext (by (repeat (first | with_reducible exact Ext.refl _ | with_reducible assumption | refine Ext.trans ?_ (by with_reducible assumption) | refine Ext.alloc ?_ _ _ | refine Ext.drew ?_ | refine Ext.drewN ?_ _)))); (case hi => decide); rintro W20 c20 b20 a20 _ m20; have hE20 : Ext w W20 := Ext.trans_mod (by (repeat (first | with_reducible exact Ext.refl _ | with_reducible assumption | refine Ext.trans ?_ (by with_reducible assumption) | refine Ext.alloc ?_ _ _ | refine Ext.drew ?_ | refine Ext.drewN ?_ _))) m20 (fun i hi => by have hi2 : i = _ := hi; rw [hi2]; exact hC20); clear ba20 aa20 m20) | ((with_reducible (refine Veil.out ?_; apply wl_loadWB)); (case hx => rfl); (case hB => exact b20.ext (by (repeat (first | with_reducible exact Ext.refl _ | with_reducible assumption | refine Ext.trans ?_ (by with_reducible assumption) | refine Ext.alloc ?_ _ _ | refine Ext.drew ?_ | refine Ext.drewN ?_ _)))); (case hW => exact a20); (case hi => decide)) | (go_at_call 261; refine (HN _).mono ?_; rintro e w1 ⟨rfl, he⟩))
      have KL : ∀ W, Ext W20 W → W.cell? ⟨B20, j, none⟩ = some (.int .u64 (lim x j : Nat)) := fun W hW => by rw [(b20.ext hW).cell (by omega), hc _ a20]
      go_wp2_with (first | ((with_reducible (refine Veil.out ?_; apply wl_loadC onel26)); (case hw => rfl); (case hx => rfl); (case hc => exact KL _ (by (repeat (first | with_reducible exact Ext.refl _ | with_reducible assumption | refine Ext.trans ?_ (by with_reducible assumption) | refine Ext.alloc ?_ _ _ | refine Ext.drew ?_ | refine Ext.drewN ?_ _))))) | (go_at_call 262; refine (HB _).mono ?_; rintro e w1 ⟨rfl, hww⟩; replace hww := hww.symm; subst hww))
      refine bodyPost_ret (v := .tuple #[.int .u64 (r : Nat), .bool true]) (by simp [results, Hvah.results193, go_sem]; try rfl) rfl ?_
      exact ⟨rfl, by (repeat (first | with_reducible exact Ext.refl _ | with_reducible assumption | refine Ext.trans ?_ (by with_reducible assumption) | refine Ext.alloc ?_ _ _ | refine Ext.drew ?_ | refine Ext.drewN ?_ _))⟩
  · have i32 : ¬ (32 : Int) < e := by omega
    rw [show e - 32 = 0 by omega]
    rcases nbits_nlim x hxP with ⟨h1, h2⟩ | ⟨h1, h2, h3⟩
    · rw [h1] at HN
      rw [h2, show nbits 0 = 0 from rfl]
      clear h2
      have t9 : ∃ T9, Hid (0 - 1 + 8 * 0 = T9) := ⟨_, rfl⟩
      obtain ⟨T9, hT9⟩ := t9
      rw [hT9.out]
      have hT8 : T9 ≤ 600 := by have := hT9.out; omega
      obtain rfl : T9 = 0 := by have := hT9.out; omega
      clear hT9
      rw [show max 0 1 = 1 from rfl, Nat.mul_one]
      have hmx : max (0 : Int) 1 = 1 := rfl
      obtain ⟨dd, hdd⟩ : ∃ dd, Hid (d * d = dd) := ⟨_, rfl⟩
      have hdd9 : dd ≤ 64 := by rw [← hdd.out]; exact Nat.mul_le_mul hd8 hd8
      have kd0 : (d : Int) * d = (dd : Nat) := by rw [← hdd.out]; exact (Int.natCast_mul d d).symm
      have kd : IntKind.u64.wrap ((d : Int) * d) = (dd : Nat) := by rw [kd0, IntKind.wrap_u64]; omega
      clear kd0
      rw [hdd.out]
      have kdd : IntKind.u64.wrap (dd : Int) = dd := by rw [IntKind.wrap_u64]; omega
      obtain ⟨q, hq⟩ : ∃ q, Hid (dd / 3 = q) := ⟨_, rfl⟩
      have kq : (dd : Int) / 3 = (q : Nat) := by have := hq.out; omega
      have kq1 : Int.tdiv (dd : Int) 3 = (q : Nat) := by rw [Int.tdiv_eq_ediv_of_nonneg (by omega), kq]
      have kq2 : IntKind.u64.wrap (q : Int) = q := by have := hq.out; rw [IntKind.wrap_u64]; omega
      rw [hq.out]
      obtain ⟨r, hr⟩ : ∃ r, Hid (max 200 q = r) := ⟨_, rfl⟩
      have kr : max (200 : Int) (q : Nat) = (r : Nat) := by have := hr.out; omega
      rw [hr.out]
      go_enter Hvah.func193, Hvah.ntmps193
      go_wp2_with (first | (go_at_call 259; refine (HL _ (by (repeat (first | with_reducible exact Ext.refl _ | with_reducible assumption | refine Ext.trans ?_ (by with_reducible assumption) | refine Ext.alloc ?_ _ _ | refine Ext.drew ?_ | refine Ext.drewN ?_ _)))).mono ?_; rintro e w1 ⟨rfl, he⟩) | ((with_reducible (refine Veil.out ?_; apply wl_allocB (n := 32) z27)); (case hn => rfl); rintro B5 W5 e5 b5 g5) | (go_at_call 260; refine (HP _ (by (repeat (first | with_reducible exact Ext.refl _ | with_reducible assumption | refine Ext.trans ?_ (by with_reducible assumption) | refine Ext.alloc ?_ _ _ | refine Ext.drew ?_ | refine Ext.drewN ?_ _))) _ _ b5 (fun i hi => z27_at hi)).mono ?_; rintro e W7 ⟨rfl, c7, b7, r7, m7⟩; have hE7 : Ext w W7 := Ext.trans_mod (show Ext w _ by (repeat (first | with_reducible exact Ext.refl _ | with_reducible assumption | refine Ext.trans ?_ (by with_reducible assumption) | refine Ext.alloc ?_ _ _ | refine Ext.drew ?_ | refine Ext.drewN ?_ _))) m7 (fun x hx => by have hx2 : x = B5 := hx; rw [hx2]; exact Nat.le_trans (Ext.size (show Ext w _ by (repeat (first | with_reducible exact Ext.refl _ | with_reducible assumption | refine Ext.trans ?_ (by with_reducible assumption) | refine Ext.alloc ?_ _ _ | refine Ext.drew ?_ | refine Ext.drewN ?_ _)))) g5); clear m7 b5 e5) | ((with_reducible (refine Veil.out ?_; apply wl_loadRow rt27)); (case hx => rfl); (case hB => exact b7.ext (by (repeat (first | with_reducible exact Ext.refl _ | with_reducible assumption | refine Ext.trans ?_ (by with_reducible assumption) | refine Ext.alloc ?_ _ _ | refine Ext.drew ?_ | refine Ext.drewN ?_ _)))); (case hi => decide); rw [r7]) | (go_at_call 92; refine (HF _).mono ?_; rintro e w1 ⟨rfl, he⟩) | ((with_reducible (refine Veil.out ?_; apply wl_allocW)); rintro B20 Wa20 ca20 ea20 ba20 aa20 ga20; have hC20 : w.heap.size ≤ B20 := Nat.le_trans (Ext.size (show Ext w _ from by (repeat (first | with_reducible exact Ext.refl _ | with_reducible assumption | refine Ext.trans ?_ (by with_reducible assumption) | refine Ext.alloc ?_ _ _ | refine Ext.drew ?_ | refine Ext.drewN ?_ _)))) ga20) | ((with_reducible (refine Veil.out ?_; apply wl_storeWB)); (case hx => rfl); (case hy => first | rfl | exact wv0.symm); (case hB => exact ba20.ext (by (repeat (first | with_reducible exact Ext.refl _ | with_reducible assumption | refine Ext.trans ?_ (by with_reducible assumption) | refine Ext.alloc ?_ _ _ | refine Ext.drew ?_ | refine Ext.drewN ?_ _)))); (case hi => decide); rintro W20 c20 b20 a20 _ m20; have hE20 : Ext w W20 := Ext.trans_mod (by (repeat (first | with_reducible exact Ext.refl _ | with_reducible assumption | refine Ext.trans ?_ (by with_reducible assumption) | refine Ext.alloc ?_ _ _ | refine Ext.drew ?_ | refine Ext.drewN ?_ _))) m20 (fun i hi => by have hi2 : i = _ := hi; rw [hi2]; exact hC20); clear ba20 aa20 m20) | ((with_reducible (refine Veil.out ?_; apply wl_loadWB)); (case hx => rfl); (case hB => exact b20.ext (by (repeat (first | with_reducible exact Ext.refl _ | with_reducible assumption | refine Ext.trans ?_ (by with_reducible assumption) | refine Ext.alloc ?_ _ _ | refine Ext.drew ?_ | refine Ext.drewN ?_ _)))); (case hW => exact a20); (case hi => decide)) | (go_at_call 261; refine (HN _).mono ?_; rintro e w1 ⟨rfl, he⟩) | ((with_reducible (refine Veil.out ?_; apply wl_loadC onel26)); (case hw => rfl); (case hx => rfl); (case hc => exact KL _ (by (repeat (first | with_reducible exact Ext.refl _ | with_reducible assumption | refine Ext.trans ?_ (by with_reducible assumption) | refine Ext.alloc ?_ _ _ | refine Ext.drew ?_ | refine Ext.drewN ?_ _))))) | (go_at_call 262; refine (HB _).mono ?_; rintro e w1 ⟨rfl, hww⟩; replace hww := hww.symm; subst hww))
      refine bodyPost_ret (v := .tuple #[.int .u64 (r : Nat), .bool true]) (by simp [results, Hvah.results193, go_sem]; try rfl) rfl ?_
      exact ⟨rfl, by (repeat (first | with_reducible exact Ext.refl _ | with_reducible assumption | refine Ext.trans ?_ (by with_reducible assumption) | refine Ext.alloc ?_ _ _ | refine Ext.drew ?_ | refine Ext.drewN ?_ _))⟩
    · obtain ⟨j, hj⟩ : ∃ j, nlim x = j + 1 := ⟨nlim x - 1, by omega⟩
      rw [hj] at HN h2 h3 hN4
      rw [Nat.add_sub_cancel] at h2 h3
      have hbl := bl_le64 (lim x j) (lim_lt' _ _)
      have hb0 := bl_pos (lim x j) h2 (lim_lt' _ _)
      have HB := fun W => mLen64 (lim x j) W (lim_lt _ _)
      have hc := fun (c : Nat → Value) (h : WAt c 0 x) => WAt.at_ h (j := j) (by omega)
      generalize Lib.bitLen (lim x j) = bl at *
      rw [h3]
      clear h2 h3 hj h1
      have k1 : IntKind.u8.wrap ((j : Int) + 1 - 1) = j := by rw [IntKind.wrap_u8]; omega
      have k2 : IntKind.u64.wrap (j : Int) = j := by rw [IntKind.wrap_u64]; omega
      have k3 : IntKind.u64.wrap ((64 : Int) * j) = 64 * j := by rw [IntKind.wrap_u64]; omega
      have k4 : IntKind.u64.wrap (bl : Int) = bl := by rw [IntKind.wrap_u64]; omega
      have k5 : IntKind.u64.wrap ((64 : Int) * j + bl) = 64 * j + bl := by rw [IntKind.wrap_u64]; omega
      have k6 : IntKind.u64.wrap ((64 : Int) * j + bl - 1) = ((64 * j + bl - 1 : Nat) : Int) := by rw [IntKind.wrap_u64]; omega
      have k7 : (j : Int) < 4 := by omega
      have k8 : IntKind.u8.wrap (j : Int) = j := by rw [IntKind.wrap_u8]; omega
      obtain ⟨y, hy⟩ : ∃ y, Hid (64 * j + bl - 1 = y) := ⟨_, rfl⟩
      have hy9 : y ≤ 256 := by have := hy.out; omega
      rw [hy.out] at k6
      rw [hy.out]
      have t9 : ∃ T9, Hid (y + 8 * 0 = T9) := ⟨_, rfl⟩
      obtain ⟨T9, hT9⟩ := t9
      rw [hT9.out]
      have hT8 : T9 ≤ 600 := by have := hT9.out; omega
      obtain rfl : T9 = y := by have := hT9.out; omega
      obtain ⟨u, hu⟩ : ∃ u, Hid (max T9 1 = u) := ⟨_, rfl⟩
      have hu9 : u ≤ 600 := by have := hu.out; omega
      rw [hu.out]
      have ku : max ((T9 : Nat) : Int) 1 = (u : Nat) := by have := hu.out; omega
      obtain ⟨dd, hdd⟩ : ∃ dd, Hid (d * d = dd) := ⟨_, rfl⟩
      have hdd9 : dd ≤ 64 := by rw [← hdd.out]; exact Nat.mul_le_mul hd8 hd8
      have kd0 : (d : Int) * d = (dd : Nat) := by rw [← hdd.out]; exact (Int.natCast_mul d d).symm
      have kd : IntKind.u64.wrap ((d : Int) * d) = (dd : Nat) := by rw [kd0, IntKind.wrap_u64]; omega
      clear kd0
      rw [hdd.out]
      obtain ⟨p, hp⟩ : ∃ p, Hid (dd * u = p) := ⟨_, rfl⟩
      have hp9 : p ≤ 64 * 600 := by rw [← hp.out]; exact Nat.mul_le_mul hdd9 hu9
      have kp0 : (dd : Int) * u = (p : Nat) := by rw [← hp.out]; exact (Int.natCast_mul dd u).symm
      have kp : IntKind.u64.wrap ((dd : Int) * u) = (p : Nat) := by rw [kp0, IntKind.wrap_u64]; omega
      clear kp0
      rw [hp.out]
      obtain ⟨q, hq⟩ : ∃ q, Hid (p / 3 = q) := ⟨_, rfl⟩
      have kq : (p : Int) / 3 = (q : Nat) := by have := hq.out; omega
      have kq1 : Int.tdiv (p : Int) 3 = (q : Nat) := by rw [Int.tdiv_eq_ediv_of_nonneg (by omega), kq]
      have kq2 : IntKind.u64.wrap (q : Int) = q := by have := hq.out; rw [IntKind.wrap_u64]; omega
      rw [hq.out]
      obtain ⟨r, hr⟩ : ∃ r, Hid (max 200 q = r) := ⟨_, rfl⟩
      have kr : max (200 : Int) (q : Nat) = (r : Nat) := by have := hr.out; omega
      rw [hr.out]
      go_enter Hvah.func193, Hvah.ntmps193
      go_upto_region 14 with (first | (go_at_call 259; refine (HL _ (by (repeat (first | with_reducible exact Ext.refl _ | with_reducible assumption | refine Ext.trans ?_ (by with_reducible assumption) | refine Ext.alloc ?_ _ _ | refine Ext.drew ?_ | refine Ext.drewN ?_ _)))).mono ?_; rintro e w1 ⟨rfl, he⟩) | ((with_reducible (refine Veil.out ?_; apply wl_allocB (n := 32) z27)); (case hn => rfl); rintro B5 W5 e5 b5 g5) | (go_at_call 260; refine (HP _ (by (repeat (first | with_reducible exact Ext.refl _ | with_reducible assumption | refine Ext.trans ?_ (by with_reducible assumption) | refine Ext.alloc ?_ _ _ | refine Ext.drew ?_ | refine Ext.drewN ?_ _))) _ _ b5 (fun i hi => z27_at hi)).mono ?_; rintro e W7 ⟨rfl, c7, b7, r7, m7⟩; have hE7 : Ext w W7 := Ext.trans_mod (show Ext w _ by (repeat (first | with_reducible exact Ext.refl _ | with_reducible assumption | refine Ext.trans ?_ (by with_reducible assumption) | refine Ext.alloc ?_ _ _ | refine Ext.drew ?_ | refine Ext.drewN ?_ _))) m7 (fun x hx => by have hx2 : x = B5 := hx; rw [hx2]; exact Nat.le_trans (Ext.size (show Ext w _ by (repeat (first | with_reducible exact Ext.refl _ | with_reducible assumption | refine Ext.trans ?_ (by with_reducible assumption) | refine Ext.alloc ?_ _ _ | refine Ext.drew ?_ | refine Ext.drewN ?_ _)))) g5); clear m7 b5 e5) | ((with_reducible (refine Veil.out ?_; apply wl_loadRow rt27)); (case hx => rfl); (case hB => exact b7.ext (by (repeat (first | with_reducible exact Ext.refl _ | with_reducible assumption | refine Ext.trans ?_ (by with_reducible assumption) | refine Ext.alloc ?_ _ _ | refine Ext.drew ?_ | refine Ext.drewN ?_ _)))); (case hi => decide); rw [r7]) | (go_at_call 92; refine (HF _).mono ?_; rintro e w1 ⟨rfl, he⟩) | ((with_reducible (refine Veil.out ?_; apply wl_allocW)); rintro B20 Wa20 ca20 ea20 ba20 aa20 ga20; have hC20 : w.heap.size ≤ B20 := Nat.le_trans (Ext.size (show Ext w _ from by (repeat (first | with_reducible exact Ext.refl _ | with_reducible assumption | refine Ext.trans ?_ (by with_reducible assumption) | refine Ext.alloc ?_ _ _ | refine Ext.drew ?_ | refine Ext.drewN ?_ _)))) ga20) | ((with_reducible (refine Veil.out ?_; apply wl_storeWB)); (case hx => rfl); (case hy => first | rfl | exact wv0.symm); (case hB => exact ba20.ext (by (repeat (first | with_reducible exact Ext.refl _ | with_reducible assumption | refine Ext.trans ?_ (by with_reducible assumption) | refine Ext.alloc ?_ _ _ | refine Ext.drew ?_ | refine Ext.drewN ?_ _)))); (case hi => decide); rintro W20 c20 b20 a20 _ m20; have hE20 : Ext w W20 := Ext.trans_mod (by (repeat (first | with_reducible exact Ext.refl _ | with_reducible assumption | refine Ext.trans ?_ (by with_reducible assumption) | refine Ext.alloc ?_ _ _ | refine Ext.drew ?_ | refine Ext.drewN ?_ _))) m20 (fun i hi => by have hi2 : i = _ := hi; rw [hi2]; exact hC20); clear ba20 aa20 m20) | ((with_reducible (refine Veil.out ?_; apply wl_loadWB)); (case hx => rfl); (case hB => exact b20.ext (by (repeat (first | with_reducible exact Ext.refl _ | with_reducible assumption | refine Ext.trans ?_ (by with_reducible assumption) | refine Ext.alloc ?_ _ _ | refine Ext.drew ?_ | refine Ext.drewN ?_ _)))); (case hW => exact a20); (case hi => decide)) | (go_at_call 261; refine (HN _).mono ?_; rintro e w1 ⟨rfl, he⟩))
      have KL : ∀ W, Ext W20 W → W.cell? ⟨B20, j, none⟩ = some (.int .u64 (lim x j : Nat)) := fun W hW => by rw [(b20.ext hW).cell (by omega), hc _ a20]
      go_wp2_with (first | ((with_reducible (refine Veil.out ?_; apply wl_loadC onel26)); (case hw => rfl); (case hx => rfl); (case hc => exact KL _ (by (repeat (first | with_reducible exact Ext.refl _ | with_reducible assumption | refine Ext.trans ?_ (by with_reducible assumption) | refine Ext.alloc ?_ _ _ | refine Ext.drew ?_ | refine Ext.drewN ?_ _))))) | (go_at_call 262; refine (HB _).mono ?_; rintro e w1 ⟨rfl, hww⟩; replace hww := hww.symm; subst hww))
      refine bodyPost_ret (v := .tuple #[.int .u64 (r : Nat), .bool true]) (by simp [results, Hvah.results193, go_sem]; try rfl) rfl ?_
      exact ⟨rfl, by (repeat (first | with_reducible exact Ext.refl _ | with_reducible assumption | refine Ext.trans ?_ (by with_reducible assumption) | refine Ext.alloc ?_ _ _ | refine Ext.drew ?_ | refine Ext.drewN ?_ _))⟩
end
end Go.Proofs.YgvahwGreat
