import Derived.Test.YgvahwGreatDt
namespace Go.Proofs.YgvahwGreat
open Go.RowKit
set_option linter.unusedSimpArgs false

theorem b406_1 : ∀ w, (Instr.build 414 ([(0, .int .u64 1)] : List (Nat × Value)).toArray).run Hvah.prog w = .ok (.agg (ucells [1, 0, 0, 0, 0, 0, 0, 0, 0, 0, 0, 0, 0, 0, 0, 0]).toArray) w := fun w => by kernel_rfl
theorem b406_0 : ∀ w, (Instr.build 414 ([] : List (Nat × Value)).toArray).run Hvah.prog w = .ok (.agg (ucells [0, 0, 0, 0, 0, 0, 0, 0, 0, 0, 0, 0, 0, 0, 0, 0]).toArray) w := fun w => by kernel_rfl
/-- Not begun: nothing yet. -/
def Stp (st : Bool) (n : Nat) : Prop := st = false → n = 0
theorem ucells_size (l : List Nat) : (ucells l).toArray.size = l.length := by simp [ucells]
theorem ones_ucells (l : List Nat) : Ones (ucells l).toArray := fun v hv => by
  simp [ucells] at hv
  obtain ⟨d, _, rfl⟩ := hv
  rfl
/-- A block behind the store of a whole row of limbs. -/
theorem ub_lay {w : World} {g n : Nat} {t : TypeId} {c : Nat → Value} {l : List Nat} (h : Blk w g n t (layv c 0 (ucells l).toArray)) (hl : l.length = n) : UB w g t l := h.toUB hl (fun i hi => by
  unfold layv
  rw [if_pos ⟨Nat.zero_le _, by rw [ucells_size]; omega⟩]
  simp [ucells, List.getD_eq_getElem?_getD, Array.getD_eq_getD_getElem?, show i < l.length by omega])
theorem blk_lay {w : World} {g n : Nat} {t : TypeId} {c : Nat → Value} {r : Array Value} (h : Blk w g n t (layv c 0 r)) (hr : r.size = n) : Blk w g n t (cf r) := h.same (fun i hi => by
  unfold layv
  rw [if_pos ⟨Nat.zero_le _, by omega⟩]
  rfl)
theorem and1 (x : Nat) (h : x < 18446744073709551616) : bits .and .u64 (x : Int) 1 = ((x % 2 : Nat) : Int) := by
  rw [show (1 : Int) = ((1 : Nat) : Int) from rfl, u64_and_nat x 1 h (by decide), Nat.and_one_is_mod]
theorem getD_limX (l : List Nat) (d : L64 l) : ∀ i, i < l.length → l.getD i 0 = lim (lv l) i := by
  intro i hi
  have e := lv_take_drop l i (by omega)
  have e2 : l.drop i = l[i] :: l.drop (i + 1) := by simp
  rw [e2] at e
  simp only [lv] at e
  have h1 : lv (l.take i) < Bn i := by
    have := lv_lt (l.take i) (d.take _)
    rwa [List.length_take, show min i l.length = i by omega] at this
  unfold lim
  rw [show (18446744073709551616 : Nat) ^ i = Bn i from rfl]
  have h2 : lv l / Bn i = l[i] + 18446744073709551616 * lv (l.drop (i + 1)) := by
    rw [e, Nat.add_comm, Nat.mul_add_div (Bn_pos i), Nat.div_eq_of_lt h1]; omega
  have h3 : l[i] < 18446744073709551616 := d _ (List.getElem_mem _)
  rw [h2, Nat.add_mul_mod_self_left, Nat.mod_eq_of_lt h3]
  simp [List.getD_eq_getElem?_getD, hi]
set_option exponentiation.threshold 1000 in
set_option maxRecDepth 100000 in
set_option maxHeartbeats 6400000 in
theorem uModExp {w : World} {A E M : Nat} {ta te tm : TypeId} {b e m : List Nat} (hb : UB w A ta b) (he : UB w E te e) (hm : UB w M tm m) (lb : b.length = 8) (le : e.length = 8) (lm : m.length = 8) (db : L64 b) (de : L64 e) (dm : L64 m) : Calls Hvah.prog 271 #[.pointer (some ⟨A, 0, none⟩), .pointer (some ⟨E, 0, none⟩), .pointer (some ⟨M, 0, none⟩)] w fun x w' => ∃ rl, x = .returned (.agg (ucells rl).toArray) ∧ rl.length = 8 ∧ L64 rl ∧ lv rl = dmod (lv b ^ lv e) (lv m) ∧ Ext w w' := by
  go_enter Hvah.func271, Hvah.ntmps271
  go_upto_region 2 with (first | ((with_reducible (refine Veil.out ?_; apply wl_allocF z337d)); rintro R W1 e1 bR gR) | ((with_reducible (refine Veil.out ?_; apply wl_buildV (hb := b406_1))); (case he => first | rfl | simp [Act.eval])) | ((with_reducible (refine Veil.out ?_; apply wl_allocF z406)); rintro O W2 e2 bO gO) | ((with_reducible (refine Veil.out ?_; apply wl_storeRow rt406 (r := (ucells [1, 0, 0, 0, 0, 0, 0, 0, 0, 0, 0, 0, 0, 0, 0, 0]).toArray))); (case hx => rfl); (case hy => rfl); (case hr => exact rfl); (case h1 => exact ones_ucells _); (case hB => exact bO); (case hi => decide); rintro W3 b3 m3))
  have u3 : UB W3 O 414 [1, 0, 0, 0, 0, 0, 0, 0, 0, 0, 0, 0, 0, 0, 0, 0] := ub_lay b3 rfl
  have gOw : w.heap.size ≤ O := Nat.le_trans e1.size gO
  have hE3 : Ext w W3 := Ext.trans_mod (e1.trans e2) m3 (fun q hq => by have hq2 : q = O := hq; rw [hq2]; exact gOw)
  have hOR : ¬ O = R := fun q => by have := bR.lt; omega
  have bR3 := (bR.ext e2).mod m3 (fun q => hOR q.symm)
  clear bR e1 e2 m3 b3 bO
  have H4 := uRem1024 O M 414 tm _ m W3 u3 (hm.ext hE3) rfl lm (fun d hd => by simp at hd; rcases hd with rfl | rfl <;> decide) dm
  go_upto_region 3 with (first | (go_at_call 368; refine (H4).mono ?_; rintro e W4 ⟨rl4, pv4, rfl, ll4, ld4, ps4, po4, lr4, e4⟩) | ((with_reducible (refine Veil.out ?_; apply wl_allocF z337d)); rintro T8 W5 e5 bT8 gT8) | ((with_reducible (refine Veil.out ?_; apply wl_allocF z408)); rintro P W6 e6 bP gP) | ((with_reducible (refine Veil.out ?_; apply wl_storeRow rt337d (r := (ucells rl4).toArray))); (case hx => rfl); (case hy => rfl); (case hr => exact (ucells_size _).trans ll4); (case h1 => exact ones_ucells _); (case hB => exact bT8.ext (by (repeat (first | with_reducible exact Ext.refl _ | with_reducible assumption | refine Ext.trans ?_ (by with_reducible assumption) | refine Ext.alloc ?_ _ _ | refine Ext.drew ?_ | refine Ext.drewN ?_ _)))); (case hi => decide); rintro W7 b7 m7) | ((with_reducible (refine Veil.out ?_; apply wl_storeRow rt408 (r := pv4))); (case hx => rfl); (case hy => rfl); (case hr => exact ps4); (case h1 => exact po4); (case hB => exact (bP.ext (by (repeat (first | with_reducible exact Ext.refl _ | with_reducible assumption | refine Ext.trans ?_ (by with_reducible assumption) | refine Ext.alloc ?_ _ _ | refine Ext.drew ?_ | refine Ext.drewN ?_ _)))).mod m7 (fun q => (fun z : T8 = P => by have := bT8.lt; omega) q.symm)); (case hi => decide); rintro W8 b8 m8))
  have gTw : w.heap.size ≤ T8 := Nat.le_trans (hE3.trans e4).size gT8
  have gPw : w.heap.size ≤ P := Nat.le_trans ((hE3.trans e4).trans e5).size gP
  have hTP : ¬ T8 = P := fun q => by have := bT8.lt; omega
  have hRT : ¬ R = T8 := fun q => by have := (bR3.ext e4).lt; omega
  have hRP : ¬ R = P := fun q => by have := (bR3.ext (e4.trans e5)).lt; omega
  have uT8 : UB W8 T8 345 rl4 := (ub_lay b7 ll4).mod m8 hTP
  have hE8 : Ext w W8 := Ext.trans_mod (Ext.trans_mod (((hE3.trans e4).trans e5).trans e6) m7 (fun q hq => by have hq2 : q = T8 := hq; rw [hq2]; exact gTw)) m8 (fun q hq => by have hq2 : q = P := hq; rw [hq2]; exact gPw)
  have bR8 := ((bR3.ext ((e4.trans e5).trans e6)).mod m7 hRT).mod m8 hRP
  clear bR3 e4 e5 e6 b7 m7 b8 m8 H4 hE3 u3 bT8 bP
  go_upto_region 4 with (first | ((with_reducible (refine Veil.out ?_; apply wl_buildV (hb := b406_0))); (case he => first | rfl | simp [Act.eval])) | ((with_reducible (refine Veil.out ?_; apply wl_allocF z406)); rintro H W9 e9 bH gH) | ((with_reducible (refine Veil.out ?_; apply wl_storeRow rt406 (r := (ucells [0, 0, 0, 0, 0, 0, 0, 0, 0, 0, 0, 0, 0, 0, 0, 0]).toArray))); (case hx => rfl); (case hy => rfl); (case hr => exact rfl); (case h1 => exact ones_ucells _); (case hB => exact bH); (case hi => decide); rintro W10 b10 m10))
  have gHw : w.heap.size ≤ H := Nat.le_trans hE8.size gH
  have hE10 : Ext w W10 := Ext.trans_mod (hE8.trans e9) m10 (fun q hq => by have hq2 : q = H := hq; rw [hq2]; exact gHw)
  have hTH : ¬ T8 = H := fun q => by have := uT8.lt; omega
  have hRH : ¬ R = H := fun q => by have := bR8.lt; omega
  have uT10 := (uT8.ext e9).mod m10 hTH
  have bR10 := (bR8.ext e9).mod m10 hRH
  clear uT8 bR8 e9 m10 hE8 bH
  refine w_ext ?_
  rintro W0 hW0
  refine wp_region_held_drew (S := fun w' => (0 ≤ (w' : World).heap.size)) (by kernel_rfl) (Nat.zero_le _) (fun hHeld => ?_)
  have HH : Hid ((0 ≤ (_ : World).heap.size)) := hHeld
  clear hHeld
  refine wpAnyH_take (i := 0) (v := ?_) rfl (by kernel_rfl) (by kernel_rfl) (by kernel_rfl) (fun _ _ _ h => h) (Or.inl ⟨by rfl, ?_⟩) HH.out ?_
  rotate_left
  · intro w hSw; go_simp; try with_reducible rfl
  change wpAnyH _ _ _ _ _ _ _ (Act.put _ (some 24) _) _
  simp only [Act.put, List.setIfInBounds_toArray, List.set_cons_zero, List.set_cons_succ]
  refine wpAnyH_take (i := 1) (v := ?_) rfl (by kernel_rfl) (by kernel_rfl) (by kernel_rfl) (fun _ _ _ h => h) (Or.inl ⟨by rfl, ?_⟩) HH.out ?_
  rotate_left
  · intro w hSw; go_simp; try with_reducible rfl
  change wpAnyH _ _ _ _ _ _ _ (Act.put _ (some 25) _) _
  simp only [Act.put, List.setIfInBounds_toArray, List.set_cons_zero, List.set_cons_succ]
  refine wpAnyH_take (i := 2) (v := ?_) rfl (by kernel_rfl) (by kernel_rfl) (by kernel_rfl) (fun _ _ _ h => h) (Or.inl ⟨by rfl, ?_⟩) HH.out ?_
  rotate_left
  · intro w hSw; go_simp; try with_reducible rfl
  change wpAnyH _ _ _ _ _ _ _ (Act.put _ (some 26) _) _
  simp only [Act.put, List.setIfInBounds_toArray, List.set_cons_zero, List.set_cons_succ]
  refine wpAnyH_take (i := 3) (v := ?_) rfl (by kernel_rfl) (by kernel_rfl) (by kernel_rfl) (fun _ _ _ h => h) (Or.inl ⟨by rfl, ?_⟩) HH.out ?_
  rotate_left
  · intro w hSw; go_simp; try with_reducible rfl
  change wpAnyH _ _ _ _ _ _ _ (Act.put _ (some 27) _) _
  simp only [Act.put, List.setIfInBounds_toArray, List.set_cons_zero, List.set_cons_succ]
  refine wpAnyH_ready (rs := [4]) (by kernel_rfl) (by simp) ?_
  refine AllReadyH.cons rfl (fun K hK => ?_) AllReadyH.nil
  refine step_any rfl (op_copyR (e := 24) (k := 8) (sz := 1) rfl (by kernel_rfl) (by kernel_rfl) rfl rfl (b10.ext (by (repeat (first | with_reducible exact Ext.refl _ | with_reducible assumption | refine Ext.trans ?_ (by with_reducible assumption) | refine Ext.alloc ?_ _ _ | refine Ext.drew ?_ | refine Ext.drewN ?_ _)))) (((hb.ext hE10).toB lb).ext (by (repeat (first | with_reducible exact Ext.refl _ | with_reducible assumption | refine Ext.trans ?_ (by with_reducible assumption) | refine Ext.alloc ?_ _ _ | refine Ext.drew ?_ | refine Ext.drewN ?_ _)))) rfl (by decide) (by decide) (fun j hj => rfl) ?_)
  rintro W11 b11 m11
  refine hK.out _ _ (Nat.zero_le _) (fun hHeld => ?_)
  clear hK K HH
  have HH : Hid ((0 ≤ (_ : World).heap.size)) := hHeld
  clear hHeld
  change wpAnyH _ _ _ _ _ _ _ (Act.put _ (some 28) _) _
  simp only [Act.put, List.setIfInBounds_toArray, List.set_cons_zero, List.set_cons_succ]
  refine wpAnyH_done (by kernel_rfl) ?_ _
  have uH11 : UB W11 H 414 (b ++ [0, 0, 0, 0, 0, 0, 0, 0]) := b11.toUB (by simp [lb]) (fun i hi => by
    unfold layv
    rw [rowOf_size]
    by_cases h8 : i < 8
    · rw [if_pos ⟨Nat.zero_le _, by omega⟩, show (rowOf (lf b) 0 (8 * 1)).getD (i - 0) undef = cf (rowOf (lf b) 0 (8 * 1)) i from rfl, cf_rowOf _ _ _ (by omega), Nat.zero_add]
      simp [lf, List.getD_eq_getElem?_getD, List.getElem?_append_left, show i < b.length by omega]
    · rw [if_neg (by omega), if_pos ⟨Nat.zero_le _, by simp [ucells]; omega⟩]
      have h9 : (b ++ [0, 0, 0, 0, 0, 0, 0, 0]).getD i 0 = 0 := by
        rw [List.getD_eq_getElem?_getD, List.getElem?_append_right (by omega), lb]
        rcases (show i = 8 ∨ i = 9 ∨ i = 10 ∨ i = 11 ∨ i = 12 ∨ i = 13 ∨ i = 14 ∨ i = 15 by omega) with rfl | rfl | rfl | rfl | rfl | rfl | rfl | rfl <;> rfl
      rw [h9]
      rcases (show i = 8 ∨ i = 9 ∨ i = 10 ∨ i = 11 ∨ i = 12 ∨ i = 13 ∨ i = 14 ∨ i = 15 by omega) with rfl | rfl | rfl | rfl | rfl | rfl | rfl | rfl <;> rfl)
  have hW10 : Ext W10 W0 := by (repeat (first | with_reducible exact Ext.refl _ | with_reducible assumption | refine Ext.trans ?_ (by with_reducible assumption) | refine Ext.alloc ?_ _ _ | refine Ext.drew ?_ | refine Ext.drewN ?_ _))
  have hE11 : Ext w W11 := Ext.trans_mod (hE10.trans hW10.drew) m11 (fun q hq => by have hq2 : q = H := hq; rw [hq2]; exact gHw)
  have uT11 := (uT10.ext hW10.drew).mod m11 hTH
  have bR11 := (bR10.ext hW10.drew).mod m11 hRH
  clear b10 b11 m11 uT10 bR10 hW10 hW0 hE10 HH
  have H12 := uRem1024 H M 414 tm _ m W11 uH11 (hm.ext hE11) (by simp [lb]) lm (db.append (fun d hd => by simp at hd; rw [hd]; decide)) dm
  have hbv : lv (b ++ [0, 0, 0, 0, 0, 0, 0, 0]) = lv b := by rw [lv_append]; simp [lv]
  rw [hbv] at H12
  clear hbv
  go_upto_region 6 with (first | (go_at_call 368; refine (H12).mono ?_; rintro e W12 ⟨rl12, pv12, rfl, ll12, ld12, ps12, po12, lr12, e12⟩) | ((with_reducible (refine Veil.out ?_; apply wl_allocF z337d)); rintro Bs W13 e13 bBs gBs) | ((with_reducible (refine Veil.out ?_; apply wl_allocF z408)); rintro P2 W14 e14 bP2 gP2) | ((with_reducible (refine Veil.out ?_; apply wl_storeRow rt337d (r := (ucells rl12).toArray))); (case hx => rfl); (case hy => rfl); (case hr => exact (ucells_size _).trans ll12); (case h1 => exact ones_ucells _); (case hB => exact bBs.ext (by (repeat (first | with_reducible exact Ext.refl _ | with_reducible assumption | refine Ext.trans ?_ (by with_reducible assumption) | refine Ext.alloc ?_ _ _ | refine Ext.drew ?_ | refine Ext.drewN ?_ _)))); (case hi => decide); rintro W15 b15 m15) | ((with_reducible (refine Veil.out ?_; apply wl_storeRow rt408 (r := pv12))); (case hx => rfl); (case hy => rfl); (case hr => exact ps12); (case h1 => exact po12); (case hB => exact (bP2.ext (by (repeat (first | with_reducible exact Ext.refl _ | with_reducible assumption | refine Ext.trans ?_ (by with_reducible assumption) | refine Ext.alloc ?_ _ _ | refine Ext.drew ?_ | refine Ext.drewN ?_ _)))).mod m15 (fun q => (fun z : Bs = P2 => by have := bBs.lt; omega) q.symm)); (case hi => decide); rintro W16 b16 m16))
  have gBw : w.heap.size ≤ Bs := Nat.le_trans (hE11.trans e12).size gBs
  have gQw : w.heap.size ≤ P2 := Nat.le_trans ((hE11.trans e12).trans e13).size gP2
  have hBQ : ¬ Bs = P2 := fun q => by have := bBs.lt; omega
  have hTB : ¬ T8 = Bs := fun q => by have := (uT11.ext e12).lt; omega
  have hTQ : ¬ T8 = P2 := fun q => by have := (uT11.ext (e12.trans e13)).lt; omega
  have hRB : ¬ R = Bs := fun q => by have := (bR11.ext e12).lt; omega
  have hRQ : ¬ R = P2 := fun q => by have := (bR11.ext (e12.trans e13)).lt; omega
  have uB16 : UB W16 Bs 345 rl12 := (ub_lay b15 ll12).mod m16 hBQ
  have uT16 := ((uT11.ext ((e12.trans e13).trans e14)).mod m15 hTB).mod m16 hTQ
  have bR16 := ((bR11.ext ((e12.trans e13).trans e14)).mod m15 hRB).mod m16 hRQ
  have hE16 : Ext w W16 := Ext.trans_mod (Ext.trans_mod (((hE11.trans e12).trans e13).trans e14) m15 (fun q hq => by have hq2 : q = Bs := hq; rw [hq2]; exact gBw)) m16 (fun q hq => by have hq2 : q = P2 := hq; rw [hq2]; exact gQw)
  clear uT11 bR11 e12 e13 e14 b15 m15 b16 m16 H12 hE11 uH11 bBs bP2
  have lr4' : lv rl4 = dmod 1 (lv m) := by rw [lr4]; simp [lv]
  clear lr4
  obtain ⟨bv, hbv⟩ : ∃ v, Hid (lv b = v) := ⟨_, rfl⟩
  obtain ⟨ev, hev⟩ : ∃ v, Hid (lv e = v) := ⟨_, rfl⟩
  obtain ⟨mv, hmv⟩ : ∃ v, Hid (lv m = v) := ⟨_, rfl⟩
  rw [hmv.out] at lr4'
  rw [hmv.out, hbv.out] at lr12
  have hE512 : ev / 2 ^ 512 = 0 := by
    rw [← hev.out]
    have := lv_lt e de
    rw [le, Bn_two] at this
    exact Nat.div_eq_of_lt this
  have hlim : ∀ i, i < 8 → e.getD i 0 = lim ev i := fun i hi => by rw [← hev.out]; exact getD_limX e de i (by omega)
  go_upto_region 8 with (fail)
  try simp only [Act.put]
  go_loopw [13, 14] (fun sv iv wr => ∃ (k : Nat) (st : Bool) (rl : List Nat), sv = .bool st ∧ iv = .int .u64 (k : Nat) ∧ k ≤ 512 ∧ rl.length = 8 ∧ L64 rl ∧ Hid (lv rl = dmod (bv ^ (ev / 2 ^ k)) mv) ∧ Stp st (ev / 2 ^ k) ∧ UB wr T8 345 rl ∧ UB wr Bs 345 rl12 ∧ Blk wr R 8 345 (fun _ => Value.int .u64 0) ∧ Ext w wr) (fun _ iv _ => (intOf iv).toNat)
  case atStart => exact ⟨512, false, rl4, rfl, rfl, Nat.le_refl _, ll4, ld4, (by rw [hE512, Nat.pow_zero]; exact lr4' : lv rl4 = dmod (bv ^ (ev / 2 ^ 512)) mv), (fun _ => hE512 : Stp false (ev / 2 ^ 512)), uT16, uB16, bR16, hE16⟩
  case round =>
    clear uT16 uB16 bR16 hE16 lr4' hE512
    obtain ⟨k, st, rl, rfl, rfl, hk, lr8, dr8, hval, hst, uR, uB, bR, hE⟩ := hrel
    rcases Nat.eq_zero_or_pos k with hk0 | hk0
    · subst hk0
      go_wp2_with (first | ((with_reducible (refine Veil.out ?_; apply wl_loadRow rt337d)); (case hx => rfl); (case hB => exact uR.toB lr8); (case hi => decide)) | ((with_reducible (refine Veil.out ?_; apply wl_storeRow rt337d)); (case hx => rfl); (case hy => rfl); (case hr => exact rowOf_size _ _ _); (case h1 => exact ones_lf _ _ _); (case hB => exact bR); (case hi => decide); rintro W20 b20 m20))
      have b20' := blk_lay b20 (rowOf_size _ _ _)
      refine post_row rt337d (rowOf (lf rl) 0 8) (rowOf_size _ _ _) rfl rfl (fun q v hv => ?_) rfl ?_
      · have hq := (Array.getElem?_eq_some_iff.1 hv).1
        rw [rowOf_size] at hq
        rw [Nat.zero_add, b20'.cell hq, cf_get hv]
      · rw [rowOf_lf rl 8 (by omega), List.take_of_length_le (by omega)]
        refine ⟨rl, rfl, lr8, dr8, ?_, Ext.trans_mod hE m20 (fun q hq => by have hq2 : q = R := hq; rw [hq2]; exact gR)⟩
        have h9 := hval.out
        rw [Nat.pow_zero, Nat.div_one] at h9
        rw [h9, hbv.out, hev.out, hmv.out]
    · have k1 : (0 : Int) < k := by omega
      have j1 : IntKind.u64.wrap ((k : Int) - 1) = ((k - 1 : Nat) : Int) := by rw [IntKind.wrap_u64]; omega
      have hq64 : (k - 1) / 64 < 8 := by omega
      have hbit := bit_lim ev (k - 1)
      rw [← hlim _ hq64] at hbit
      have hhalf := half_step ev k hk0
      obtain ⟨p, hp⟩ : ∃ q, Hid (k - 1 = q) := ⟨_, rfl⟩
      rw [hp.out] at j1 hbit hhalf hq64
      obtain ⟨pd, hpd⟩ : ∃ q, Hid (p / 64 = q) := ⟨_, rfl⟩
      obtain ⟨pm, hpm⟩ : ∃ q, Hid (p % 64 = q) := ⟨_, rfl⟩
      have hp512 : p < 512 := by have := hp.out; omega
      have hpm64 : pm < 64 := by have := hpm.out; omega
      have d1 : (p : Int) / 64 = (pd : Int) := by have := hpd.out; omega
      have d2 : (p : Int) % 64 = (pm : Int) := by have := hpm.out; omega
      have d3 : IntKind.u64.wrap (pd : Int) = (pd : Int) := by have := hpd.out; rw [IntKind.wrap_u64]; omega
      have d4 : IntKind.u64.wrap (pm : Int) = (pm : Int) := by rw [IntKind.wrap_u64]; omega
      rw [hpd.out] at hbit hq64
      rw [hpm.out] at hbit
      have i8 : (pd : Int) < 8 := by omega
      have KE : ∀ W, Ext w W → W.cell? ⟨E, pd, none⟩ = some (.int .u64 ((e.getD pd 0 : Nat) : Int)) := fun W hW => (he.ext hW).atD (by omega)
      have hex := de.getD pd
      obtain ⟨x, hx⟩ : ∃ x, Hid (e.getD pd 0 = x) := ⟨_, rfl⟩
      rw [hx.out] at KE hbit hex
      have hsh : x / 2 ^ pm < 18446744073709551616 := Nat.lt_of_le_of_lt (Nat.div_le_self _ _) hex
      have hand := and1 (x / 2 ^ pm) hsh
      rw [hbit] at hand
      obtain ⟨bt, hbt⟩ : ∃ v, Hid (ev / 2 ^ p % 2 = v) := ⟨_, rfl⟩
      rw [hbt.out] at hhalf hand
      have hbt2 : bt = 0 ∨ bt = 1 := by have := hbt.out; omega
      have hhH : Hid (_ = _) := hhalf
      clear hhalf hbit
      obtain ⟨y, hy⟩ : ∃ y, Hid (x / 2 ^ pm = y) := ⟨_, rfl⟩
      rw [hy.out] at hand
      have hsi : (x : Int) / 2 ^ pm = (y : Int) := by rw [← hy.out]; simp
      cases st
      · rcases hbt2 with rfl | rfl
        · go_upto_region 13 with (fail)
          go_wp2_with (first | ((with_reducible (refine Veil.out ?_; apply wl_loadC onet26k)); (case hw => rfl); (case hx => rfl); (case hc => exact KE _ (by (repeat (first | with_reducible exact Ext.refl _ | with_reducible assumption | refine Ext.trans ?_ (by with_reducible assumption) | refine Ext.alloc ?_ _ _ | refine Ext.drew ?_ | refine Ext.drewN ?_ _))))))
          go_roundw
          case rel => have hp2 := hp.out; exact ⟨p, false, rl, rfl, int_eq (by omega), by omega, lr8, dr8, (by show lv rl = _; rw [hval.out, hhH.out, hst rfl] : lv rl = dmod (bv ^ (ev / 2 ^ p)) mv), (fun _ => by rw [hhH.out, hst rfl] : Stp false (ev / 2 ^ p)), uR, uB, bR, hE⟩
          case measure => have hp2 := hp.out; simp [intOf]; omega
        · have HM2 := uMul1024 (w := wr) (uR.toB lr8) (uB.toB ll12) (lf_FL dr8) (lf_FL ld12)
          rw [lf_fsum lr8, lf_fsum ll12] at HM2
          go_upto_region 14 with (first | ((with_reducible (refine Veil.out ?_; apply wl_loadC onet26k)); (case hw => rfl); (case hx => rfl); (case hc => exact KE _ (by (repeat (first | with_reducible exact Ext.refl _ | with_reducible assumption | refine Ext.trans ?_ (by with_reducible assumption) | refine Ext.alloc ?_ _ _ | refine Ext.drew ?_ | refine Ext.drewN ?_ _))))))
          go_upto_region 15 with (first | (go_at_call 369; refine HM2.mono ?_; rintro e W31 ⟨r31, p31, rfl, rs31, fp31, hf31, e31⟩) | ((with_reducible (refine Veil.out ?_; apply wl_allocF z406)); rintro X2 W32 e32 bX2 gX2) | ((with_reducible (refine Veil.out ?_; apply wl_storeRow rt406 (r := r31))); (case hx => rfl); (case hy => rfl); (case hr => exact rs31); (case h1 => exact ones_of (fun q hq => by rw [rs31] at hq; rw [(fp31 q hq).1]; rfl)); (case hB => exact bX2); (case hi => decide); rintro W33 b33 m33))
          have hE33 : Ext w W33 := Ext.trans_mod ((hE.trans e31).trans e32) m33 (fun q hq => by have hq2 : q = X2 := hq; rw [hq2]; exact Nat.le_trans (hE.trans e31).size gX2)
          have hRX2 : ¬ R = X2 := fun q => by have := (bR.ext e31).lt; omega
          have hTX2 : ¬ T8 = X2 := fun q => by have := (uR.ext e31).lt; omega
          have hBX2 : ¬ Bs = X2 := fun q => by have := (uB.ext e31).lt; omega
          have uX2 : UB W33 X2 414 (fli 16 p31) := fp31.ub (blk_lay b33 rs31)
          have uR33 := (uR.ext (e31.trans e32)).mod m33 hTX2
          have uB33 := (uB.ext (e31.trans e32)).mod m33 hBX2
          have bR33 := (bR.ext (e31.trans e32)).mod m33 hRX2
          clear uR uB bR hE e31 e32 b33 m33 bX2
          have H34 := uRem1024 X2 M 414 tm _ m W33 uX2 (hm.ext hE33) (fli_len _ _) lm fp31.l64 dm
          rw [fli_lv, hf31, hmv.out, hval.out, lr12, dmod_muld] at H34
          go_upto_region 16 with (first | (go_at_call 368; refine (H34).mono ?_; rintro e W34 ⟨rl34, pv34, rfl, ll34, ld34, ps34, po34, lr34, e34⟩) | ((with_reducible (refine Veil.out ?_; apply wl_storeRow rt337d (r := (ucells rl34).toArray))); (case hx => rfl); (case hy => rfl); (case hr => exact (ucells_size _).trans ll34); (case h1 => exact ones_ucells _); (case hB => exact (uR33.ext e34).toB lr8); (case hi => decide); rintro W35 b35 m35))
          go_wp2
          go_roundw
          case rel =>
            have hp2 := hp.out
            refine ⟨p, true, rl34, rfl, int_eq (by omega), by omega, ll34, ld34, ?_, (fun q => by cases q), ub_lay b35 ll34, (uB33.ext e34).mod m35 (fun q => hTB q.symm), (bR33.ext e34).mod m35 hRT, Ext.trans_mod (hE33.trans e34) m35 (fun q hq => by have hq2 : q = T8 := hq; rw [hq2]; exact gTw)⟩
            show lv rl34 = dmod (bv ^ (ev / 2 ^ p)) mv
            rw [lr34, hhH.out]
            rw [hst rfl]
          case measure => have hp2 := hp.out; simp [intOf]; omega
      · have HM1 := uMul1024 (w := wr) (uR.toB lr8) (uR.toB lr8) (lf_FL dr8) (lf_FL dr8)
        rw [lf_fsum lr8] at HM1
        go_upto_region 12 with (first | (go_at_call 369; refine HM1.mono ?_; rintro e W21 ⟨r21, p21, rfl, rs21, fp21, hf21, e21⟩) | ((with_reducible (refine Veil.out ?_; apply wl_allocF z406)); rintro X1 W22 e22 bX1 gX1) | ((with_reducible (refine Veil.out ?_; apply wl_storeRow rt406 (r := r21))); (case hx => rfl); (case hy => rfl); (case hr => exact rs21); (case h1 => exact ones_of (fun q hq => by rw [rs21] at hq; rw [(fp21 q hq).1]; rfl)); (case hB => exact bX1); (case hi => decide); rintro W23 b23 m23))
        have hE23 : Ext w W23 := Ext.trans_mod ((hE.trans e21).trans e22) m23 (fun q hq => by have hq2 : q = X1 := hq; rw [hq2]; exact Nat.le_trans (hE.trans e21).size gX1)
        have hRX : ¬ R = X1 := fun q => by have := (bR.ext e21).lt; omega
        have hTX : ¬ T8 = X1 := fun q => by have := (uR.ext e21).lt; omega
        have hBX : ¬ Bs = X1 := fun q => by have := (uB.ext e21).lt; omega
        have uX : UB W23 X1 414 (fli 16 p21) := fp21.ub (blk_lay b23 rs21)
        have uR23 := (uR.ext (e21.trans e22)).mod m23 hTX
        have uB23 := (uB.ext (e21.trans e22)).mod m23 hBX
        have bR23 := (bR.ext (e21.trans e22)).mod m23 hRX
        clear uR uB bR hE e21 e22 b23 m23 bX1
        have H24 := uRem1024 X1 M 414 tm _ m W23 uX (hm.ext hE23) (fli_len _ _) lm fp21.l64 dm
        rw [fli_lv, hf21, hmv.out, hval.out, dmod_sq] at H24
        clear hval
        go_upto_region 13 with (first | (go_at_call 368; refine (H24).mono ?_; rintro e W24 ⟨rl24, pv24, rfl, ll24, ld24, ps24, po24, lr24, e24⟩) | ((with_reducible (refine Veil.out ?_; apply wl_storeRow rt337d (r := (ucells rl24).toArray))); (case hx => rfl); (case hy => rfl); (case hr => exact (ucells_size _).trans ll24); (case h1 => exact ones_ucells _); (case hB => exact (uR23.ext e24).toB lr8); (case hi => decide); rintro W25 b25 m25))
        have uR := ub_lay b25 ll24
        have uB := (uB23.ext e24).mod m25 (fun q => hTB q.symm)
        have bR := (bR23.ext e24).mod m25 hRT
        have hE : Ext w W25 := Ext.trans_mod (hE23.trans e24) m25 (fun q hq => by have hq2 : q = T8 := hq; rw [hq2]; exact gTw)
        clear uR23 uB23 bR23 hE23 b25 m25 e24 H24 uX
        rcases hbt2 with rfl | rfl
        · go_upto_region 13 with (fail)
          go_wp2_with (first | ((with_reducible (refine Veil.out ?_; apply wl_loadC onet26k)); (case hw => rfl); (case hx => rfl); (case hc => exact KE _ (by (repeat (first | with_reducible exact Ext.refl _ | with_reducible assumption | refine Ext.trans ?_ (by with_reducible assumption) | refine Ext.alloc ?_ _ _ | refine Ext.drew ?_ | refine Ext.drewN ?_ _))))))
          go_roundw
          case rel => have hp2 := hp.out; exact ⟨p, true, rl24, rfl, int_eq (by omega), by omega, ll24, ld24, (by rw [lr24, hhH.out]; rfl : lv rl24 = dmod (bv ^ (ev / 2 ^ p)) mv), (fun q => by cases q), uR, uB, bR, hE⟩
          case measure => have hp2 := hp.out; simp [intOf]; omega
        · have HM2 := uMul1024 (w := W25) (uR.toB ll24) (uB.toB ll12) (lf_FL ld24) (lf_FL ld12)
          rw [lf_fsum ll24, lf_fsum ll12] at HM2
          go_upto_region 14 with (first | ((with_reducible (refine Veil.out ?_; apply wl_loadC onet26k)); (case hw => rfl); (case hx => rfl); (case hc => exact KE _ (by (repeat (first | with_reducible exact Ext.refl _ | with_reducible assumption | refine Ext.trans ?_ (by with_reducible assumption) | refine Ext.alloc ?_ _ _ | refine Ext.drew ?_ | refine Ext.drewN ?_ _))))))
          go_upto_region 15 with (first | (go_at_call 369; refine HM2.mono ?_; rintro e W31 ⟨r31, p31, rfl, rs31, fp31, hf31, e31⟩) | ((with_reducible (refine Veil.out ?_; apply wl_allocF z406)); rintro X2 W32 e32 bX2 gX2) | ((with_reducible (refine Veil.out ?_; apply wl_storeRow rt406 (r := r31))); (case hx => rfl); (case hy => rfl); (case hr => exact rs31); (case h1 => exact ones_of (fun q hq => by rw [rs31] at hq; rw [(fp31 q hq).1]; rfl)); (case hB => exact bX2); (case hi => decide); rintro W33 b33 m33))
          have hE33 : Ext w W33 := Ext.trans_mod ((hE.trans e31).trans e32) m33 (fun q hq => by have hq2 : q = X2 := hq; rw [hq2]; exact Nat.le_trans (hE.trans e31).size gX2)
          have hRX2 : ¬ R = X2 := fun q => by have := (bR.ext e31).lt; omega
          have hTX2 : ¬ T8 = X2 := fun q => by have := (uR.ext e31).lt; omega
          have hBX2 : ¬ Bs = X2 := fun q => by have := (uB.ext e31).lt; omega
          have uX2 : UB W33 X2 414 (fli 16 p31) := fp31.ub (blk_lay b33 rs31)
          have uR33 := (uR.ext (e31.trans e32)).mod m33 hTX2
          have uB33 := (uB.ext (e31.trans e32)).mod m33 hBX2
          have bR33 := (bR.ext (e31.trans e32)).mod m33 hRX2
          clear uR uB bR hE e31 e32 b33 m33 bX2
          have H34 := uRem1024 X2 M 414 tm _ m W33 uX2 (hm.ext hE33) (fli_len _ _) lm fp31.l64 dm
          rw [fli_lv, hf31, hmv.out, lr24, lr12, dmod_muld] at H34
          go_upto_region 16 with (first | (go_at_call 368; refine (H34).mono ?_; rintro e W34 ⟨rl34, pv34, rfl, ll34, ld34, ps34, po34, lr34, e34⟩) | ((with_reducible (refine Veil.out ?_; apply wl_storeRow rt337d (r := (ucells rl34).toArray))); (case hx => rfl); (case hy => rfl); (case hr => exact (ucells_size _).trans ll34); (case h1 => exact ones_ucells _); (case hB => exact (uR33.ext e34).toB ll24); (case hi => decide); rintro W35 b35 m35))
          go_wp2
          go_roundw
          case rel =>
            have hp2 := hp.out
            refine ⟨p, true, rl34, rfl, int_eq (by omega), by omega, ll34, ld34, ?_, (fun q => by cases q), ub_lay b35 ll34, (uB33.ext e34).mod m35 (fun q => hTB q.symm), (bR33.ext e34).mod m35 hRT, Ext.trans_mod (hE33.trans e34) m35 (fun q hq => by have hq2 : q = T8 := hq; rw [hq2]; exact gTw)⟩
            show lv rl34 = dmod (bv ^ (ev / 2 ^ p)) mv
            rw [lr34, hhH.out]
          case measure => have hp2 := hp.out; simp [intOf]; omega
end Go.Proofs.YgvahwGreat
