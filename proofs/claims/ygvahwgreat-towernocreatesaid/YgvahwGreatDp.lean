import Derived.Test.YgvahwGreatDn
import Derived.Test.YgvahwGreatRowsM
namespace Go.Proofs.YgvahwGreat
open Go.RowKit
set_option linter.unusedSimpArgs false

theorem lim_lv4 (a b c d : Nat) (ha : a < 18446744073709551616) (hb : b < 18446744073709551616) (hc : c < 18446744073709551616) (hd : d < 18446744073709551616) : lim (lv [a, b, c, d]) 0 = a ∧ lim (lv [a, b, c, d]) 1 = b ∧ lim (lv [a, b, c, d]) 2 = c ∧ lim (lv [a, b, c, d]) 3 = d := by
  have e : lv [a, b, c, d] = a + 18446744073709551616 * (b + 18446744073709551616 * (c + 18446744073709551616 * d)) := by simp [lv]
  rw [e]
  unfold lim
  refine ⟨?_, ?_, ?_, ?_⟩
  · rw [Nat.pow_zero, Nat.div_one]; omega
  · rw [Nat.pow_one]; omega
  · rw [show (18446744073709551616 : Nat) ^ 2 = 18446744073709551616 * 18446744073709551616 by decide, ← Nat.div_div_eq_div_mul]; omega
  · rw [show (18446744073709551616 : Nat) ^ 3 = 18446744073709551616 * 18446744073709551616 * 18446744073709551616 by decide, ← Nat.div_div_eq_div_mul, ← Nat.div_div_eq_div_mul]; omega
theorem four {v : List Nat} (h : v.length = 4) : ∃ a b c d, v = [a, b, c, d] := by
  match v, h with
  | [a, b, c, d], _ => exact ⟨a, b, c, d, rfl⟩
theorem nlim_top {v : List Nat} {n : Nat} (hM : v.length = 4) (dv : L64 v) (h1 : 1 ≤ n) (h4 : n ≤ 4) (ht : v.getD (n - 1) 0 ≠ 0) (hz : ∀ i, n ≤ i → i < 4 → v.getD i 0 = 0) : nlim (lv v) = n := by
  obtain ⟨a, b, c, d, rfl⟩ := four hM
  obtain ⟨e0, e1, e2, e3⟩ := lim_lv4 a b c d (dv a (by simp)) (dv b (by simp)) (dv c (by simp)) (dv d (by simp))
  unfold nlim
  rw [e0, e1, e2, e3]
  have z3 := hz 3
  have z2 := hz 2
  have z1 := hz 1
  simp at z1 z2 z3
  rcases (show n = 1 ∨ n = 2 ∨ n = 3 ∨ n = 4 by omega) with rfl | rfl | rfl | rfl <;> simp at ht z1 z2 z3 <;> simp [*]
theorem UB.blk4 {w : World} {h : Nat} {t : TypeId} {v : List Nat} (hv : UB w h t v) (hM : v.length = 4) (dv : L64 v) : Blk w h 4 t (cf (ucells v).toArray) ∧ rowOf (cf (ucells v).toArray) 0 4 = wvA (lv v) := by
  refine ⟨⟨_, hv, by simp [ucells, hM], fun i hi => get_cf (by simp [ucells, hM]; exact hi)⟩, ?_⟩
  obtain ⟨a, b, c, d, rfl⟩ := four hM
  obtain ⟨e0, e1, e2, e3⟩ := lim_lv4 a b c d (dv a (by simp)) (dv b (by simp)) (dv c (by simp)) (dv d (by simp))
  have : wvA (lv [a, b, c, d]) = #[.int .u64 (lim (lv [a, b, c, d]) 0 : Nat), .int .u64 (lim (lv [a, b, c, d]) 1 : Nat), .int .u64 (lim (lv [a, b, c, d]) 2 : Nat), .int .u64 (lim (lv [a, b, c, d]) 3 : Nat)] := rfl
  rw [this, e0, e1, e2, e3]
  rfl
set_option maxRecDepth 100000 in
set_option maxHeartbeats 6400000 in
theorem uDivMid (g h n j : Nat) (t t' : TypeId) (u v : List Nat) (w : World) (hu : UB w g t u) (hv : UB w h t' v) (hN : u.length = 9) (hM : v.length = 4) (dv : L64 v) (h2 : 2 ≤ n) (hn8 : n ≤ 4) (hj : j + n ≤ 8) (htop : 9223372036854775808 ≤ v.getD (n - 1) 0) (hvz : ∀ i, n ≤ i → i < 4 → v.getD i 0 = 0) (hz : ∀ i, j + n < i → i < 9 → u.getD i 0 = 0) (hlt : lv ((u.drop (j + 1)).take n) < lv (v.take n)) : Calls Hvah.prog 437 #[.pointer (some ⟨g, 0, none⟩), .pointer (some ⟨h, 0, none⟩), .int .u8 n, .int .u8 j] w fun e w' => e = .returned (.bool true) ∧ Ext w w' := by
  have HM := fun W (hW : Ext w W) => uMidHolds g h n j 9 4 t t' u v W (hu.ext hW) (hv.ext hW) hN hM dv h2 hn8 (by decide) (by decide) (by omega) htop hz hlt
  have HL := fun W => uLimbs (lv v) W
  rw [nlim_top hM dv (by omega) hn8 (by omega) hvz] at HL
  obtain ⟨hb4, hrow⟩ := hv.blk4 hM dv
  generalize lv v = X at *
  have i1 : ¬ (n : Int) < 2 := by omega
  have i2 : ¬ (4 : Int) < n := by omega
  have j1 : IntKind.u8.wrap ((8 : Int) - n) = ((8 - n : Nat) : Int) := by rw [IntKind.wrap_u8]; omega
  have i3 : ¬ ((8 - n : Nat) : Int) < j := by omega
  generalize 8 - n = q at *
  go_enter Hvah.func437, Hvah.ntmps437
  go_upto_region 3 with (first | (go_at_call 261; refine (HL _).mono ?_; rintro e w1 ⟨rfl, he1⟩) | ((with_reducible (refine Veil.out ?_; apply wlG_loadRow rt66)); (case hw => go_simp); (case hx => rfl); (case hB => exact hb4.ext (by (repeat (first | with_reducible exact Ext.refl _ | with_reducible assumption | refine Ext.trans ?_ (by with_reducible assumption) | refine Ext.alloc ?_ _ _ | refine Ext.drew ?_ | refine Ext.drewN ?_ _)))); (case hi => decide); rw [hrow]))
  refine w_ext ?_
  rintro W0 hW0
  refine wp_region_held_drew (S := fun w' => Ext W0 w') (by kernel_rfl) (Ext.refl _).drew (fun hHeld => ?_)
  have HH : Hid (Ext W0 _) := hHeld
  clear hHeld
  refine wpAnyH_take (i := 0) (v := ?_) rfl (by kernel_rfl) (by kernel_rfl) (by kernel_rfl) (fun _ _ _ h => h) (Or.inl ⟨by rfl, ?_⟩) HH.out ?_
  rotate_left
  · intro w hSw; go_simp; try with_reducible rfl
  change wpAnyH _ _ _ _ _ _ _ (Act.put _ (some 37) _) _
  simp only [Act.put, List.setIfInBounds_toArray, List.set_cons_zero, List.set_cons_succ]
  refine wpAnyH_take (i := 1) (v := ?_) rfl (by kernel_rfl) (by kernel_rfl) (by kernel_rfl) (fun _ _ _ h => h) (Or.inl ⟨by rfl, ?_⟩) HH.out ?_
  rotate_left
  · intro w hSw; go_simp; try with_reducible rfl
  change wpAnyH _ _ _ _ _ _ _ (Act.put _ (some 38) _) _
  simp only [Act.put, List.setIfInBounds_toArray, List.set_cons_zero, List.set_cons_succ]
  refine wpAnyH_take (i := 2) (v := ?_) rfl (by kernel_rfl) (by kernel_rfl) (by kernel_rfl) (fun _ _ _ h => h) (Or.inl ⟨by rfl, ?_⟩) HH.out ?_
  rotate_left
  · intro w hSw; go_simp; try with_reducible rfl
  change wpAnyH _ _ _ _ _ _ _ (Act.put _ (some 39) _) _
  simp only [Act.put, List.setIfInBounds_toArray, List.set_cons_zero, List.set_cons_succ]
  refine wpAnyH_take (i := 3) (v := ?_) rfl (by kernel_rfl) (by kernel_rfl) (by kernel_rfl) (fun _ _ _ h => h) (Or.inl ⟨by rfl, ?_⟩) HH.out ?_
  rotate_left
  · intro w hSw; go_simp; try with_reducible rfl
  change wpAnyH _ _ _ _ _ _ _ (Act.put _ (some 40) _) _
  simp only [Act.put, List.setIfInBounds_toArray, List.set_cons_zero, List.set_cons_succ]
  refine wpAnyH_take (i := 4) (v := ?_) rfl (by kernel_rfl) (by kernel_rfl) (by kernel_rfl) (fun _ _ _ h => h) (Or.inl ⟨by rfl, ?_⟩) HH.out ?_
  rotate_left
  · intro w hSw; go_simp; try with_reducible rfl
  change wpAnyH _ _ _ _ _ _ _ (Act.put _ (some 41) _) _
  simp only [Act.put, List.setIfInBounds_toArray, List.set_cons_zero, List.set_cons_succ]
  refine wpAnyH_take (i := 5) (v := ?_) rfl (by kernel_rfl) (by kernel_rfl) (by kernel_rfl) (fun _ _ _ h => h) (Or.inl ⟨by rfl, ?_⟩) HH.out ?_
  rotate_left
  · intro w hSw; go_simp; try with_reducible rfl
  change wpAnyH _ _ _ _ _ _ _ (Act.put _ (some 42) _) _
  simp only [Act.put, List.setIfInBounds_toArray, List.set_cons_zero, List.set_cons_succ]
  refine wpAnyH_take (i := 6) (v := ?_) rfl (by kernel_rfl) (by kernel_rfl) (by kernel_rfl) (fun _ _ _ h => h) (Or.inl ⟨by rfl, ?_⟩) HH.out ?_
  rotate_left
  · intro w hSw; go_simp; try with_reducible rfl
  change wpAnyH _ _ _ _ _ _ _ (Act.put _ (some 43) _) _
  simp only [Act.put, List.setIfInBounds_toArray, List.set_cons_zero, List.set_cons_succ]
  refine wpAnyH_take (i := 7) (v := ?_) rfl (by kernel_rfl) (by kernel_rfl) (by kernel_rfl) (fun _ _ _ h => h) (Or.inl ⟨by rfl, ?_⟩) HH.out ?_
  rotate_left
  · intro w hSw; go_simp; try with_reducible rfl
  change wpAnyH _ _ _ _ _ _ _ (Act.put _ (some 44) _) _
  simp only [Act.put, List.setIfInBounds_toArray, List.set_cons_zero, List.set_cons_succ]
  refine wpAnyH_ready (rs := [8]) (by kernel_rfl) (by simp) ?_
  refine AllReadyH.cons rfl (fun K hK => ?_) AllReadyH.nil
  go_simp
  go_at_call 433; refine (HM _ (by (repeat (first | with_reducible exact Ext.refl _ | with_reducible assumption | refine Ext.trans ?_ (by with_reducible assumption) | refine Ext.alloc ?_ _ _ | refine Ext.drew ?_ | refine Ext.drewN ?_ _)))).mono ?_; rintro e w2 ⟨rfl, he⟩
  refine hK.out _ _ ?_ (fun hHeld => ?_)
  · first | exact HH.out.trans hmY | exact HH.out.trans he | exact HH.out
  clear hK K HH
  have HH : Hid (Ext W0 _) := hHeld
  clear hHeld
  refine wpAnyH_take (i := 9) (v := ?_) rfl (by kernel_rfl) (by kernel_rfl) (by kernel_rfl) (fun _ _ _ h => h) (Or.inl ⟨by rfl, ?_⟩) HH.out ?_
  rotate_left
  · intro w hSw; go_simp; try with_reducible rfl
  change wpAnyH _ _ _ _ _ _ _ (Act.put _ (some 8) _) _
  simp only [Act.put, List.setIfInBounds_toArray, List.set_cons_zero, List.set_cons_succ]
  refine wpAnyH_done (by kernel_rfl) ?_ _
  go_wp2
  go_ret
  exact ⟨rfl, by (repeat (first | with_reducible exact Ext.refl _ | with_reducible assumption | refine Ext.trans ?_ (by with_reducible assumption) | refine Ext.alloc ?_ _ _ | refine Ext.drew ?_ | refine Ext.drewN ?_ _))⟩
set_option maxRecDepth 100000 in
set_option maxHeartbeats 6400000 in
theorem uRound (g h n j : Nat) (t t' : TypeId) (u v : List Nat) (w : World) (hgh : g ≠ h) (hu : UB w g t u) (hv : UB w h t' v) (hN : u.length = 9) (hM : v.length = 4) (dv : L64 v) (h2 : 2 ≤ n) (hn8 : n ≤ 4) (hj : j + n ≤ 8) (htop : 9223372036854775808 ≤ v.getD (n - 1) 0) (hvz : ∀ i, n ≤ i → i < 4 → v.getD i 0 = 0) (hz : ∀ i, j + n < i → i < 9 → u.getD i 0 = 0) (hlt : lv ((u.drop (j + 1)).take n) < lv (v.take n)) (du : L64 u) : Calls Hvah.prog 430 #[.pointer (some ⟨g, 0, none⟩), .pointer (some ⟨h, 0, none⟩), .int .u8 n, .int .u8 j] w fun e w' => ∃ (f : Int) (bk : Bool) (a' : List Nat), e = .returned (.tuple #[.int .u64 (lv ((u.drop j).take (n + 1)) / lv (v.take n) : Nat), .int .u8 f, .bool bk]) ∧ a'.length = n + 1 ∧ L64 a' ∧ lv a' = lv ((u.drop j).take (n + 1)) % lv (v.take n) ∧ UB w' g t (u.take j ++ a' ++ u.drop (j + (n + 1))) ∧ Mod (· = g) w w' := by
  have HW := fun W (hW : Ext w W) => uDivMid g h n j t t' u v W (hu.ext hW) (hv.ext hW) hN hM dv h2 hn8 hj htop hvz hz hlt
  obtain ⟨m, rfl⟩ : ∃ m, n = m + 2 := ⟨n - 2, by omega⟩
  have hsp : u = u.take j ++ (u.drop j).take (m + 3) ++ u.drop (j + (m + 3)) := by
    rw [List.append_assoc, ← List.drop_drop, List.take_append_drop, List.take_append_drop]
  have hvs : v = v.take (m + 2) ++ v.drop (m + 2) := (List.take_append_drop _ _).symm
  have ha : ((u.drop j).take (m + 3)).length = m + 3 := by simp; omega
  have hb : (v.take (m + 2)).length = m + 2 := by simp; omega
  have hd : (u.drop j).take (m + 3) = u.getD j 0 :: (u.drop (j + 1)).take (m + 2) := by
    have : u.drop j = u.getD j 0 :: u.drop (j + 1) := by
      rw [List.drop_eq_getElem_cons (by omega)]
      simp [List.getD_eq_getElem?_getD, List.getElem?_eq_getElem, show j < u.length by omega]
    rw [this]; rfl
  have hlv : lv ((u.drop j).take (m + 3)) < lv (v.take (m + 2)) * 18446744073709551616 := by
    rw [hd]
    show u.getD j 0 + 18446744073709551616 * lv ((u.drop (j + 1)).take (m + 2)) < _
    have := du.getD j
    omega
  have HRd := fun W (hW : Ext w W) => uRoundW g h j m t t' (u.take j) ((u.drop j).take (m + 3)) (u.drop (j + (m + 3))) (v.take (m + 2)) (v.drop (m + 2)) W (by simp; omega) ha hb (by omega) hgh (fun d hd => du d (List.mem_of_mem_drop (List.mem_of_mem_take hd))) (fun d hd => dv d (List.mem_of_mem_take hd)) (by rw [← hsp]; exact hu.ext hW) (by rw [← hvs]; exact hv.ext hW) (by
    have e1 : (v.take (m + 2))[m + 1]'(by omega) = v.getD (m + 2 - 1) 0 := by
      simp [List.getD_eq_getElem?_getD, List.getElem?_eq_getElem, show m + 1 < v.length by omega]
    rw [e1]; exact htop) hlv
  have j1 : IntKind.u8.wrap ((j : Int) + ((m + 2 : Nat) : Int)) = ((j + (m + 2) : Nat) : Int) := by rw [IntKind.wrap_u8]; omega
  have j2 : IntKind.u8.wrap (((j + (m + 2) : Nat) : Int) + 1) = ((j + (m + 2) + 1 : Nat) : Int) := by rw [IntKind.wrap_u8]; omega
  have i1 : ((j + (m + 2) + 1 : Nat) : Int) ≤ 9 := by omega
  have i2 : (j : Int) ≤ ((j + (m + 2) + 1 : Nat) : Int) := by omega
  have i3 : ((m + 2 : Nat) : Int) ≤ 4 := by omega
  have q1 : ¬ j + (m + 2) + 1 = j := by omega
  have q2 : j + (m + 2) + 1 - j = m + 2 + 1 := by omega
  clear hsp hvs hd hlv htop hvz hz hlt ha hb hn8 hj h2
  obtain ⟨Q, hQ⟩ : ∃ Q, Hid (lv ((u.drop j).take (m + 3)) / lv (v.take (m + 2)) = Q) := ⟨_, rfl⟩
  obtain ⟨R, hR⟩ : ∃ R, Hid (lv ((u.drop j).take (m + 3)) % lv (v.take (m + 2)) = R) := ⟨_, rfl⟩
  obtain ⟨P3, hP3⟩ : ∃ P, Hid (u.drop (j + (m + 3)) = P) := ⟨_, rfl⟩
  obtain ⟨P1, hP1⟩ : ∃ P, Hid (u.take j = P) := ⟨_, rfl⟩
  have hpost : ∀ (a' : List Nat), a'.length = m + 3 → a'.length = m + 2 + 1 := fun _ q => q
  rw [hQ.out, hR.out, hP3.out, hP1.out] at HRd
  rw [show m + 2 + 1 = m + 3 from rfl, hQ.out, hR.out, hP3.out, hP1.out]
  clear hQ hR hP3 hP1
  generalize m + 3 = n4 at *
  generalize j + (m + 2) + 1 = e at *
  generalize j + (m + 2) = e0 at *
  generalize m + 2 + 1 = n3 at *
  generalize m + 2 = n2 at *
  go_enter Hvah.func430, Hvah.ntmps430
  go_upto_region 3 with (first | (go_at_call 437; refine (HW _ (by (repeat (first | with_reducible exact Ext.refl _ | with_reducible assumption | refine Ext.trans ?_ (by with_reducible assumption) | refine Ext.alloc ?_ _ _ | refine Ext.drew ?_ | refine Ext.drewN ?_ _)))).mono ?_; rintro e w1 ⟨rfl, he⟩))
  refine w_ext ?_
  rintro W0 hW0
  refine wp_region_held_drew (S := fun w' => (0 ≤ (w' : World).heap.size)) (by kernel_rfl) (Nat.zero_le _) (fun hHeld => ?_)
  have HH : Hid ((0 ≤ (_ : World).heap.size)) := hHeld
  clear hHeld
  refine wpAnyH_take (i := 0) (v := ?_) rfl (by kernel_rfl) (by kernel_rfl) (by kernel_rfl) (fun _ _ _ h => h) (Or.inl ⟨by rfl, ?_⟩) HH.out ?_
  rotate_left
  · intro w hSw; go_simp; try with_reducible rfl
  change wpAnyH _ _ _ _ _ _ _ (Act.put _ (some 17) _) _
  simp only [Act.put, List.setIfInBounds_toArray, List.set_cons_zero, List.set_cons_succ]
  refine wpAnyH_take (i := 1) (v := ?_) rfl (by kernel_rfl) (by kernel_rfl) (by kernel_rfl) (fun _ _ _ h => h) (Or.inl ⟨by rfl, ?_⟩) HH.out ?_
  rotate_left
  · intro w hSw; go_simp; try with_reducible rfl
  change wpAnyH _ _ _ _ _ _ _ (Act.put _ (some 18) _) _
  simp only [Act.put, List.setIfInBounds_toArray, List.set_cons_zero, List.set_cons_succ]
  refine wpAnyH_take (i := 2) (v := ?_) rfl (by kernel_rfl) (by kernel_rfl) (by kernel_rfl) (fun _ _ _ h => h) (Or.inl ⟨by rfl, ?_⟩) HH.out ?_
  rotate_left
  · intro w hSw; go_simp; try with_reducible rfl
  change wpAnyH _ _ _ _ _ _ _ (Act.put _ (some 19) _) _
  simp only [Act.put, List.setIfInBounds_toArray, List.set_cons_zero, List.set_cons_succ]
  refine wpAnyH_take (i := 3) (v := ?_) rfl (by kernel_rfl) (by kernel_rfl) (by kernel_rfl) (fun _ _ _ h => h) (Or.inl ⟨by rfl, ?_⟩) HH.out ?_
  rotate_left
  · intro w hSw; go_simp; try with_reducible rfl
  change wpAnyH _ _ _ _ _ _ _ (Act.put _ (some 20) _) _
  simp only [Act.put, List.setIfInBounds_toArray, List.set_cons_zero, List.set_cons_succ]
  refine wpAnyH_take (i := 4) (v := ?_) rfl (by kernel_rfl) (by kernel_rfl) (by kernel_rfl) (fun _ _ _ h => h) (Or.inl ⟨by rfl, ?_⟩) HH.out ?_
  rotate_left
  · intro w hSw; go_simp; try with_reducible rfl
  change wpAnyH _ _ _ _ _ _ _ (Act.put _ (some 21) _) _
  simp only [Act.put, List.setIfInBounds_toArray, List.set_cons_zero, List.set_cons_succ]
  refine wpAnyH_take (i := 5) (v := ?_) rfl (by kernel_rfl) (by kernel_rfl) (by kernel_rfl) (fun _ _ _ h => h) (Or.inl ⟨by rfl, ?_⟩) HH.out ?_
  rotate_left
  · intro w hSw; go_simp; try with_reducible rfl
  change wpAnyH _ _ _ _ _ _ _ (Act.put _ (some 22) _) _
  simp only [Act.put, List.setIfInBounds_toArray, List.set_cons_zero, List.set_cons_succ]
  refine wpAnyH_take (i := 6) (v := ?_) rfl (by kernel_rfl) (by kernel_rfl) (by kernel_rfl) (fun _ _ _ h => h) (Or.inl ⟨by rfl, ?_⟩) HH.out ?_
  rotate_left
  · intro w hSw; go_simp; try with_reducible rfl
  change wpAnyH _ _ _ _ _ _ _ (Act.put _ (some 23) _) _
  simp only [Act.put, List.setIfInBounds_toArray, List.set_cons_zero, List.set_cons_succ]
  refine wpAnyH_take (i := 7) (v := ?_) rfl (by kernel_rfl) (by kernel_rfl) (by kernel_rfl) (fun _ _ _ h => h) (Or.inl ⟨by rfl, ?_⟩) HH.out ?_
  rotate_left
  · intro w hSw; go_simp; try with_reducible rfl
  change wpAnyH _ _ _ _ _ _ _ (Act.put _ (some 24) _) _
  simp only [Act.put, List.setIfInBounds_toArray, List.set_cons_zero, List.set_cons_succ]
  refine wpAnyH_take (i := 8) (v := ?_) rfl (by kernel_rfl) (by kernel_rfl) (by kernel_rfl) (fun _ _ _ h => h) (Or.inl ⟨by rfl, ?_⟩) HH.out ?_
  rotate_left
  · intro w hSw; go_simp; try with_reducible rfl
  change wpAnyH _ _ _ _ _ _ _ (Act.put _ (some 25) _) _
  simp only [Act.put, List.setIfInBounds_toArray, List.set_cons_zero, List.set_cons_succ]
  refine wpAnyH_take (i := 9) (v := ?_) rfl (by kernel_rfl) (by kernel_rfl) (by kernel_rfl) (fun _ _ _ h => h) (Or.inl ⟨by rfl, ?_⟩) HH.out ?_
  rotate_left
  · intro w hSw; go_simp; try with_reducible rfl
  change wpAnyH _ _ _ _ _ _ _ (Act.put _ (some 26) _) _
  simp only [Act.put, List.setIfInBounds_toArray, List.set_cons_zero, List.set_cons_succ]
  refine wpAnyH_take (i := 10) (v := ?_) rfl (by kernel_rfl) (by kernel_rfl) (by kernel_rfl) (fun _ _ _ h => h) (Or.inl ⟨by rfl, ?_⟩) HH.out ?_
  rotate_left
  · intro w hSw; go_simp; try with_reducible rfl
  change wpAnyH _ _ _ _ _ _ _ (Act.put _ (some 27) _) _
  simp only [Act.put, List.setIfInBounds_toArray, List.set_cons_zero, List.set_cons_succ]
  refine wpAnyH_take (i := 11) (v := ?_) rfl (by kernel_rfl) (by kernel_rfl) (by kernel_rfl) (fun _ _ _ h => h) (Or.inl ⟨by rfl, ?_⟩) HH.out ?_
  rotate_left
  · intro w hSw; go_simp; try with_reducible rfl
  change wpAnyH _ _ _ _ _ _ _ (Act.put _ (some 28) _) _
  simp only [Act.put, List.setIfInBounds_toArray, List.set_cons_zero, List.set_cons_succ]
  refine wpAnyH_take (i := 12) (v := ?_) rfl (by kernel_rfl) (by kernel_rfl) (by kernel_rfl) (fun _ _ _ h => h) (Or.inl ⟨by rfl, ?_⟩) HH.out ?_
  rotate_left
  · intro w hSw; go_simp; try with_reducible rfl
  change wpAnyH _ _ _ _ _ _ _ (Act.put _ (some 29) _) _
  simp only [Act.put, List.setIfInBounds_toArray, List.set_cons_zero, List.set_cons_succ]
  refine wpAnyH_take (i := 13) (v := ?_) rfl (by kernel_rfl) (by kernel_rfl) (by kernel_rfl) (fun _ _ _ h => h) (Or.inl ⟨by rfl, ?_⟩) HH.out ?_
  rotate_left
  · intro w hSw; go_simp; try with_reducible rfl
  change wpAnyH _ _ _ _ _ _ _ (Act.put _ (some 30) _) _
  simp only [Act.put, List.setIfInBounds_toArray, List.set_cons_zero, List.set_cons_succ]
  refine wpAnyH_take (i := 14) (v := ?_) rfl (by kernel_rfl) (by kernel_rfl) (by kernel_rfl) (fun _ _ _ h => h) (Or.inl ⟨by rfl, ?_⟩) HH.out ?_
  rotate_left
  · intro w hSw; go_simp; try with_reducible rfl
  change wpAnyH _ _ _ _ _ _ _ (Act.put _ (some 31) _) _
  simp only [Act.put, List.setIfInBounds_toArray, List.set_cons_zero, List.set_cons_succ]
  refine wpAnyH_take (i := 15) (v := ?_) rfl (by kernel_rfl) (by kernel_rfl) (by kernel_rfl) (fun _ _ _ h => h) (Or.inl ⟨by rfl, ?_⟩) HH.out ?_
  rotate_left
  · intro w hSw; go_simp; try with_reducible rfl
  change wpAnyH _ _ _ _ _ _ _ (Act.put _ (some 32) _) _
  simp only [Act.put, List.setIfInBounds_toArray, List.set_cons_zero, List.set_cons_succ]
  refine wpAnyH_take (i := 16) (v := ?_) rfl (by kernel_rfl) (by kernel_rfl) (by kernel_rfl) (fun _ _ _ h => h) (Or.inl ⟨by rfl, ?_⟩) HH.out ?_
  rotate_left
  · intro w hSw; go_simp; try with_reducible rfl
  change wpAnyH _ _ _ _ _ _ _ (Act.put _ (some 33) _) _
  simp only [Act.put, List.setIfInBounds_toArray, List.set_cons_zero, List.set_cons_succ]
  refine wpAnyH_ready (rs := [17]) (by kernel_rfl) (by simp) ?_
  refine AllReadyH.cons rfl (fun K hK => ?_) AllReadyH.nil
  go_simp
  go_at_call 428; refine (HRd _ (by (repeat (first | with_reducible exact Ext.refl _ | with_reducible assumption | refine Ext.trans ?_ (by with_reducible assumption) | refine Ext.alloc ?_ _ _ | refine Ext.drew ?_ | refine Ext.drewN ?_ _)))).mono ?_; rintro e w2 ⟨fx, bk, a1, rfl, hal, had, hv1, hu1, m1⟩
  refine hK.out _ _ ?_ (fun hHeld => ?_)
  · exact Nat.zero_le _
  clear hK K HH
  have HH : Hid ((0 ≤ (_ : World).heap.size)) := hHeld
  clear hHeld
  refine wpAnyH_take (i := 18) (v := ?_) rfl (by kernel_rfl) (by kernel_rfl) (by kernel_rfl) (fun _ _ _ h => h) (Or.inl ⟨by rfl, ?_⟩) HH.out ?_
  rotate_left
  · intro w hSw; go_simp; try with_reducible rfl
  change wpAnyH _ _ _ _ _ _ _ (Act.put _ (some 35) _) _
  simp only [Act.put, List.setIfInBounds_toArray, List.set_cons_zero, List.set_cons_succ]
  refine wpAnyH_take (i := 19) (v := ?_) rfl (by kernel_rfl) (by kernel_rfl) (by kernel_rfl) (fun _ _ _ h => h) (Or.inl ⟨by rfl, ?_⟩) HH.out ?_
  rotate_left
  · intro w hSw; go_simp; try with_reducible rfl
  change wpAnyH _ _ _ _ _ _ _ (Act.put _ (some 36) _) _
  simp only [Act.put, List.setIfInBounds_toArray, List.set_cons_zero, List.set_cons_succ]
  refine wpAnyH_take (i := 20) (v := ?_) rfl (by kernel_rfl) (by kernel_rfl) (by kernel_rfl) (fun _ _ _ h => h) (Or.inl ⟨by rfl, ?_⟩) HH.out ?_
  rotate_left
  · intro w hSw; go_simp; try with_reducible rfl
  change wpAnyH _ _ _ _ _ _ _ (Act.put _ (some 37) _) _
  simp only [Act.put, List.setIfInBounds_toArray, List.set_cons_zero, List.set_cons_succ]
  refine wpAnyH_take (i := 21) (v := ?_) rfl (by kernel_rfl) (by kernel_rfl) (by kernel_rfl) (fun _ _ _ h => h) (Or.inl ⟨by rfl, ?_⟩) HH.out ?_
  rotate_left
  · intro w hSw; go_simp; try with_reducible rfl
  change wpAnyH _ _ _ _ _ _ _ (Act.put _ (some 8) _) _
  simp only [Act.put, List.setIfInBounds_toArray, List.set_cons_zero, List.set_cons_succ]
  refine wpAnyH_take (i := 22) (v := ?_) rfl (by kernel_rfl) (by kernel_rfl) (by kernel_rfl) (fun _ _ _ h => h) (Or.inl ⟨by rfl, ?_⟩) HH.out ?_
  rotate_left
  · intro w hSw; go_simp; try with_reducible rfl
  change wpAnyH _ _ _ _ _ _ _ (Act.put _ (some 9) _) _
  simp only [Act.put, List.setIfInBounds_toArray, List.set_cons_zero, List.set_cons_succ]
  refine wpAnyH_take (i := 23) (v := ?_) rfl (by kernel_rfl) (by kernel_rfl) (by kernel_rfl) (fun _ _ _ h => h) (Or.inl ⟨by rfl, ?_⟩) HH.out ?_
  rotate_left
  · intro w hSw; go_simp; try with_reducible rfl
  change wpAnyH _ _ _ _ _ _ _ (Act.put _ (some 10) _) _
  simp only [Act.put, List.setIfInBounds_toArray, List.set_cons_zero, List.set_cons_succ]
  refine wpAnyH_done (by kernel_rfl) ?_ _
  go_wp2
  refine bodyPost_ret (v := .tuple #[.int .u64 (Q : Nat), .int .u8 fx, .bool bk]) (by simp [results, Hvah.results430, go_sem]; try rfl) rfl ?_
  exact ⟨fx, bk, a1, rfl, hal, had, hv1, hu1, ((show Ext w W0 by (repeat (first | with_reducible exact Ext.refl _ | with_reducible assumption | refine Ext.trans ?_ (by with_reducible assumption) | refine Ext.alloc ?_ _ _ | refine Ext.drew ?_ | refine Ext.drewN ?_ _))).drew.mod _).trans m1⟩
end Go.Proofs.YgvahwGreat
