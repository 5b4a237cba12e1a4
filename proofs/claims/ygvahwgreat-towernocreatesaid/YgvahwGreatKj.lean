import Derived.Test.YgvahwGreatKd
import Derived.Test.YgvahwGreatKg0
namespace Go.Proofs.YgvahwGreat
open Go.RowKit
set_option linter.unusedSimpArgs false
set_option maxRecDepth 100000
/-- iota with the constant k. -/
def bIota (A : Nat → Nat → Nat → Bool) (k x y z : Nat) : Bool := if x = 0 ∧ y = 0 then A x y z ^^ k.testBit z else A x y z
theorem kRC_lt (r : Nat) : kRC.getD r 0 < 18446744073709551616 := by
  rw [List.getD_eq_getElem?_getD]
  cases h : kRC[r]? with
  | none => simp
  | some x =>
    have : ∀ x ∈ kRC, x < 18446744073709551616 := by decide
    exact this x (List.mem_of_getElem? h)
theorem and_bit {k z : Nat} (hk : k < 18446744073709551616) : ((bits .and .u64 ((k : Int) / 2 ^ z) 1) == 1) = k.testBit z := by
  have e : ((k : Int) / 2 ^ z) = ((k / 2 ^ z : Nat) : Int) := by push_cast; rfl
  rw [e, show (1 : Int) = ((1 : Nat) : Int) from rfl, u64_and_nat _ _ (Nat.lt_of_le_of_lt (Nat.div_le_self _ _) hk) (by decide), Nat.and_one_is_mod, Nat.testBit_eq_decide_div_mod_eq]
  have : k / 2 ^ z % 2 < 2 := Nat.mod_lt _ (by decide)
  rcases (show k / 2 ^ z % 2 = 0 ∨ k / 2 ^ z % 2 = 1 by omega) with h | h <;> rw [h] <;> rfl
set_option maxRecDepth 100000 in
set_option maxHeartbeats 6400000 in
theorem kIota {w : World} {B : Nat} {tt : TypeId} {c : Nat → Value} {A : Nat → Nat → Nat → Bool} (hB : Blk w B 1600 tt c) (hc : FB 1600 c (fl A)) (r : Nat) (hr : r < 24) : Calls Hvah.prog 401 #[.pointer (some ⟨B, 0, none⟩), .int .u8 r] w fun e w' => e = .returned (.tuple #[]) ∧ ∃ c', Blk w' B 1600 tt c' ∧ FB 1600 c' (fl (bIota A (kRC.getD r 0))) ∧ Mod (· = B) w w' := by
  have HC := fun W => kConst r hr W
  have hkl := kRC_lt r
  obtain ⟨k, hk⟩ : ∃ k, Hid (kRC.getD r 0 = k) := ⟨_, rfl⟩
  rw [hk.out] at HC hkl ⊢
  go_enter Hvah.func401, Hvah.ntmps401
  go_upto_region 2 with (go_at_call 424; refine (HC _).mono ?_; rintro e w1 ⟨rfl, he⟩)
  try simp only [Act.put]
  go_loopw [8] (fun iv wr => ∃ (z : Nat) (cB : Nat → Value), iv = .int .i64 (z : Nat) ∧ z ≤ 64 ∧ Blk wr B 1600 tt cB ∧ FB 1600 cB (onWay (fl (bIota A k)) (fl A) z) ∧ Mod (· = B) w wr) (fun iv _ => 64 - (intOf iv).toNat)
  case atStart => exact ⟨0, c, rfl, by decide, hB.ext he, hc.congr (fun i _ => onWay_0 _ _ i), he.mod _⟩
  case round =>
    obtain ⟨z, cB, rfl, hz5, bB, fB, hM⟩ := hrel
    rcases Nat.lt_or_ge z 64 with hltz | hge
    · have hzi : (z : Int) < 64 := by omega
      have hth : fl (bIota A k) z = (fl A z ^^ k.testBit z) := by
        unfold fl bIota
        rw [show z / 320 = 0 by omega, show z / 64 % 5 = 0 by omega, show z % 64 = z by omega]
        simp
      obtain ⟨av, hav⟩ : ∃ b, Hid (fl A z = b) := ⟨_, rfl⟩
      obtain ⟨tb, htb⟩ : ∃ b, Hid (k.testBit z = b) := ⟨_, rfl⟩
      rw [hav.out, htb.out] at hth
      have hbit : ((bits .and .u64 ((k : Int) / 2 ^ z) 1) == 1) = tb := by rw [and_bit hkl, ← htb.out]
      have KA : ∀ W i, Ext wr W → i = z → W.cell? ⟨B, i, none⟩ = some (.bool av) := fun W i hW hi => by
        rw [hi, (bB.ext hW).cell (by omega), fB _ (by omega), onWay_at, hav.out]
      go_upto_region 4 with (fail)
      refine w_ext ?_
      rintro W0 hW0
      refine wp_region_held_drew (S := fun w' => (0 ≤ (w' : World).heap.size)) (by kernel_rfl) (Nat.zero_le _) (fun hHeld => ?_)
      have HH : Hid ((0 ≤ (_ : World).heap.size)) := hHeld
      clear hHeld
      refine wpAnyH_take (i := 0) (v := ?_) rfl (by kernel_rfl) (by kernel_rfl) (by kernel_rfl) (fun _ _ _ h => h) (Or.inl ⟨by rfl, ?_⟩) HH.out ?_
      rotate_left
      · intro w hSw; go_simp; try with_reducible rfl
      change wpAnyH _ _ _ _ _ _ _ (Act.put _ (some 11) _) _
      simp only [Act.put, List.setIfInBounds_toArray, List.set_cons_zero, List.set_cons_succ]
      refine wpAnyH_take (i := 1) (v := ?_) rfl (by kernel_rfl) (by kernel_rfl) (by kernel_rfl) (fun _ _ _ h => h) (Or.inl ⟨by rfl, ?_⟩) HH.out ?_
      rotate_left
      · intro w hSw; go_simp; try with_reducible rfl
      change wpAnyH _ _ _ _ _ _ _ (Act.put _ (some 12) _) _
      simp only [Act.put, List.setIfInBounds_toArray, List.set_cons_zero, List.set_cons_succ]
      refine wpAnyH_take (i := 2) (v := ?_) rfl (by kernel_rfl) (by kernel_rfl) (by kernel_rfl) (fun _ _ _ h => h) (Or.inl ⟨by rfl, ?_⟩) HH.out ?_
      rotate_left
      · intro w hSw; go_simp; try with_reducible rfl
      change wpAnyH _ _ _ _ _ _ _ (Act.put _ (some 13) _) _
      simp only [Act.put, List.setIfInBounds_toArray, List.set_cons_zero, List.set_cons_succ]
      refine wpAnyH_take (i := 3) (v := ?_) rfl (by kernel_rfl) (by kernel_rfl) (by kernel_rfl) (fun _ _ _ h => h) (Or.inl ⟨by rfl, ?_⟩) HH.out ?_
      rotate_left
      · intro w hSw; go_simp; try with_reducible rfl
      change wpAnyH _ _ _ _ _ _ _ (Act.put _ (some 14) _) _
      simp only [Act.put, List.setIfInBounds_toArray, List.set_cons_zero, List.set_cons_succ]
      refine wpAnyH_take (i := 4) (v := ?_) rfl (by kernel_rfl) (by kernel_rfl) (by kernel_rfl) (fun _ _ _ h => h) (Or.inl ⟨by rfl, ?_⟩) HH.out ?_
      rotate_left
      · intro w hSw; go_simp; try with_reducible rfl
      change wpAnyH _ _ _ _ _ _ _ (Act.put _ (some 15) _) _
      simp only [Act.put, List.setIfInBounds_toArray, List.set_cons_zero, List.set_cons_succ]
      refine wpAnyH_take (i := 5) (v := ?_) rfl (by kernel_rfl) (by kernel_rfl) (by kernel_rfl) (fun _ _ _ h => h) (Or.inl ⟨by rfl, ?_⟩) HH.out ?_
      rotate_left
      · intro w hSw; go_simp; try with_reducible rfl
      change wpAnyH _ _ _ _ _ _ _ (Act.put _ (some 16) _) _
      simp only [Act.put, List.setIfInBounds_toArray, List.set_cons_zero, List.set_cons_succ]
      refine wpAnyH_take (i := 6) (v := ?_) rfl (by kernel_rfl) (by kernel_rfl) (by kernel_rfl) (fun _ _ _ h => h) (Or.inl ⟨by rfl, ?_⟩) HH.out ?_
      rotate_left
      · intro w hSw; go_simp; try with_reducible rfl
      change wpAnyH _ _ _ _ _ _ _ (Act.put _ (some 17) _) _
      simp only [Act.put, List.setIfInBounds_toArray, List.set_cons_zero, List.set_cons_succ]
      refine wpAnyH_take (i := 7) (v := ?_) rfl (by kernel_rfl) (by kernel_rfl) (by kernel_rfl) (fun _ _ _ h => h) (Or.inl ⟨by rfl, ?_⟩) HH.out ?_
      rotate_left
      · intro w hSw; go_simp; try with_reducible rfl
      change wpAnyH _ _ _ _ _ _ _ (Act.put _ (some 18) _) _
      simp only [Act.put, List.setIfInBounds_toArray, List.set_cons_zero, List.set_cons_succ]
      refine wpAnyH_take (i := 9) (v := ?_) rfl (by kernel_rfl) (by kernel_rfl) (by kernel_rfl) (fun _ _ _ h => h) (Or.inl ⟨by rfl, ?_⟩) HH.out ?_
      rotate_left
      · intro w hSw; go_simp; try with_reducible rfl
      change wpAnyH _ _ _ _ _ _ _ (Act.put _ (some 20) _) _
      simp only [Act.put, List.setIfInBounds_toArray, List.set_cons_zero, List.set_cons_succ]
      refine wpAnyH_take (i := 10) (v := ?_) rfl (by kernel_rfl) (by kernel_rfl) (by kernel_rfl) (fun _ _ _ h => h) (Or.inl ⟨by rfl, ?_⟩) HH.out ?_
      rotate_left
      · intro w hSw; go_simp; try with_reducible rfl
      change wpAnyH _ _ _ _ _ _ _ (Act.put _ (some 21) _) _
      simp only [Act.put, List.setIfInBounds_toArray, List.set_cons_zero, List.set_cons_succ]
      refine wpAnyH_take (i := 11) (v := ?_) rfl (by kernel_rfl) (by kernel_rfl) (by kernel_rfl) (fun _ _ _ h => h) (Or.inl ⟨by rfl, ?_⟩) HH.out ?_
      rotate_left
      · intro w hSw; go_simp; try with_reducible rfl
      change wpAnyH _ _ _ _ _ _ _ (Act.put _ (some 22) _) _
      simp only [Act.put, List.setIfInBounds_toArray, List.set_cons_zero, List.set_cons_succ]
      refine wpAnyH_take (i := 12) (v := ?_) rfl (by kernel_rfl) (by kernel_rfl) (by kernel_rfl) (fun _ _ _ h => h) (Or.inl ⟨by rfl, ?_⟩) HH.out ?_
      rotate_left
      · intro w hSw; go_simp; try with_reducible rfl
      change wpAnyH _ _ _ _ _ _ _ (Act.put _ (some 23) _) _
      simp only [Act.put, List.setIfInBounds_toArray, List.set_cons_zero, List.set_cons_succ]
      refine wpAnyH_take (i := 13) (v := ?_) rfl (by kernel_rfl) (by kernel_rfl) (by kernel_rfl) (fun _ _ _ h => h) (Or.inl ⟨by rfl, ?_⟩) HH.out ?_
      rotate_left
      · intro w hSw; go_simp; try with_reducible rfl
      change wpAnyH _ _ _ _ _ _ _ (Act.put _ (some 24) _) _
      simp only [Act.put, List.setIfInBounds_toArray, List.set_cons_zero, List.set_cons_succ]
      refine wpAnyH_take (i := 15) (v := ?_) rfl (by kernel_rfl) (by kernel_rfl) (by kernel_rfl) (fun _ _ _ h => h) (Or.inl ⟨by rfl, ?_⟩) HH.out ?_
      rotate_left
      · intro w hSw; go_simp; try with_reducible rfl
      change wpAnyH _ _ _ _ _ _ _ (Act.put _ (some 26) _) _
      simp only [Act.put, List.setIfInBounds_toArray, List.set_cons_zero, List.set_cons_succ]
      refine wpAnyH_take (i := 16) (v := ?_) rfl (by kernel_rfl) (by kernel_rfl) (by kernel_rfl) (fun _ _ _ h => h) (Or.inl ⟨by rfl, ?_⟩) HH.out ?_
      rotate_left
      · intro w hSw; go_simp; try with_reducible rfl
      change wpAnyH _ _ _ _ _ _ _ (Act.put _ (some 27) _) _
      simp only [Act.put, List.setIfInBounds_toArray, List.set_cons_zero, List.set_cons_succ]
      refine wpAnyH_take (i := 17) (v := ?_) rfl (by kernel_rfl) (by kernel_rfl) (by kernel_rfl) (fun _ _ _ h => h) (Or.inl ⟨by rfl, ?_⟩) HH.out ?_
      rotate_left
      · intro w hSw; go_simp; try with_reducible rfl
      change wpAnyH _ _ _ _ _ _ _ (Act.put _ (some 28) _) _
      simp only [Act.put, List.setIfInBounds_toArray, List.set_cons_zero, List.set_cons_succ]
      refine wpAnyH_ready (rs := [8]) (by kernel_rfl) (by simp) ?_
      refine AllReadyH.cons rfl (fun K hK => ?_) AllReadyH.nil
      refine step_any rfl (op_loadK rfl onek4 rfl (KA _ _ (by (repeat (first | with_reducible exact Ext.refl _ | with_reducible assumption | refine Ext.trans ?_ (by with_reducible assumption) | refine Ext.alloc ?_ _ _ | refine Ext.drew ?_ | refine Ext.drewN ?_ _))) (by omega)) ?_)
      refine hK.out _ _ HH.out (fun hHeld => ?_)
      clear hK K HH
      have HH : Hid ((0 ≤ (_ : World).heap.size)) := hHeld
      clear hHeld
      change wpAnyH _ _ _ _ _ _ _ (Act.put _ (some 19) _) _
      simp only [Act.put, List.setIfInBounds_toArray, List.set_cons_zero, List.set_cons_succ]
      refine wpAnyH_take (i := 14) (v := ?_) rfl (by kernel_rfl) (by kernel_rfl) (by kernel_rfl) (fun _ _ _ h => h) (Or.inl ⟨by rfl, ?_⟩) HH.out ?_
      rotate_left
      · intro w hSw; go_simp; try with_reducible rfl
      change wpAnyH _ _ _ _ _ _ _ (Act.put _ (some 25) _) _
      simp only [Act.put, List.setIfInBounds_toArray, List.set_cons_zero, List.set_cons_succ]
      refine wpAnyH_take (i := 18) (v := ?_) rfl (by kernel_rfl) (by kernel_rfl) (by kernel_rfl) (fun _ _ _ h => h) (Or.inl ⟨by rfl, ?_⟩) HH.out ?_
      rotate_left
      · intro w hSw; go_simp; try with_reducible rfl
      change wpAnyH _ _ _ _ _ _ _ (Act.put _ (some 29) _) _
      simp only [Act.put, List.setIfInBounds_toArray, List.set_cons_zero, List.set_cons_succ]
      refine wpAnyH_ready (rs := [19]) (by kernel_rfl) (by simp) ?_
      refine AllReadyH.cons rfl (fun K hK => ?_) AllReadyH.nil
      refine step_any rfl (op_store1 rfl onek4 rfl rfl rfl (bB.ext (by (repeat (first | with_reducible exact Ext.refl _ | with_reducible assumption | refine Ext.trans ?_ (by with_reducible assumption) | refine Ext.alloc ?_ _ _ | refine Ext.drew ?_ | refine Ext.drewN ?_ _)))) (by omega) ?_)
      rintro W7 b7 m7
      refine hK.out _ _ (Nat.zero_le _) (fun hHeld => ?_)
      clear hK K HH
      have HH : Hid ((0 ≤ (_ : World).heap.size)) := hHeld
      clear hHeld
      change wpAnyH _ _ _ _ _ _ _ (Act.put _ none _) _
      simp only [Act.put, List.setIfInBounds_toArray, List.set_cons_zero, List.set_cons_succ]
      refine wpAnyH_done (by kernel_rfl) ?_ _
      go_wp2
      go_roundw
      case rel =>
        have eW : Ext wr W0 := by (repeat (first | with_reducible exact Ext.refl _ | with_reducible assumption | refine Ext.trans ?_ (by with_reducible assumption) | refine Ext.alloc ?_ _ _ | refine Ext.drew ?_ | refine Ext.drewN ?_ _))
        refine ⟨z + 1, _, int_eq (by omega), by omega, b7, ?_, (hM.trans_ext eW.drew).trans m7⟩
        exact onWay_put (p := z) fB (by omega) ((xor_v av tb).trans (by rw [hth]))
      case measure => simp [intOf]; omega
    · have hzi : ¬ (z : Int) < 64 := by omega
      obtain rfl : z = 64 := by omega
      go_wp2
      go_end0
      refine ⟨rfl, cB, bB, fB.congr (fun i hi => ?_), hM⟩
      unfold onWay
      by_cases h : i < 64
      · rw [if_pos h]
      · rw [if_neg h]
        unfold fl bIota
        rw [if_neg (by omega)]
end Go.Proofs.YgvahwGreat
