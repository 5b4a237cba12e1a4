import Derived.Test.YgvahwGreatDivE
import Derived.Deep.DeepCutAuto
import Derived.Deep.CutBlock
namespace Go.Proofs.YgvahwGreat
open Go.RowKit

/-- The trial quotient. -/
def trialQ (u0 u1 u2 v1 v2 : Nat) : Nat := min 18446744073709551615 (((u0 * 18446744073709551616 + u1) * 18446744073709551616 + u2) / (v1 * 18446744073709551616 + v2))

theorem trial_low (q R u0 u1 u2 v1 v2 : Nat) (hv : 0 < v1) (hq : q ≤ 18446744073709551615) (hi : q * v1 + R = u0 * 18446744073709551616 + u1) (hc : q * v2 ≤ R * 18446744073709551616 + u2) : q ≤ trialQ u0 u1 u2 v1 v2 := by
  unfold trialQ
  refine Nat.le_min.2 ⟨hq, ?_⟩
  rw [Nat.le_div_iff_mul_le (by omega), Nat.mul_add, ← Nat.mul_assoc, ← hi]
  generalize q * v1 = A at *
  generalize q * v2 = C at *
  omega
theorem trial_aux (A C R u2 : Nat) (h : R * 18446744073709551616 + u2 < C) : (A + R) * 18446744073709551616 + u2 < A * 18446744073709551616 + C := by
  rw [Nat.add_mul, Nat.add_assoc]; exact Nat.add_lt_add_left h _
theorem trial_high (q R u0 u1 u2 v1 v2 : Nat) (hi : q * v1 + R = u0 * 18446744073709551616 + u1) (hc : R * 18446744073709551616 + u2 < q * v2) : trialQ u0 u1 u2 v1 v2 < q := by
  unfold trialQ
  refine Nat.lt_of_le_of_lt (Nat.min_le_right _ _) (Nat.div_lt_of_lt_mul ?_)
  rw [Nat.mul_comm (v1 * 18446744073709551616 + v2) q, Nat.mul_add, ← Nat.mul_assoc, ← hi]
  exact trial_aux _ _ _ _ hc
theorem trial_start (q r u0 u1 u2 v1 v2 : Nat) (hu2 : u2 < 18446744073709551616) (hi : q * v1 + r = u0 * 18446744073709551616 + u1) (hr : r < v1) : trialQ u0 u1 u2 v1 v2 ≤ q := by
  unfold trialQ
  refine Nat.le_trans (Nat.min_le_right _ _) ?_
  apply Nat.le_of_lt_succ
  apply Nat.div_lt_of_lt_mul
  rw [← hi, Nat.mul_comm (v1 * 18446744073709551616 + v2) q.succ, Nat.succ_mul, Nat.mul_add, ← Nat.mul_assoc]
  generalize q * v1 = A at *
  generalize q * v2 = C at *
  omega

set_option maxRecDepth 100000 in
set_option maxHeartbeats 3200000 in
theorem uTrial (u0 u1 u2 v1 v2 : Nat) (w : World) (h0 : u0 ≤ v1) (h1 : u1 < 18446744073709551616) (h2 : u2 < 18446744073709551616) (g1 : v1 < 18446744073709551616) (g2 : v2 < 18446744073709551616) (hv : 0 < v1) :
    Calls Hvah.prog 434 #[.int .u64 u0, .int .u64 u1, .int .u64 u2, .int .u64 v1, .int .u64 v2] w fun e w' => ∃ f : Int, e = .returned (.tuple #[.int .u64 (trialQ u0 u1 u2 v1 v2 : Nat), .int .u8 f]) ∧ Ext w w' := by
  obtain ⟨T, hT⟩ : ∃ T, Hid (trialQ u0 u1 u2 v1 v2 = T) := ⟨_, rfl⟩
  rw [hT.out]
  go_enter Hvah.func434, Hvah.ntmps434
  by_cases hlt : u0 < v1
  · go_upto_block 0 with (first | (go_at_call 379; refine (mDiv64_yes u0 u1 v1 _ hlt h1 g1).mono ?_; rintro e w1 ⟨q0, r0, rfl, hq0, hr0, hqr, he⟩))
    have hTs : T ≤ q0 := by rw [← hT.out]; exact trial_start q0 r0 u0 u1 u2 v1 v2 h2 hqr.out hr0
    have hext := he
    clear he
    go_wp2
    go_loop [10, 11, 12, 14] (fun a b c d => ∃ (q r k : Nat) (f : Int), a = .int .u64 q ∧ b = .int .u8 f ∧ c = .int .u64 r ∧ d = .int .u64 k ∧ q ≤ 18446744073709551615 ∧ r < 18446744073709551616 ∧ k ≤ 1 ∧ Hid (q * v1 + (r + 18446744073709551616 * k) = u0 * 18446744073709551616 + u1) ∧ T ≤ q) (fun a _ _ _ => (intOf a).toNat)
    case atStart => exact ⟨q0, r0, 0, 0, rfl, rfl, rfl, rfl, by omega, by omega, by omega, by unfold Hid; have := hqr.out; omega, hTs⟩
    case round =>
      obtain ⟨q, r, k, f, rfl, rfl, rfl, rfl, hq, hr, hk, hinv, hTq⟩ := hrel
      by_cases hk1 : k = 1
      · have hE : Hid (q = T) := by
          unfold Hid
          refine Nat.le_antisymm ?_ hTq
          rw [← hT.out]
          refine trial_low q _ u0 u1 u2 v1 v2 hv hq hinv.out ?_
          have : q * v2 ≤ 18446744073709551615 * 18446744073709551615 := Nat.mul_le_mul hq (by omega)
          omega
        have hk2 : ((k : Int) == 0) = false := by simp; omega
        go_wp2
        go_ret2
        exact ⟨⟨f, by rw [← hE.out]; rfl⟩, hext⟩
      · have hk0 : k = 0 := by omega
        subst hk0
        obtain ⟨X, hX⟩ : ∃ X, Hid (q * v2 = X) := ⟨_, rfl⟩
        have hqB : q < 18446744073709551616 := by omega
        obtain ⟨H, L, hH, hLo, hL2, hX2⟩ : ∃ H L, H = X / 18446744073709551616 ∧ L = X % 18446744073709551616 ∧ L < 18446744073709551616 ∧ L + 18446744073709551616 * H = X := ⟨_, _, rfl, rfl, Nat.mod_lt _ (by decide), Nat.mod_add_div _ _⟩
        have HX2 : Hid (L + 18446744073709551616 * H = X) := hX2
        clear hH hLo hX2
        have HM : ∀ W, Calls Hvah.prog 177 #[.int .u64 q, .int .u64 v2] W fun e w' => e = .returned (.tuple #[.int .u64 H, .int .u64 L]) ∧ w' = W := fun W => by
          refine (mMul64 q v2 hqB g2 W).mono ?_
          rintro e w' ⟨h, l, rfl, hh, hl, hp, rfl⟩
          have := hp.out; have := hX.out; have := HX2.out
          rw [hX.out] at hp
          have := hp.out
          have e1 : h = H := by omega
          have e2 : l = L := by omega
          rw [e1, e2]; exact ⟨rfl, rfl⟩
        by_cases hc : X ≤ r * 18446744073709551616 + u2
        · have hE : Hid (q = T) := by
            unfold Hid
            refine Nat.le_antisymm ?_ hTq
            rw [← hT.out]
            exact trial_low q r u0 u1 u2 v1 v2 hv hq hinv.out (by rw [hX.out]; exact hc)
          by_cases hHr : H < r
          · clear hc
            go_wp2_with (first | (go_at_call 177; refine (HM _).mono ?_; rintro e w' ⟨rfl, rfl⟩))
            go_ret2
            exact ⟨f, by rw [← hE.out]; rfl, hext⟩
          · have hHe : H = r ∧ L ≤ u2 := by have := HX2.out; omega
            obtain ⟨hH1, hH2⟩ := hHe
            subst hH1
            clear hc
            go_wp2_with (first | (go_at_call 177; refine (HM _).mono ?_; rintro e w' ⟨rfl, rfl⟩))
            go_ret2
            exact ⟨f, by rw [← hE.out]; rfl, hext⟩
        · have hlt : T < q := by rw [← hT.out]; exact trial_high q r u0 u1 u2 v1 v2 hinv.out (by rw [hX.out]; omega)
          have hq1 : (1 : Int) ≤ q := by omega
          have HE2 : Hid (∀ s c : Nat, s + 18446744073709551616 * c = r + v1 + 0 → (q - 1) * v1 + (s + 18446744073709551616 * c) = u0 * 18446744073709551616 + u1) := fun s c h => by
            have := hinv.out
            obtain ⟨j, rfl⟩ : ∃ j, q = j + 1 := ⟨q - 1, by omega⟩
            rw [Nat.add_mul, Nat.one_mul] at this
            rw [Nat.add_sub_cancel]
            generalize j * v1 = A at *
            omega
          by_cases hHr : r < H
          · clear hc
            go_wp2_with (first | (go_at_call 177; refine (HM _).mono ?_; rintro e w' ⟨rfl, rfl⟩) | (go_at_call 178; refine (mAdd64 r v1 0 hr g1 (by omega) _).mono ?_; rintro e w' ⟨s1, c1, rfl, i1, j1, n1, rfl⟩))
            exact ⟨⟨q - 1, s1, c1, _, int_eq (by omega), rfl, rfl, rfl, by omega, i1, j1, HE2.out s1 c1 n1.out, by omega⟩, by simp [intOf]; omega⟩
          · have hHe : H = r ∧ u2 < L := by have := HX2.out; omega
            obtain ⟨hH1, hH2⟩ := hHe
            subst hH1
            clear hc
            go_wp2_with (first | (go_at_call 177; refine (HM _).mono ?_; rintro e w' ⟨rfl, rfl⟩) | (go_at_call 178; refine (mAdd64 H v1 0 hr g1 (by omega) _).mono ?_; rintro e w' ⟨s1, c1, rfl, i1, j1, n1, rfl⟩))
            exact ⟨⟨q - 1, s1, c1, _, int_eq (by omega), rfl, rfl, rfl, by omega, i1, j1, HE2.out s1 c1 n1.out, by omega⟩, by simp [intOf]; omega⟩
  · have hz : u0 = v1 := by omega
    subst hz
    go_upto_block 0 with (first | (go_at_call 379; refine (mDiv64_no u0 u1 u0 _ (Nat.le_refl _)).mono ?_; rintro e w1 ⟨rfl, rfl⟩) | (go_at_call 178; refine (mAdd64 u1 u0 0 h1 g1 (by omega) _).mono ?_; rintro e w1 ⟨r0, k0, rfl, i0, j0, n0, rfl⟩))
    have hTs : T ≤ 18446744073709551615 := by rw [← hT.out]; exact Nat.min_le_left _ _
    have hext := Ext.refl w1
    go_wp2
    go_loop [10, 11, 12, 14] (fun a b c d => ∃ (q r k : Nat) (f : Int), a = .int .u64 q ∧ b = .int .u8 f ∧ c = .int .u64 r ∧ d = .int .u64 k ∧ q ≤ 18446744073709551615 ∧ r < 18446744073709551616 ∧ k ≤ 1 ∧ Hid (q * u0 + (r + 18446744073709551616 * k) = u0 * 18446744073709551616 + u1) ∧ T ≤ q) (fun a _ _ _ => (intOf a).toNat)
    case atStart => exact ⟨18446744073709551615, r0, k0, 0, rfl, rfl, rfl, rfl, by omega, i0, j0, by unfold Hid; have := n0.out; omega, hTs⟩
    case round =>
      obtain ⟨q, r, k, f, rfl, rfl, rfl, rfl, hq, hr, hk, hinv, hTq⟩ := hrel
      by_cases hk1 : k = 1
      · have hE : Hid (q = T) := by
          unfold Hid
          refine Nat.le_antisymm ?_ hTq
          rw [← hT.out]
          refine trial_low q _ u0 u1 u2 u0 v2 hv hq hinv.out ?_
          have : q * v2 ≤ 18446744073709551615 * 18446744073709551615 := Nat.mul_le_mul hq (by omega)
          omega
        have hk2 : ((k : Int) == 0) = false := by simp; omega
        go_wp2
        go_ret2
        exact ⟨⟨f, by rw [← hE.out]; rfl⟩, hext⟩
      · have hk0 : k = 0 := by omega
        subst hk0
        obtain ⟨X, hX⟩ : ∃ X, Hid (q * v2 = X) := ⟨_, rfl⟩
        have hqB : q < 18446744073709551616 := by omega
        obtain ⟨H, L, hH, hLo, hL2, hX2⟩ : ∃ H L, H = X / 18446744073709551616 ∧ L = X % 18446744073709551616 ∧ L < 18446744073709551616 ∧ L + 18446744073709551616 * H = X := ⟨_, _, rfl, rfl, Nat.mod_lt _ (by decide), Nat.mod_add_div _ _⟩
        have HX2 : Hid (L + 18446744073709551616 * H = X) := hX2
        clear hH hLo hX2
        have HM : ∀ W, Calls Hvah.prog 177 #[.int .u64 q, .int .u64 v2] W fun e w' => e = .returned (.tuple #[.int .u64 H, .int .u64 L]) ∧ w' = W := fun W => by
          refine (mMul64 q v2 hqB g2 W).mono ?_
          rintro e w' ⟨h, l, rfl, hh, hl, hp, rfl⟩
          have := hp.out; have := hX.out; have := HX2.out
          rw [hX.out] at hp
          have := hp.out
          have e1 : h = H := by omega
          have e2 : l = L := by omega
          rw [e1, e2]; exact ⟨rfl, rfl⟩
        by_cases hc : X ≤ r * 18446744073709551616 + u2
        · have hE : Hid (q = T) := by
            unfold Hid
            refine Nat.le_antisymm ?_ hTq
            rw [← hT.out]
            exact trial_low q r u0 u1 u2 u0 v2 hv hq hinv.out (by rw [hX.out]; exact hc)
          by_cases hHr : H < r
          · clear hc
            go_wp2_with (first | (go_at_call 177; refine (HM _).mono ?_; rintro e w' ⟨rfl, rfl⟩))
            go_ret2
            exact ⟨f, by rw [← hE.out]; rfl, hext⟩
          · have hHe : H = r ∧ L ≤ u2 := by have := HX2.out; omega
            obtain ⟨hH1, hH2⟩ := hHe
            subst hH1
            clear hc
            go_wp2_with (first | (go_at_call 177; refine (HM _).mono ?_; rintro e w' ⟨rfl, rfl⟩))
            go_ret2
            exact ⟨f, by rw [← hE.out]; rfl, hext⟩
        · have hlt : T < q := by rw [← hT.out]; exact trial_high q r u0 u1 u2 u0 v2 hinv.out (by rw [hX.out]; omega)
          have hq1 : (1 : Int) ≤ q := by omega
          have HE2 : Hid (∀ s c : Nat, s + 18446744073709551616 * c = r + u0 + 0 → (q - 1) * u0 + (s + 18446744073709551616 * c) = u0 * 18446744073709551616 + u1) := fun s c h => by
            have := hinv.out
            obtain ⟨j, rfl⟩ : ∃ j, q = j + 1 := ⟨q - 1, by omega⟩
            rw [Nat.add_mul, Nat.one_mul] at this
            rw [Nat.add_sub_cancel]
            generalize j * u0 = A at *
            omega
          by_cases hHr : r < H
          · clear hc
            go_wp2_with (first | (go_at_call 177; refine (HM _).mono ?_; rintro e w' ⟨rfl, rfl⟩) | (go_at_call 178; refine (mAdd64 r u0 0 hr g1 (by omega) _).mono ?_; rintro e w' ⟨s1, c1, rfl, i1, j1, n1, rfl⟩))
            exact ⟨⟨q - 1, s1, c1, _, int_eq (by omega), rfl, rfl, rfl, by omega, i1, j1, HE2.out s1 c1 n1.out, by omega⟩, by simp [intOf]; omega⟩
          · have hHe : H = r ∧ u2 < L := by have := HX2.out; omega
            obtain ⟨hH1, hH2⟩ := hHe
            subst hH1
            clear hc
            go_wp2_with (first | (go_at_call 177; refine (HM _).mono ?_; rintro e w' ⟨rfl, rfl⟩) | (go_at_call 178; refine (mAdd64 H u0 0 hr g1 (by omega) _).mono ?_; rintro e w' ⟨s1, c1, rfl, i1, j1, n1, rfl⟩))
            exact ⟨⟨q - 1, s1, c1, _, int_eq (by omega), rfl, rfl, rfl, by omega, i1, j1, HE2.out s1 c1 n1.out, by omega⟩, by simp [intOf]; omega⟩
end Go.Proofs.YgvahwGreat
