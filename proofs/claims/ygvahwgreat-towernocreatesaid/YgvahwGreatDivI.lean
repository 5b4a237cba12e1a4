import Derived.Test.YgvahwGreatDivG
namespace Go.Proofs.YgvahwGreat
open Go.RowKit

theorem kn_low (U3 V2 M u v Q : Nat) (hu : u < M) (h : Q * (V2 * M + v) ≤ U3 * M + u) : Q * V2 ≤ U3 := by
  apply Decidable.byContradiction
  intro hn
  have h1 : U3 + 1 ≤ Q * V2 := by omega
  have h2 : (U3 + 1) * M ≤ Q * V2 * M := Nat.mul_le_mul_right M h1
  have h3 : Q * V2 * M ≤ Q * (V2 * M + v) := by rw [Nat.mul_assoc]; exact Nat.mul_le_mul_left Q (Nat.le_add_right _ _)
  have h4 : (U3 + 1) * M = U3 * M + M := Nat.succ_mul _ _
  omega
theorem kn_high (U3 V2 M u v Q T B : Nat) (hv : v < M) (hB : B ≤ V2) (hT : T < B) (hTu : T * V2 ≤ U3) (h : U3 * M + u < (Q + 1) * (V2 * M + v)) : T ≤ Q + 1 := by
  apply Decidable.byContradiction
  intro hn
  have h1 : Q + 2 ≤ T := by omega
  have h2 : (Q + 2) * V2 ≤ U3 := Nat.le_trans (Nat.mul_le_mul_right _ h1) hTu
  have h3 : (Q + 2) * V2 * M ≤ U3 * M := Nat.mul_le_mul_right _ h2
  have h4 : (Q + 1) * (V2 * M + v) ≤ (Q + 1) * ((V2 + 1) * M) := Nat.mul_le_mul_left _ (by rw [Nat.succ_mul]; omega)
  have h5 : (Q + 2) * V2 * M < (Q + 1) * (V2 + 1) * M := by rw [Nat.mul_assoc (Q + 1)]; omega
  have h6 := Nat.lt_of_mul_lt_mul_right h5
  have h7 : (Q + 1) * (V2 + 1) = (Q + 1) * V2 + (Q + 1) := Nat.mul_succ _ _
  have h8 : (Q + 2) * V2 = (Q + 1) * V2 + V2 := Nat.succ_mul _ _
  omega

/-- The trial digit is the digit or one more. -/
theorem knuth_trial0 (T U3 V2 M u v : Nat) (hM : 0 < M) (hu : u < M) (hv : v < M) (hV2 : 18446744073709551616 ≤ V2) (hdef : T = min 18446744073709551615 (U3 / V2))
    (hlt : U3 * M + u < (V2 * M + v) * 18446744073709551616) : T = (U3 * M + u) / (V2 * M + v) ∨ T = (U3 * M + u) / (V2 * M + v) + 1 := by
  have hV : 0 < V2 * M + v := Nat.lt_of_lt_of_le (Nat.mul_pos (by omega) hM) (Nat.le_add_right _ _)
  obtain ⟨Q, hQ⟩ : ∃ Q, (U3 * M + u) / (V2 * M + v) = Q := ⟨_, rfl⟩
  rw [hQ]
  have q1 : Q * (V2 * M + v) ≤ U3 * M + u := by rw [← hQ]; exact Nat.div_mul_le_self _ _
  have q2 : U3 * M + u < (Q + 1) * (V2 * M + v) := by
    have h1 := Nat.div_add_mod (U3 * M + u) (V2 * M + v)
    have h2 := Nat.mod_lt (U3 * M + u) hV
    rw [hQ, Nat.mul_comm] at h1
    rw [Nat.succ_mul]
    omega
  have q3 : Q < 18446744073709551616 := by rw [← hQ]; exact Nat.div_lt_of_lt_mul (by rw [Nat.mul_comm]; rw [Nat.mul_comm]; exact hlt)
  have l1 := kn_low U3 V2 M u v Q hu q1
  have l2 : Q ≤ U3 / V2 := (Nat.le_div_iff_mul_le (by omega)).2 l1
  have l3 : T ≤ U3 / V2 := by rw [hdef]; exact Nat.min_le_right _ _
  have l4 : T ≤ 18446744073709551615 := by rw [hdef]; exact Nat.min_le_left _ _
  have l5 : T * V2 ≤ U3 := (Nat.le_div_iff_mul_le (by omega)).1 l3
  have l6 := kn_high U3 V2 M u v Q T 18446744073709551616 hv hV2 (by omega) l5 q2
  have l7 : Q ≤ T := by rw [hdef]; exact Nat.le_min.2 ⟨by omega, l2⟩
  omega
theorem knuth_trial (u0 u1 u2 v1 v2 M u v : Nat) (hM : 0 < M) (hu : u < M) (hv : v < M) (hv1 : 9223372036854775808 ≤ v1)
    (hlt : ((u0 * 18446744073709551616 + u1) * 18446744073709551616 + u2) * M + u < ((v1 * 18446744073709551616 + v2) * M + v) * 18446744073709551616) :
    trialQ u0 u1 u2 v1 v2 = (((u0 * 18446744073709551616 + u1) * 18446744073709551616 + u2) * M + u) / ((v1 * 18446744073709551616 + v2) * M + v) ∨
    trialQ u0 u1 u2 v1 v2 = (((u0 * 18446744073709551616 + u1) * 18446744073709551616 + u2) * M + u) / ((v1 * 18446744073709551616 + v2) * M + v) + 1 := by
  have hV2 : 18446744073709551616 ≤ v1 * 18446744073709551616 + v2 := by omega
  exact knuth_trial0 _ _ _ M u v hM hu hv hV2 rfl hlt
theorem round_take (A V T Q r Z a k : Nat) (hA : A = Q * V + r) (hr : r < V) (hT : T = Q ∨ T = Q + 1) (h : a + T * V = A + Z * k) (ha : a < Z) (hk : k ≤ 1) : (k = 0 ∧ T = Q ∧ a = r) ∨ (k = 1 ∧ T = Q + 1 ∧ a + V = r + Z) := by
  have hk' : k = 0 ∨ k = 1 := by omega
  rcases hT with rfl | rfl
  · rcases hk' with rfl | rfl
    · left; refine ⟨rfl, rfl, ?_⟩; omega
    · exfalso; omega
  · rw [Nat.succ_mul] at h
    rcases hk' with rfl | rfl
    · exfalso; omega
    · right; refine ⟨rfl, rfl, ?_⟩; omega
theorem top2_ring (T P B x y : Nat) : T + P * y + P * B * x = (x * B + y) * P + T := by
  have e1 : x * B * P = P * B * x := by ac_rfl
  have e2 : y * P = P * y := Nat.mul_comm _ _
  rw [Nat.add_mul, e1, e2]
  omega
theorem top3_ring (T P B x y z : Nat) : T + P * y + P * B * x + P * B * B * z = ((z * B + x) * B + y) * P + T := by
  have e0 : z * B * B * P = P * B * B * z := by ac_rfl
  have e1 : x * B * P = P * B * x := by ac_rfl
  have e2 : y * P = P * y := Nat.mul_comm _ _
  rw [Nat.add_mul, Nat.add_mul, Nat.add_mul, e0, e1, e2]
  omega
theorem lv_top2 (b : List Nat) (n : Nat) (h : b.length = n + 2) : lv b = ((b[n + 1]'(by omega)) * 18446744073709551616 + (b[n]'(by omega))) * Bn n + lv (b.take n) := by
  have h1 : b = b.take (n + 2) := (List.take_of_length_le (by omega)).symm
  have e : lv b = lv (b.take (n + 2)) := by rw [← h1]
  rw [e, lv_take_succ b (n + 1) (by omega), lv_take_succ b n (by omega), Bn_succ]
  generalize b[n + 1]'_ = x
  generalize b[n]'_ = y
  exact top2_ring _ _ _ _ _
theorem lv_top3 (a : List Nat) (n : Nat) (h : a.length = n + 3) : lv a = (((a[n + 2]'(by omega)) * 18446744073709551616 + (a[n + 1]'(by omega))) * 18446744073709551616 + (a[n]'(by omega))) * Bn n + lv (a.take n) := by
  have h1 : a = a.take (n + 3) := (List.take_of_length_le (by omega)).symm
  have e : lv a = lv (a.take (n + 3)) := by rw [← h1]
  rw [e, lv_take_succ a (n + 2) (by omega), lv_take_succ a (n + 1) (by omega), lv_take_succ a n (by omega), Bn_succ (n + 1), Bn_succ n]
  generalize a[n + 2]'_ = z
  generalize a[n + 1]'_ = x
  generalize a[n]'_ = y
  exact top3_ring _ _ _ _ _ _
end Go.Proofs.YgvahwGreat
