import Derived.Test.YgvahwGreatDivJ
set_option autoImplicit false
namespace Go.Proofs.YgvahwGreat
open Go

theorem Bn_plus (a b : Nat) : Bn (a + b) = Bn a * Bn b := Nat.pow_add _ _ _
theorem Bn_le {a b : Nat} (h : a ≤ b) : Bn a ≤ Bn b := Nat.pow_le_pow_right (by decide) h
theorem lv_zero : ∀ (l : List Nat), (∀ i, i < l.length → l.getD i 0 = 0) → lv l = 0
  | [], _ => rfl
  | a :: l, h => by
    have h0 := h 0 (by simp)
    have hr := lv_zero l (fun i hi => by have := h (i + 1) (by simp; exact hi); simpa using this)
    simp at h0
    simp [lv, h0, hr]
theorem getD_drop (l : List Nat) (k i : Nat) : (l.drop k).getD i 0 = l.getD (k + i) 0 := by
  simp [List.getD_eq_getElem?_getD]
theorem lv_of_zeros (l : List Nat) (k : Nat) (hk : k ≤ l.length) (h : ∀ i, k ≤ i → i < l.length → l.getD i 0 = 0) : lv l = lv (l.take k) := by
  have e := lv_take_drop l k hk
  rw [lv_zero (l.drop k) (fun i hi => by rw [getD_drop]; exact h _ (by omega) (by simp at hi; omega))] at e
  omega
theorem lv_ge (l : List Nat) (i : Nat) (hi : i < l.length) : Bn i * l.getD i 0 ≤ lv l := by
  have e := lv_take_drop l i (by omega)
  have e2 : l.drop i = l[i] :: l.drop (i + 1) := by simp
  rw [e2] at e
  have e3 : l.getD i 0 = l[i] := by simp [List.getD_eq_getElem?_getD, hi]
  rw [e3]
  simp only [lv] at e
  have : Bn i * l[i] ≤ Bn i * (l[i] + 18446744073709551616 * lv (l.drop (i + 1))) := Nat.mul_le_mul_left _ (by omega)
  omega
theorem zeros_of_lt (l : List Nat) (k : Nat) (h : lv l < Bn k) : ∀ i, k ≤ i → i < l.length → l.getD i 0 = 0 := by
  intro i hi hl
  have h1 := lv_ge l i hl
  have h2 := Bn_le hi
  by_cases h0 : l.getD i 0 = 0
  · exact h0
  · have : Bn i * 1 ≤ Bn i * l.getD i 0 := Nat.mul_le_mul_left _ (by omega)
    omega
theorem lv_take_le (l : List Nat) (k : Nat) (hk : k ≤ l.length) : lv (l.take k) ≤ lv l := by
  have e := lv_take_drop l k hk
  omega

structure DInv (N n V j : Nat) (u : List Nat) : Prop where
  len : u.length = N
  l64 : L64 u
  top : lv (u.drop j) < V
  hz : ∀ i, j + n ≤ i → i < N → u.getD i 0 = 0

theorem DInv.lt {N n V j : Nat} {u : List Nat} (h : DInv N n V j u) (hj : j + n ≤ N) : lv ((u.drop j).take n) < V :=
  Nat.lt_of_le_of_lt (lv_take_le _ _ (by simp [h.len]; omega)) h.top

theorem DInv.step {N n V j : Nat} {u a : List Nat} (h : DInv N n V (j + 1) u) (hj : j + 1 + n ≤ N) (hV : V ≤ Bn n) (hla : a.length = n + 1) (ha : L64 a) (hva : lv a = lv ((u.drop j).take (n + 1)) % V) :
    DInv N n V j (u.take j ++ a ++ u.drop (j + (n + 1))) ∧ lv (u.take j ++ a ++ u.drop (j + (n + 1))) + V * (Bn j * (lv ((u.drop j).take (n + 1)) / V)) = lv u ∧ lv ((u.drop j).take (n + 1)) / V < 18446744073709551616 := by
  have hl := h.len
  have hV0 : 0 < V := Nat.lt_of_le_of_lt (Nat.zero_le _) h.top
  have hr : lv (u.drop (j + (n + 1))) = 0 := lv_zero _ (fun i hi => by rw [getD_drop]; simp at hi; exact h.hz _ (by omega) (by omega))
  have hav : lv a < V := by rw [hva]; exact Nat.mod_lt _ hV0
  have e1 : lv u = lv (u.take j) + Bn j * lv (u.drop j) := lv_take_drop u j (by omega)
  have e2 : lv (u.drop j) = lv ((u.drop j).take (n + 1)) := by
    have := lv_take_drop (u.drop j) (n + 1) (by simp; omega)
    rw [List.drop_drop, hr, Nat.mul_zero, Nat.add_zero] at this
    exact this
  have hmid : lv ((u.drop j).take (n + 1)) < V * 18446744073709551616 := by
    have hd : u.drop j = u[j] :: u.drop (j + 1) := by simp
    have ht := h.top
    have hq : lv (u.drop j) = u[j] + 18446744073709551616 * lv (u.drop (j + 1)) := by rw [hd]; simp only [lv]
    have : u[j] < 18446744073709551616 := h.l64 _ (List.getElem_mem _)
    omega
  generalize hmv : lv ((u.drop j).take (n + 1)) = m at *
  have hdm := Nat.div_add_mod m V
  have e3 : lv (u.take j ++ a ++ u.drop (j + (n + 1))) = lv (u.take j) + Bn j * lv a := by
    rw [lv_append, lv_append, hr]
    simp [show min j u.length = j by omega]
  have e4 : lv ((u.take j ++ a ++ u.drop (j + (n + 1))).drop j) = lv a := by
    have : (u.take j ++ a ++ u.drop (j + (n + 1))).drop j = a ++ u.drop (j + (n + 1)) := by
      rw [List.append_assoc, List.drop_append_of_le_length (by simp; omega)]
      simp
    rw [this, lv_append, hr]; simp
  refine ⟨⟨by simp [hla]; omega, ?_, ?_, ?_⟩, ?_, ?_⟩
  · exact (h.l64.take j |>.append ha).append (h.l64.drop _)
  · rw [e4]; exact hav
  · intro i hi hN
    have hz := zeros_of_lt (u.take j ++ a ++ u.drop (j + (n + 1))) (j + n) (by
      rw [e3, Bn_plus]
      have h1 : lv (u.take j) < Bn j := by
        have := lv_lt (u.take j) (h.l64.take j)
        rwa [List.length_take, show min j u.length = j by omega] at this
      have h2 : Bn j * (lv a + 1) ≤ Bn j * Bn n := Nat.mul_le_mul_left _ (by omega)
      rw [Nat.mul_add] at h2
      omega)
    exact hz i hi (by simp [hla]; omega)
  · rw [e3, e1, e2, hva]
    have : V * (Bn j * (m / V)) = Bn j * (V * (m / V)) := by rw [Nat.mul_left_comm]
    rw [this, Nat.add_assoc, ← Nat.mul_add]
    congr 2
    omega
  · exact (Nat.div_lt_iff_lt_mul hV0).2 (by rw [Nat.mul_comm]; exact hmid)

theorem d_start {M K n top c c' s y : Nat} {x b u' b' : List Nat} (hx : x.length = M) (dx : L64 x) (hxt : ∀ i, top ≤ i → i < M → x.getD i 0 = 0) (htM : top ≤ M)
    (hb : b.length = K) (db : L64 b) (hn : 1 ≤ n) (hnK : n ≤ K) (hbz : ∀ i, n ≤ i → i < K → b.getD i 0 = 0) (hnt : n ≤ top)
    (hy : y = b.getD (n - 1) 0) (hy1 : 9223372036854775808 ≤ y * 2 ^ s) (hy2 : (y + 1) * 2 ^ s ≤ 18446744073709551616) (hs : s < 64)
    (lu : u'.length = M + 1) (du : L64 u') (eu : lv u' + Bn (M + 1) * c = lv (x ++ [0]) * 2 ^ s)
    (lb : b'.length = K) (db' : L64 b') (eb : lv b' + Bn K * c' = lv b * 2 ^ s) :
    lv u' = lv x * 2 ^ s ∧ lv b' = lv b * 2 ^ s ∧ lv (b'.take n) = lv b' ∧ lv b' ≤ Bn n ∧ 9223372036854775808 ≤ b'.getD (n - 1) 0 ∧ (∀ i, n ≤ i → i < K → b'.getD i 0 = 0) ∧ DInv (M + 1) n (lv b') (top - n + 1) u' := by
  have h2s : 2 ^ s ≤ 2 ^ 63 := Nat.pow_le_pow_right (by decide) (by omega)
  have hsp : 0 < 2 ^ s := Nat.pow_pos (by decide)
  have hx0 : lv (x ++ [0]) = lv x := by rw [lv_snoc]; omega
  rw [hx0] at eu
  have hxl : lv x < Bn top := by
    rw [lv_of_zeros x top (by omega) (fun i h1 h2 => hxt i h1 (by omega))]
    have := lv_lt (x.take top) (dx.take _)
    rwa [List.length_take, show min top x.length = top by omega] at this
  have hc : c = 0 := by
    by_cases h0 : c = 0
    · exact h0
    · have h1 : Bn (M + 1) * 1 ≤ Bn (M + 1) * c := Nat.mul_le_mul_left _ (by omega)
      have h2 : Bn top ≤ Bn M := Bn_le htM
      have h3 : lv x * 2 ^ s ≤ Bn M * 2 ^ 63 := Nat.mul_le_mul (by omega) h2s
      rw [Bn_succ] at h1
      have h4 : 0 < Bn M := Bn_pos M
      exfalso
      have e9 : lv u' + Bn M * 18446744073709551616 * c ≤ Bn M * 2 ^ 63 := by rw [← Bn_succ, eu]; exact h3
      omega
  subst hc
  rw [Nat.mul_zero, Nat.add_zero] at eu
  have hbt : lv b = lv (b.take (n - 1)) + Bn (n - 1) * y := by
    rw [lv_of_zeros b n (by omega) (fun i h1 h2 => hbz i h1 (by omega)), show n = (n - 1) + 1 by omega, lv_take_succ b (n - 1) (by omega)]
    simp only [Nat.add_sub_cancel]
    congr 2
    rw [hy]; simp [List.getD_eq_getElem?_getD, show n - 1 < b.length by omega]
  have hbl : lv (b.take (n - 1)) < Bn (n - 1) := by
    have := lv_lt (b.take (n - 1)) (db.take _)
    rwa [List.length_take, show min (n - 1) b.length = n - 1 by omega] at this
  have hBn : Bn n = Bn (n - 1) * 18446744073709551616 := by rw [← Bn_succ, show n - 1 + 1 = n by omega]
  have hup : lv b * 2 ^ s < Bn n := by
    have h1 : lv b + 1 ≤ Bn (n - 1) * (y + 1) := by rw [hbt, Nat.mul_add]; omega
    have h2 : (lv b + 1) * 2 ^ s ≤ Bn (n - 1) * (y + 1) * 2 ^ s := Nat.mul_le_mul_right _ h1
    have h3 : Bn (n - 1) * (y + 1) * 2 ^ s ≤ Bn (n - 1) * 18446744073709551616 := by rw [Nat.mul_assoc]; exact Nat.mul_le_mul_left _ hy2
    rw [Nat.add_mul] at h2
    omega
  have hlo : Bn (n - 1) * 9223372036854775808 ≤ lv b * 2 ^ s := by
    have h1 : Bn (n - 1) * y ≤ lv b := by omega
    have h2 : Bn (n - 1) * y * 2 ^ s ≤ lv b * 2 ^ s := Nat.mul_le_mul_right _ h1
    have h3 : Bn (n - 1) * 9223372036854775808 ≤ Bn (n - 1) * y * 2 ^ s := by rw [Nat.mul_assoc]; exact Nat.mul_le_mul_left _ hy1
    omega
  have hc' : c' = 0 := by
    by_cases h0 : c' = 0
    · exact h0
    · have h1 : Bn K * 1 ≤ Bn K * c' := Nat.mul_le_mul_left _ (by omega)
      have h2 : Bn n ≤ Bn K := Bn_le hnK
      omega
  subst hc'
  rw [Nat.mul_zero, Nat.add_zero] at eb
  have hz' := zeros_of_lt b' n (by omega)
  have hbt' : lv b' = lv (b'.take n) := lv_of_zeros b' n (by omega) hz'
  have hbn' : lv b' = lv (b'.take (n - 1)) + Bn (n - 1) * b'.getD (n - 1) 0 := by
    rw [hbt']
    conv => lhs; rw [show n = (n - 1) + 1 by omega]
    rw [lv_take_succ b' (n - 1) (by omega)]
    simp [List.getD_eq_getElem?_getD, show n - 1 < b'.length by omega]
  have hbl' : lv (b'.take (n - 1)) < Bn (n - 1) := by
    have := lv_lt (b'.take (n - 1)) (db'.take _)
    rwa [List.length_take, show min (n - 1) b'.length = n - 1 by omega] at this
  refine ⟨eu, eb, hbt'.symm, by omega, ?_, fun i h1 h2 => hz' i h1 (by omega), ⟨lu, du, ?_, ?_⟩⟩
  · by_cases hq : 9223372036854775808 ≤ b'.getD (n - 1) 0
    · exact hq
    · have h1 : Bn (n - 1) * (b'.getD (n - 1) 0 + 1) ≤ Bn (n - 1) * 9223372036854775808 := Nat.mul_le_mul_left _ (by omega)
      rw [Nat.mul_add] at h1
      omega
  · have e := lv_take_drop u' (top - n + 1) (by omega)
    have h1 : lv x * 2 ^ s < Bn (top - n + 1) * lv b' := by
      have q1 : Bn top = Bn (top - n + 1) * Bn (n - 1) := by rw [← Bn_plus]; congr 1; omega
      have q2 : Bn (n - 1) ≤ lv b := by
        have : Bn (n - 1) * 1 ≤ Bn (n - 1) * y := Nat.mul_le_mul_left _ (by
          rcases Nat.eq_zero_or_pos y with h | h
          · subst h; omega
          · exact h)
        omega
      have q3 : lv x < Bn (top - n + 1) * lv b := by
        have := Nat.mul_le_mul_left (Bn (top - n + 1)) q2
        omega
      rw [eb, ← Nat.mul_assoc]
      exact Nat.mul_lt_mul_of_pos_right q3 hsp
    have h2 : Bn (top - n + 1) * lv (u'.drop (top - n + 1)) < Bn (top - n + 1) * lv b' := by omega
    exact Nat.lt_of_mul_lt_mul_left h2
  · intro i h1 h2
    refine zeros_of_lt u' (top + 1) ?_ i (by omega) (by omega)
    rw [eu, Bn_succ]
    have h3 : lv x * 2 ^ s ≤ Bn top * 2 ^ 63 := Nat.mul_le_mul (by omega) h2s
    have := Bn_pos top
    omega

theorem d_end {X B U Q m r s : Nat} (h : U + B * 2 ^ s * Q = X * 2 ^ s) (hU : U < B * 2 ^ s) (hr : r * 2 ^ s + m = U) (hm : m < 2 ^ s) : r = X % B ∧ Q = X / B := by
  have hsp : 0 < 2 ^ s := Nat.pow_pos (by decide)
  have h1 : (r + B * Q) * 2 ^ s + m = X * 2 ^ s := by
    rw [← h, ← hr, Nat.add_mul]
    have : B * Q * 2 ^ s = B * 2 ^ s * Q := Nat.mul_right_comm _ _ _
    omega
  have hX : r + B * Q = X := by
    have e1 : ((r + B * Q) * 2 ^ s + m) / 2 ^ s = r + B * Q := by
      rw [Nat.add_comm, Nat.add_mul_div_right _ _ hsp, Nat.div_eq_of_lt hm]; omega
    rw [h1, Nat.mul_div_cancel _ hsp] at e1
    exact e1.symm
  have hrB : r < B := by
    have : r * 2 ^ s < B * 2 ^ s := by omega
    exact Nat.lt_of_mul_lt_mul_right this
  rw [← hX, Nat.add_mul_mod_self_left, Nat.mod_eq_of_lt hrB, Nat.add_mul_div_left _ _ (by omega), Nat.div_eq_of_lt hrB]
  simp

end Go.Proofs.YgvahwGreat
