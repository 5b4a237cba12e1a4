import Derived.Test.YgvahwGreatDivH
import Derived.Test.YgvahwGreatDivI
namespace Go.Proofs.YgvahwGreat
open Go.RowKit

theorem top_le (a b : List Nat) (n : Nat) (ha : a.length = n + 2) (hb : b.length = n + 1) (db : L64 b) (hlt : lv a < lv b * 18446744073709551616) : (a[n + 1]'(by omega)) ≤ (b[n]'(by omega)) := by
  apply Decidable.byContradiction
  intro hn
  have h1 : lv a = lv (a.take (n + 1)) + Bn (n + 1) * (a[n + 1]'(by omega)) := by
    have := lv_take_succ a (n + 1) (by omega)
    rw [List.take_of_length_le (by omega)] at this
    exact this
  have h2 : lv b = lv (b.take n) + Bn n * (b[n]'(by omega)) := by
    have := lv_take_succ b n (by omega)
    rw [List.take_of_length_le (by omega)] at this
    exact this
  have h3 : lv (b.take n) < Bn n := by
    have := lv_lt (b.take n) (fun d hd => db d (List.mem_of_mem_take hd))
    rw [List.length_take, Nat.min_eq_left (by omega)] at this
    exact this
  generalize a[n + 1]'_ = x at *
  generalize b[n]'_ = y at *
  have h4 : Bn (n + 1) * (y + 1) ≤ Bn (n + 1) * x := Nat.mul_le_mul_left _ (by omega)
  rw [Bn_succ, Nat.mul_add, Nat.mul_one] at h4
  have h5 : lv b * 18446744073709551616 < (Bn n * y + Bn n) * 18446744073709551616 := Nat.mul_lt_mul_of_pos_right (by omega) (by decide)
  rw [Nat.add_mul] at h5
  have h6 : Bn n * 18446744073709551616 * y = Bn n * y * 18446744073709551616 := by rw [Nat.mul_assoc, Nat.mul_comm 18446744073709551616 y, ← Nat.mul_assoc]
  rw [Bn_succ] at h1
  omega

theorem back_fin (x Z k R c : Nat) (hc : c = R + Z) (q : x + Z * k = c) (hx : x < Z) (hR : R < Z) : x = R := by
  subst hc
  have hk : k = 0 ∨ k = 1 ∨ 2 ≤ k := by omega
  rcases hk with rfl | rfl | hk
  · omega
  · omega
  · have : Z * 2 ≤ Z * k := Nat.mul_le_mul_left _ hk
    omega
theorem trialQ_lt (x0 x1 x2 y1 y2 : Nat) : trialQ x0 x1 x2 y1 y2 < 18446744073709551616 := Nat.lt_of_le_of_lt (Nat.min_le_left _ _) (by decide)
theorem knuth_list (a b : List Nat) (m : Nat) (ha : a.length = m + 3) (hb : b.length = m + 2) (da : L64 a) (db : L64 b) (htop : 9223372036854775808 ≤ b[m + 1]'(by omega)) (hlt : lv a < lv b * 18446744073709551616) :
    trialQ (a[m + 2]'(by omega)) (a[m + 1]'(by omega)) (a[m]'(by omega)) (b[m + 1]'(by omega)) (b[m]'(by omega)) = lv a / lv b ∨ trialQ (a[m + 2]'(by omega)) (a[m + 1]'(by omega)) (a[m]'(by omega)) (b[m + 1]'(by omega)) (b[m]'(by omega)) = lv a / lv b + 1 := by
  have hA3 := lv_top3 a m ha
  have hB2 := lv_top2 b m hb
  have hat := lv_lt (a.take m) (fun d hd => da d (List.mem_of_mem_take hd))
  have hbt := lv_lt (b.take m) (fun d hd => db d (List.mem_of_mem_take hd))
  rw [List.length_take, Nat.min_eq_left (by omega)] at hat hbt
  rw [hA3, hB2] at hlt ⊢
  exact knuth_trial _ _ _ _ _ (Bn m) _ _ (Bn_pos m) hat hbt htop hlt

theorem uTake0 (g h j n T R : Nat) (t t' : TypeId) (p a s b r : List Nat) (w : World) (hp : p.length = j) (ha : a.length = n + 1) (hb : b.length = n) (hn : n ≤ 8) (hgh : g ≠ h) (hq : T < 18446744073709551616)
    (da : L64 a) (db : L64 b) (hu : UB w g t (p ++ a ++ s)) (hv : UB w h t' (b ++ r)) (hA : lv a = T * lv b + R) (hr : R < lv b) :
    Calls Hvah.prog 435 #[.slice (some ⟨g, j, none⟩) (n + 1 : Nat) (n + 1 : Nat), .slice (some ⟨h, 0, none⟩) n n, .int .u64 T] w fun e w' => ∃ a' : List Nat, e = .returned (.bool false) ∧ a'.length = n + 1 ∧ L64 a' ∧ Hid (lv a' = R) ∧ UB w' g t (p ++ a' ++ s) ∧ Mod (· = g) w w' := by
  refine (uTakeTimes g h j n T t t' p a s b r w hp ha hb hn hgh hq da db hu hv).mono ?_
  rintro e w2 ⟨a', k, he, hk, hal, had, hinv, hu2, hm2⟩
  have hlt2 := lv_lt a' had
  rw [hal] at hlt2
  have hx := round_take (lv a) (lv b) T T R (Bn (n + 1)) (lv a') k hA hr (Or.inl rfl) hinv.out hlt2 hk
  have hk0 : k = 0 ∧ lv a' = R := by
    rcases hx with q | q
    · exact ⟨q.1, q.2.2⟩
    · exact absurd q.2.1 (by omega)
  rw [hk0.1] at he
  exact ⟨a', he, hal, had, hk0.2, hu2, hm2⟩
theorem uTake1 (g h j n Q R : Nat) (t t' : TypeId) (p a s b r : List Nat) (w : World) (hp : p.length = j) (ha : a.length = n + 1) (hb : b.length = n) (hn : n ≤ 8) (hgh : g ≠ h) (hq : Q + 1 < 18446744073709551616)
    (da : L64 a) (db : L64 b) (hu : UB w g t (p ++ a ++ s)) (hv : UB w h t' (b ++ r)) (hA : lv a = Q * lv b + R) (hr : R < lv b) :
    Calls Hvah.prog 435 #[.slice (some ⟨g, j, none⟩) (n + 1 : Nat) (n + 1 : Nat), .slice (some ⟨h, 0, none⟩) n n, .int .u64 (Q + 1 : Nat)] w fun e w' => ∃ a' : List Nat, e = .returned (.bool true) ∧ a'.length = n + 1 ∧ L64 a' ∧ Hid (lv a' + lv b = R + Bn (n + 1)) ∧ UB w' g t (p ++ a' ++ s) ∧ Mod (· = g) w w' := by
  refine (uTakeTimes g h j n (Q + 1) t t' p a s b r w hp ha hb hn hgh hq da db hu hv).mono ?_
  rintro e w2 ⟨a', k, he, hk, hal, had, hinv, hu2, hm2⟩
  have hlt2 := lv_lt a' had
  rw [hal] at hlt2
  have hx := round_take (lv a) (lv b) (Q + 1) Q R (Bn (n + 1)) (lv a') k hA hr (Or.inr rfl) hinv.out hlt2 hk
  have hk0 : k = 1 ∧ lv a' + lv b = R + Bn (n + 1) := by
    rcases hx with q | q
    · exact absurd q.2.1 (by omega)
    · exact ⟨q.1, q.2.2⟩
  rw [hk0.1] at he
  exact ⟨a', he, hal, had, hk0.2, hu2, hm2⟩
theorem uBack (g h j n R : Nat) (t t' : TypeId) (p a s b r : List Nat) (w : World) (hp : p.length = j) (ha : a.length = n + 1) (hb : b.length = n) (hn : n ≤ 8) (hgh : g ≠ h)
    (da : L64 a) (db : L64 b) (hu : UB w g t (p ++ a ++ s)) (hv : UB w h t' (b ++ r)) (hA : lv a + lv b = R + Bn (n + 1)) (hr : R < lv b) :
    Calls Hvah.prog 436 #[.slice (some ⟨g, j, none⟩) (n + 1 : Nat) (n + 1 : Nat), .slice (some ⟨h, 0, none⟩) n n] w fun e w' => ∃ a' : List Nat, e = .returned (.tuple #[]) ∧ a'.length = n + 1 ∧ L64 a' ∧ Hid (lv a' = R) ∧ UB w' g t (p ++ a' ++ s) ∧ Mod (· = g) w w' := by
  refine (uPutBack g h j n t t' p a s b r w hp ha hb hn hgh da db hu hv).mono ?_
  rintro e w2 ⟨a', k, he, hal, had, hinv, hu2, hm2⟩
  have hlt2 := lv_lt a' had
  rw [hal] at hlt2
  have hbl := lv_lt b db
  rw [hb] at hbl
  have hbB : lv b ≤ Bn (n + 1) := by
    rw [Bn_succ]
    exact Nat.le_trans (Nat.le_of_lt hbl) (Nat.le_mul_of_pos_right _ (by decide))
  exact ⟨a', he, hal, had, back_fin _ _ k R _ hA hinv.out hlt2 (Nat.lt_of_lt_of_le hr hbB), hu2, hm2⟩

theorem Ext.mod_trans {S : Nat → Prop} {a b c : World} (h : Ext a b) (k : Mod S b c) : Mod S a c := (h.mod S).trans k
theorem s_step {w a b : World} {S : World → Prop} (s0 : ∀ W, Ext w W → S W) (h : Ext w a ∧ S a) (e : Ext a b) : Ext w b ∧ S b := ⟨h.1.trans e, s0 b (h.1.trans e)⟩
end Go.Proofs.YgvahwGreat
