import Derived.Test.YgvahwGreatDivF
namespace Go.Proofs.YgvahwGreat
open Go.RowKit

theorem mid_get (p a s : List Nat) (j k : Nat) (hp : p.length = j) (hk : k < a.length) (h : j + k < (p ++ a ++ s).length) : (p ++ a ++ s)[j + k] = a[k] := by
  subst hp
  rw [List.getElem_append_left (by simp; omega), List.getElem_append_right (by omega)]
  simp
theorem mid_set (p d a s : List Nat) (j k v : Nat) (hp : p.length = j) (hd : d.length = k) (hk : k < a.length) : (p ++ (d ++ a.drop k) ++ s).set (j + k) v = p ++ ((d ++ [v]) ++ a.drop (k + 1)) ++ s := by
  subst hp; subst hd
  obtain ⟨x, hx⟩ : ∃ x, a.drop d.length = x :: a.drop (d.length + 1) := ⟨_, List.drop_eq_getElem_cons hk⟩
  rw [hx, List.append_assoc, List.set_append_right _ _ (by omega), Nat.add_sub_cancel_left, List.append_assoc, List.set_append_right _ _ (by omega), Nat.sub_self]
  simp

/-- One limb taken. -/
theorem take_step (q x u lo hi cy bo d k V A D B : Nat) (h1 : lo + 18446744073709551616 * hi = q * x + cy + 0) (h2 : d + lo + bo = u + 18446744073709551616 * k) (h : D + q * V = A + B * (cy + bo)) :
    (D + B * d) + q * (V + B * x) = (A + B * u) + B * 18446744073709551616 * (hi + k) := by
  have e : d + q * x + cy + bo = u + 18446744073709551616 * (hi + k) := by
    generalize q * x = X at *
    omega
  have e2 : B * (d + q * x + cy + bo) = B * u + B * 18446744073709551616 * (hi + k) := by rw [e, Nat.mul_add, Nat.mul_assoc]
  have e3 : B * (d + q * x + cy + bo) = B * d + B * (q * x) + B * (cy + bo) := by rw [Nat.mul_add, Nat.mul_add, Nat.mul_add, Nat.mul_add, Nat.add_assoc]
  rw [Nat.mul_add, Nat.mul_left_comm q B x]
  rw [e3] at e2
  generalize B * 18446744073709551616 * (hi + k) = Z1 at *
  generalize B * (q * x) = Z2 at *
  generalize B * (cy + bo) = Z3 at *
  generalize B * d = Z4 at *
  generalize B * u = Z5 at *
  generalize q * V = Z6 at *
  omega
theorem take_last (u cy bo d k X A D B : Nat) (h2 : d + cy + bo = u + 18446744073709551616 * k) (h : D + X = A + B * (cy + bo)) :
    (D + B * d) + X = (A + B * u) + B * 18446744073709551616 * k := by
  have e2 : B * (d + (cy + bo)) = B * u + B * 18446744073709551616 * k := by rw [← Nat.add_assoc, h2, Nat.mul_add, Nat.mul_assoc]
  rw [Nat.mul_add] at e2
  generalize B * 18446744073709551616 * k = Z1 at *
  generalize B * (cy + bo) = Z3 at *
  generalize B * d = Z4 at *
  generalize B * u = Z5 at *
  omega

set_option maxHeartbeats 3200000 in
theorem uTakeTimes (g h j n q : Nat) (t t' : TypeId) (p a s b r : List Nat) (w : World) (hp : p.length = j) (ha : a.length = n + 1) (hb : b.length = n) (hn : n ≤ 8) (hgh : g ≠ h) (hq : q < 18446744073709551616)
    (da : L64 a) (db : L64 b) (hu : UB w g t (p ++ a ++ s)) (hv : UB w h t' (b ++ r)) :
    Calls Hvah.prog 435 #[.slice (some ⟨g, j, none⟩) (n + 1 : Nat) (n + 1 : Nat), .slice (some ⟨h, 0, none⟩) n n, .int .u64 q] w fun e w' => ∃ (a' : List Nat) (k : Nat), e = .returned (.bool (k != 0)) ∧ k ≤ 1 ∧ a'.length = n + 1 ∧ L64 a' ∧ Hid (lv a' + q * lv b = lv a + Bn (n + 1) * k) ∧ UB w' g t (p ++ a' ++ s) ∧ Mod (· = g) w w' := by
  have hni : (n : Int) ≤ 8 := by omega
  go_enter Hvah.func435, Hvah.ntmps435
  go_wp2
  go_loopw [7, 8, 19] (fun cy bo ix wr => ∃ (k cv bv : Nat) (d : List Nat), k ≤ n ∧ ix = .int .i64 k ∧ cy = .int .u64 cv ∧ bo = .int .u64 bv ∧ cv < 18446744073709551616 ∧ bv ≤ 1 ∧ d.length = k ∧ L64 d ∧ Hid (lv d + q * lv (b.take k) = lv (a.take k) + Bn k * (cv + bv)) ∧ UB wr g t (p ++ (d ++ a.drop k) ++ s) ∧ Mod (· = g) w wr) (fun _ _ ix _ => n - (intOf ix).toNat)
  case atStart => exact ⟨0, 0, 0, [], by omega, rfl, rfl, rfl, by omega, by omega, rfl, L64.nil, by simp [Hid, lv], by simpa using hu, Mod.refl _ _⟩
  case round =>
    obtain ⟨k, cv, bv, d, hk, rfl, rfl, rfl, hcv, hbv, hdl, hdd, hinv, hug, hm⟩ := hrel
    by_cases hlt : k < n
    · have hka : k < a.length := by omega
      have hkb : k < b.length := by omega
      have HS : Hid (∀ v, (p ++ (d ++ a.drop k) ++ s).set (j + k) v = p ++ ((d ++ [v]) ++ a.drop (k + 1)) ++ s) := fun v => mid_set p d a s j k v hp hdl hka
      have HTa : Hid (lv (a.take (k + 1)) = lv (a.take k) + Bn k * a[k]) := lv_take_succ a k hka
      have HTb : Hid (lv (b.take (k + 1)) = lv (b.take k) + Bn k * b[k]) := lv_take_succ b k hkb
      have hxa := da _ (List.getElem_mem hka)
      have hxb := db _ (List.getElem_mem hkb)
      have hbs : (b ++ r)[k]'(by simp; omega) = b[k] := List.getElem_append_left hkb
      have hv1 := hv.mod hm (fun q => hgh q.symm)
      have c1 := hv1.cell k (by simp; omega)
      rw [hbs] at c1
      have hug0 : (p ++ (d ++ a.drop k) ++ s)[j + k]'(by simp; omega) = a[k] := by
        rw [mid_get p (d ++ a.drop k) s j k hp (by simp; omega), List.getElem_append_right (by omega)]
        simp [hdl]
      have c2 := hug.cell (j + k) (by simp; omega)
      rw [hug0] at c2
      have f2 := hug.fz (j + k)
      clear hbs hug0
      generalize a[k] = x at *
      generalize b[k] = y at *
      have hki : (k : Int) < n := by omega
      go_wp2_with (first | (go_at_call 414; refine (uMulAdd q y cv 0 _ hq hxb hcv (by omega)).mono ?_; rintro e w1 ⟨lo, hi, rfl, hlo, hhi, hma, rfl⟩) | (go_at_call 255; refine (mSub64 x lo bv hxa hlo hbv _).mono ?_; rintro e w2 ⟨dd, kk, rfl, hdd2, hkk, hsub, rfl⟩))
      refine ⟨⟨k + 1, hi, kk, d ++ [dd], by omega, int_eq (by omega), rfl, rfl, hhi, hkk, by simp [hdl], hdd.snoc hdd2, ?_, ?_, hm.setCell (Or.inl rfl) _⟩, by simp [intOf]; omega⟩
      · unfold Hid
        rw [lv_snoc, hdl, HTa.out, HTb.out, Bn_succ]
        exact take_step q y x lo hi cv bv dd kk _ _ _ _ hma.out hsub.out hinv.out
      · have := hug.set (j + k) dd
        rw [HS.out] at this
        exact this
    · have hkn : k = n := by omega
      subst hkn
      have hka : k < a.length := by omega
      have HS : Hid (∀ v, (p ++ (d ++ a.drop k) ++ s).set (j + k) v = p ++ ((d ++ [v]) ++ a.drop (k + 1)) ++ s) := fun v => mid_set p d a s j k v hp hdl hka
      have HTa : Hid (lv (a.take (k + 1)) = lv (a.take k) + Bn k * a[k]) := lv_take_succ a k hka
      have hxa := da _ (List.getElem_mem hka)
      have hug0 : (p ++ (d ++ a.drop k) ++ s)[j + k]'(by simp; omega) = a[k] := by
        rw [mid_get p (d ++ a.drop k) s j k hp (by simp; omega), List.getElem_append_right (by omega)]
        simp [hdl]
      have c2 := hug.cell (j + k) (by simp; omega)
      rw [hug0] at c2
      have f2 := hug.fz (j + k)
      clear hug0
      generalize a[k] = x at *
      go_wp2_with (first | (go_at_call 255; refine (mSub64 x cv bv hxa hcv hbv _).mono ?_; rintro e w2 ⟨dd, kk, rfl, hdd2, hkk, hsub, rfl⟩))
      go_ret
      refine ⟨d ++ [dd], kk, ?_, hkk, by simp [hdl], hdd.snoc hdd2, ?_, ?_, hm.setCell (Or.inl rfl) _⟩
      · congr 2
        by_cases q0 : kk = 0
        · subst q0; rfl
        · have : kk = 1 := by omega
          subst this; rfl
      · have ta : a.take (k + 1) = a := List.take_of_length_le (by omega)
        have tb : b.take k = b := List.take_of_length_le (by omega)
        have h1 := HTa.out
        have h2 := hinv.out
        rw [ta] at h1
        rw [tb] at h2
        unfold Hid
        rw [lv_snoc, hdl, h1, Bn_succ]
        exact take_last x cv bv dd kk _ _ _ _ hsub.out h2
      · have := hug.set (j + k) dd
        rw [HS.out, List.drop_of_length_le (by omega), List.append_nil] at this
        exact this
end Go.Proofs.YgvahwGreat
