import Derived.Test.YgvahwGreatDivG
namespace Go.Proofs.YgvahwGreat
open Go.RowKit

theorem back_step (x y cv s c A V D B : Nat) (h1 : s + 18446744073709551616 * c = x + y + cv) (h : D + B * cv = A + V) :
    (D + B * s) + B * 18446744073709551616 * c = (A + B * x) + (V + B * y) := by
  have e : B * (s + 18446744073709551616 * c) = B * x + B * y + B * cv := by rw [h1, Nat.mul_add, Nat.mul_add]
  rw [Nat.mul_add, ← Nat.mul_assoc] at e
  generalize B * 18446744073709551616 * c = Z1 at *
  generalize B * s = Z2 at *
  generalize B * x = Z3 at *
  generalize B * y = Z4 at *
  generalize B * cv = Z5 at *
  omega

set_option maxHeartbeats 3200000 in
theorem uPutBack (g h j n : Nat) (t t' : TypeId) (p a s b r : List Nat) (w : World) (hp : p.length = j) (ha : a.length = n + 1) (hb : b.length = n) (hn : n ≤ 8) (hgh : g ≠ h)
    (da : L64 a) (db : L64 b) (hu : UB w g t (p ++ a ++ s)) (hv : UB w h t' (b ++ r)) :
    Calls Hvah.prog 436 #[.slice (some ⟨g, j, none⟩) (n + 1 : Nat) (n + 1 : Nat), .slice (some ⟨h, 0, none⟩) n n] w fun e w' => ∃ (a' : List Nat) (k : Nat), e = .returned (.tuple #[]) ∧ a'.length = n + 1 ∧ L64 a' ∧ Hid (lv a' + Bn (n + 1) * k = lv a + lv b) ∧ UB w' g t (p ++ a' ++ s) ∧ Mod (· = g) w w' := by
  have hni : (n : Int) ≤ 8 := by omega
  go_enter Hvah.func436, Hvah.ntmps436
  go_wp2
  go_loopw [4, 11] (fun cy ix wr => ∃ (k cv : Nat) (d : List Nat), k ≤ n ∧ ix = .int .i64 k ∧ cy = .int .u64 cv ∧ cv ≤ 1 ∧ d.length = k ∧ L64 d ∧ Hid (lv d + Bn k * cv = lv (a.take k) + lv (b.take k)) ∧ UB wr g t (p ++ (d ++ a.drop k) ++ s) ∧ Mod (· = g) w wr) (fun _ ix _ => n - (intOf ix).toNat)
  case atStart => exact ⟨0, 0, [], by omega, rfl, rfl, by omega, rfl, L64.nil, by simp [Hid, lv], by simpa using hu, Mod.refl _ _⟩
  case round =>
    obtain ⟨k, cv, d, hk, rfl, rfl, hcv, hdl, hdd, hinv, hug, hm⟩ := hrel
    by_cases hlt : k < n
    · have hka : k < a.length := by omega
      have hkb : k < b.length := by omega
      have HS : Hid (∀ v, (p ++ (d ++ a.drop k) ++ s).set (j + k) v = p ++ ((d ++ [v]) ++ a.drop (k + 1)) ++ s) := fun v => mid_set p d a s j k v hp hdl hka
      have HTa : Hid (lv (a.take (k + 1)) = lv (a.take k) + Bn k * a[k]) := lv_take_succ a k hka
      have HTb : Hid (lv (b.take (k + 1)) = lv (b.take k) + Bn k * b[k]) := lv_take_succ b k hkb
      have hxa := da _ (List.getElem_mem hka)
      have hxb := db _ (List.getElem_mem hkb)
      have hbs : (b ++ r)[k]'(by simp; omega) = b[k] := List.getElem_append_left hkb
      have hv1 := hv.mod hm (fun q => hgh q.symm)
      have c1 := hv1.cell k (by simp; omega)
      rw [hbs] at c1
      have hug0 : (p ++ (d ++ a.drop k) ++ s)[j + k]'(by simp; omega) = a[k] := by
        rw [mid_get p (d ++ a.drop k) s j k hp (by simp; omega), List.getElem_append_right (by omega)]
        simp [hdl]
      have c2 := hug.cell (j + k) (by simp; omega)
      rw [hug0] at c2
      have f2 := hug.fz (j + k)
      clear hbs hug0
      generalize a[k] = x at *
      generalize b[k] = y at *
      have hki : (k : Int) < n := by omega
      go_wp2_with (first | (go_at_call 178; refine (mAdd64 x y cv hxa hxb hcv _).mono ?_; rintro e w2 ⟨dd, kk, rfl, hdd2, hkk, hadd, rfl⟩))
      refine ⟨⟨k + 1, kk, d ++ [dd], by omega, int_eq (by omega), rfl, hkk, by simp [hdl], hdd.snoc hdd2, ?_, ?_, hm.setCell (Or.inl rfl) _⟩, by simp [intOf]; omega⟩
      · unfold Hid
        rw [lv_snoc, hdl, HTa.out, HTb.out, Bn_succ]
        exact back_step x y cv dd kk _ _ _ _ hadd.out hinv.out
      · have := hug.set (j + k) dd
        rw [HS.out] at this
        exact this
    · have hkn : k = n := by omega
      subst hkn
      have hka : k < a.length := by omega
      have HS : Hid (∀ v, (p ++ (d ++ a.drop k) ++ s).set (j + k) v = p ++ ((d ++ [v]) ++ a.drop (k + 1)) ++ s) := fun v => mid_set p d a s j k v hp hdl hka
      have HTa : Hid (lv (a.take (k + 1)) = lv (a.take k) + Bn k * a[k]) := lv_take_succ a k hka
      have hxa := da _ (List.getElem_mem hka)
      have hug0 : (p ++ (d ++ a.drop k) ++ s)[j + k]'(by simp; omega) = a[k] := by
        rw [mid_get p (d ++ a.drop k) s j k hp (by simp; omega), List.getElem_append_right (by omega)]
        simp [hdl]
      have c2 := hug.cell (j + k) (by simp; omega)
      rw [hug0] at c2
      have f2 := hug.fz (j + k)
      clear hug0
      generalize a[k] = x at *
      go_wp2
      go_end0
      have hw : IntKind.u64.wrap ((x : Int) + cv) = (((x + cv) % 18446744073709551616 : Nat) : Int) := by rw [IntKind.wrap_u64]; omega
      rw [hw]
      have hadd : (x + cv) % 18446744073709551616 + 18446744073709551616 * ((x + cv) / 18446744073709551616) = x + 0 + cv := by omega
      have hdd2 : (x + cv) % 18446744073709551616 < 18446744073709551616 := Nat.mod_lt _ (by decide)
      clear hw
      generalize (x + cv) % 18446744073709551616 = dd at *
      generalize (x + cv) / 18446744073709551616 = kk at *
      refine ⟨d ++ [dd], kk, rfl, by simp [hdl], hdd.snoc hdd2, ?_, ?_, hm.setCell (Or.inl rfl) _⟩
      · have ta : a.take (k + 1) = a := List.take_of_length_le (by omega)
        have tb : b.take k = b := List.take_of_length_le (by omega)
        have h1 := HTa.out
        have h2 := hinv.out
        rw [ta] at h1
        rw [tb] at h2
        unfold Hid
        rw [lv_snoc, hdl, h1, Bn_succ]
        have := back_step x 0 cv dd kk _ _ _ _ hadd h2
        rw [Nat.mul_zero, Nat.add_zero] at this
        exact this
      · have := hug.set (j + k) dd
        rw [HS.out, List.drop_of_length_le (by omega), List.append_nil] at this
        exact this
end Go.Proofs.YgvahwGreat
