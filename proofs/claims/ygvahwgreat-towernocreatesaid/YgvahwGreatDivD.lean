import Derived.Test.YgvahwGreatDivC
namespace Go.Proofs.YgvahwGreat
open Go.RowKit

/-- One limb of a shift down. -/
theorem down_step (x m s : Nat) (hx : x < 18446744073709551616) (hs : s < 64) (hm : m < 2 ^ s) :
    bits .or .u64 ((x : Int) / 2 ^ s) ((m * 2 ^ (64 - s) : Nat) : Int) = ((x / 2 ^ s + m * 2 ^ (64 - s) : Nat) : Int) ∧ x / 2 ^ s + m * 2 ^ (64 - s) < 18446744073709551616 ∧ x % 2 ^ s < 2 ^ s ∧ IntKind.u64.wrap ((x : Int) * 2 ^ (64 - s)) = ((x % 2 ^ s * 2 ^ (64 - s) : Nat) : Int) ∧ x = x / 2 ^ s * 2 ^ s + x % 2 ^ s ∧ m * 2 ^ (64 - s) < 18446744073709551616 ∧ m * 2 ^ (64 - s) * 2 ^ s = 18446744073709551616 * m := by
  have hp : 0 < 2 ^ s := Nat.two_pow_pos s
  have eB2 : (18446744073709551616 : Nat) = 2 ^ s * 2 ^ (64 - s) := by rw [← Nat.pow_add, show s + (64 - s) = 64 by omega]
  have e2 : m * 2 ^ (64 - s) + 2 ^ (64 - s) ≤ 18446744073709551616 := by
    have := Nat.mul_le_mul_right (2 ^ (64 - s)) (Nat.succ_le_of_lt hm)
    rw [Nat.succ_eq_add_one, Nat.add_mul, Nat.one_mul, ← eB2] at this
    exact this
  have e3 : x / 2 ^ s < 2 ^ (64 - s) := by apply Nat.div_lt_of_lt_mul; rw [← eB2]; exact hx
  have ex : ((x : Int) / 2 ^ s) = ((x / 2 ^ s : Nat) : Int) := by rw [Int.natCast_ediv, Int.natCast_pow]; rfl
  have h6 : m * 2 ^ (64 - s) < 18446744073709551616 := by
    have := Nat.two_pow_pos (64 - s)
    generalize 2 ^ (64 - s) = T at *
    generalize m * T = U at *
    omega
  have h2 : x / 2 ^ s + m * 2 ^ (64 - s) < 18446744073709551616 := by
    generalize 2 ^ (64 - s) = T at *
    generalize m * T = U at *
    generalize x / 2 ^ s = V at *
    omega
  refine ⟨?_, h2, Nat.mod_lt _ hp, ?_, ?_, h6, ?_⟩
  · rw [ex, u64_or_nat _ _ (Nat.lt_of_le_of_lt (Nat.div_le_self _ _) hx) h6, Nat.or_comm, or_low (64 - s) _ _ e3, Nat.add_comm]
  · rw [wrap_up]
    congr 1
    conv => lhs; rw [eB2]
    rw [Nat.mul_mod_mul_right]
  · have := Nat.div_add_mod x (2 ^ s)
    rw [Nat.mul_comm] at this
    exact this.symm
  · rw [Nat.mul_assoc, Nat.mul_comm (2 ^ (64 - s)), ← eB2, Nat.mul_comm]

theorem set_low (l q : List Nat) (k v : Nat) (hk : k < l.length) : (l.take (k + 1) ++ q).set k v = l.take k ++ v :: q := by
  rw [List.take_succ_eq_append_getElem hk, List.append_assoc, List.set_append_right _ _ (by simp; omega)]
  have : k - (List.take k l).length = 0 := by simp; omega
  rw [this]; rfl

set_option maxHeartbeats 1600000 in
theorem uShiftDown (g s n : Nat) (t : TypeId) (l : List Nat) (w : World) (hl : l.length = n) (hd : L64 l) (hs : s < 64) (hn : n ≤ 16) (hrow : w.heap[g]? = some (.cells (ucells l).toArray t (0, 0))) :
    Calls Hvah.prog 413 #[.slice (some ⟨g, 0, none⟩) n n, .int .u8 s] w fun e w' => ∃ l' m, e = .returned (.tuple #[]) ∧ l'.length = n ∧ L64 l' ∧ m < 2 ^ s ∧ Hid (lv l' * 2 ^ s + m = lv l) ∧ w'.heap[g]? = some (.cells (ucells l').toArray t (0, 0)) ∧ Upd g w w' := by
  have hsi : (s : Int) < 64 := by omega
  go_enter Hvah.func413, Hvah.ntmps413
  go_wp2
  go_loopw [4, 5] (fun cy i wr => ∃ (k m : Nat) (q : List Nat), k ≤ n ∧ i = .int .i64 k ∧ cy = .int .u64 ((m * 2 ^ (64 - s) : Nat) : Int) ∧ m < 2 ^ s ∧ q.length = n - k ∧ L64 q ∧ Hid (lv q * 2 ^ s + m = lv (l.drop k)) ∧ wr.heap[g]? = some (.cells (ucells (l.take k ++ q)).toArray t (0, 0)) ∧ Upd g w wr) (fun _ i _ => (intOf i).toNat)
  case atStart => exact ⟨n, 0, [], by omega, rfl, by simp, Nat.two_pow_pos s, by simp, L64.nil, by rw [List.drop_of_length_le (by omega)]; simp [Hid, lv], by rw [List.take_of_length_le (by omega), List.append_nil]; exact hrow, Upd.refl _ _⟩
  case round =>
    obtain ⟨k, m, q, hk, rfl, rfl, hm, hq, hqd, hv, hr, hu⟩ := hrel
    by_cases hlt : 0 < k
    · obtain ⟨j, rfl⟩ : ∃ j, k = j + 1 := ⟨k - 1, by omega⟩
      have hkl : j < l.length := by omega
      have hx := hd _ (List.getElem_mem hkl)
      have hdr : l.drop j = l[j] :: l.drop (j + 1) := (List.drop_eq_getElem_cons hkl)
      have cg := cell_urow hr j (by simp; omega)
      have fg := frozen_urow hr j
      have ce : (l.take (j + 1) ++ q)[j]'(by simp; omega) = l[j] := by
        rw [List.getElem_append_left (by simp; omega), List.getElem_take]
      rw [ce] at cg
      have HD : Hid (_ = _) := hdr
      have HS : Hid (∀ v, (wr.setCell ⟨g, j, none⟩ (.int .u64 (v : Nat))).heap[g]? = some (.cells (ucells (l.take j ++ v :: q)).toArray t (0, 0))) := fun v => by
        rw [heap_setU hr j v, set_low l q j v hkl]
      clear ce hdr
      generalize l[j] = x at *
      obtain ⟨e1, e2, e3, e4, e5, e6, e7⟩ := down_step x m s hx hs hm
      obtain ⟨v, hvv⟩ : ∃ v, Hid (x / 2 ^ s + m * 2 ^ (64 - s) = v) := ⟨_, rfl⟩
      rw [hvv.out] at e1 e2
      have E5 : Hid (_ = _) := e5
      have E7 : Hid (_ = _) := e7
      obtain ⟨M, hM⟩ : ∃ M, Hid (m * 2 ^ (64 - s) = M) := ⟨_, rfl⟩
      obtain ⟨M2, hM2⟩ : ∃ M2, Hid (x % 2 ^ s * 2 ^ (64 - s) = M2) := ⟨_, rfl⟩
      rw [hM.out] at e1 e6 ⊢
      rw [hM2.out] at e4
      clear e5 e7
      go_wp2
      refine ⟨⟨j, x % 2 ^ s, v :: q, by omega, int_eq (by omega), int_eq (by rw [hM2.out]), e3, by simp; omega, hqd.cons e2, ?_, HS.out v, hu.setCell _ _⟩, by simp [intOf]⟩
      unfold Hid
      rw [HD.out, lv, lv, ← hv.out, ← hvv.out]
      have h5 := E5.out
      have h7 := E7.out
      rw [Nat.add_mul, Nat.add_mul, h7, Nat.mul_assoc, Nat.mul_add]
      clear HS HD hvv E5 E7 hM hM2 e1 e4 hv cg hr hu
      generalize x / 2 ^ s * 2 ^ s = U at *
      generalize x % 2 ^ s = V at *
      generalize lv q * 2 ^ s = Z at *
      omega
    · have : k = 0 := by omega
      subst this
      rw [List.drop_zero] at hv
      rw [List.take_zero, List.nil_append] at hr
      go_wp2
      go_end0
      exact ⟨q, m, rfl, by omega, hqd, hm, hv, hr, hu⟩
end Go.Proofs.YgvahwGreat
