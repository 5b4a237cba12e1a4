import Derived.Test.YgvahwGreatDivJ
namespace Go.Proofs.YgvahwGreat
open Go.RowKit
set_option maxHeartbeats 1600000 in
theorem uShiftUp17 (g s n : Nat) (t : TypeId) (l : List Nat) (w : World) (hl : l.length = n) (hd : L64 l) (hs : s < 64) (hn : n ≤ 17) (hrow : w.heap[g]? = some (.cells (ucells l).toArray t (0, 0))) :
    Calls Hvah.prog 411 #[.slice (some ⟨g, 0, none⟩) n n, .int .u8 s] w fun e w' => ∃ l' c, e = .returned (.tuple #[]) ∧ l'.length = n ∧ L64 l' ∧ Hid (lv l' + Bn n * c = lv l * 2 ^ s) ∧ w'.heap[g]? = some (.cells (ucells l').toArray t (0, 0)) ∧ Upd g w w' := by
  have hsi : (s : Int) < 64 := by omega
  go_enter Hvah.func411, Hvah.ntmps411
  go_wp2
  go_loopw [4, 11] (fun cy i wr => ∃ (k c : Nat) (p : List Nat), k ≤ n ∧ i = .int .i64 k ∧ cy = .int .u64 c ∧ c < 2 ^ s ∧ p.length = k ∧ L64 p ∧ Hid (lv p + Bn k * c = lv (l.take k) * 2 ^ s) ∧ wr.heap[g]? = some (.cells (ucells (p ++ l.drop k)).toArray t (0, 0)) ∧ Upd g w wr) (fun _ i _ => n - (intOf i).toNat)
  case atStart => exact ⟨0, 0, [], by omega, rfl, rfl, Nat.two_pow_pos s, rfl, L64.nil, by simp [Hid, lv, Bn], hrow, Upd.refl _ _⟩
  case round =>
    obtain ⟨k, c, p, hk, rfl, rfl, hc, hp, hpd, hv, hr, hu⟩ := hrel
    by_cases hlt : k < n
    · have hkl : k < l.length := by omega
      have hx := hd _ (List.getElem_mem hkl)
      have hdr : l.drop k = l[k] :: l.drop (k + 1) := (List.drop_eq_getElem_cons hkl)
      have ht := lv_take_succ l k hkl
      have cg := cell_urow hr k (by simp; omega)
      have fg := frozen_urow hr k
      have ce : (p ++ l.drop k)[k]'(by simp; omega) = l[k] := by simp [hp]
      rw [ce] at cg
      have HT : Hid (_ = _) := ht
      have HS : Hid (∀ v, (wr.setCell ⟨g, k, none⟩ (.int .u64 (v : Nat))).heap[g]? = some (.cells (ucells ((p ++ [v]) ++ l.drop (k + 1))).toArray t (0, 0))) := fun v => by
        rw [heap_setU hr k v, hdr, set_mid6 p _ k _ v hp]
      clear ht ce hdr
      generalize l[k] = x at *
      obtain ⟨e1, e2, e3, e4⟩ := up_step x c s hx hs hc
      have E4 : Hid (_ = _) := e4
      obtain ⟨v, hvv⟩ : ∃ v, Hid (x * 2 ^ s % 18446744073709551616 + c = v) := ⟨_, rfl⟩
      rw [hvv.out] at e1 e2
      have ex : ((x : Int) / 2 ^ (64 - s)) = ((x / 2 ^ (64 - s) : Nat) : Int) := by rw [Int.natCast_ediv, Int.natCast_pow]; rfl
      have EX : Hid (_ = _) := ex
      clear e4 ex
      go_wp2
      refine ⟨⟨k + 1, x / 2 ^ (64 - s), p ++ [v], by omega, int_eq (by omega), int_eq EX.out, e3, by simp [hp], hpd.snoc e2, ?_, HS.out v, hu.setCell _ _⟩, by simp [intOf]; omega⟩
      unfold Hid
      rw [lv_snoc, hp, HT.out, Bn_succ, Nat.add_mul, ← hv.out, ← hvv.out, Nat.mul_assoc (Bn k) x]
      have h := E4.out
      clear e1 e2 E4 EX e3 hvv
      generalize x * 2 ^ s % 18446744073709551616 = r at *
      generalize x / 2 ^ (64 - s) = q at *
      rw [h, Nat.mul_add, Nat.mul_add, Nat.mul_assoc]
      omega
    · have : k = n := by omega
      subst this
      rw [List.take_of_length_le (by omega)] at hv
      rw [List.drop_of_length_le (by omega), List.append_nil] at hr
      go_wp2
      go_end0
      exact ⟨p, c, rfl, hp, hpd, hv, hr, hu⟩
end Go.Proofs.YgvahwGreat
