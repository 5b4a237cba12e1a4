import Derived.Test.YgvahwGreatDivB
namespace Go.Proofs.YgvahwGreat
open Go.RowKit

/-- The number of limbs, the least first. -/
def lv : List Nat → Nat
  | [] => 0
  | d :: l => d + 18446744073709551616 * lv l
/-- All below 2^64. -/
def L64 (l : List Nat) : Prop := ∀ d ∈ l, d < 18446744073709551616
/-- 2^64 to the n. -/
def Bn (n : Nat) : Nat := 18446744073709551616 ^ n
theorem Bn_succ (n : Nat) : Bn (n + 1) = Bn n * 18446744073709551616 := Nat.pow_succ _ _
theorem Bn_pos (n : Nat) : 0 < Bn n := Nat.pow_pos (by decide)
theorem Bn_two (n : Nat) : Bn n = 2 ^ (64 * n) := by rw [Nat.pow_mul]; rfl
theorem lv_append (a b : List Nat) : lv (a ++ b) = lv a + Bn a.length * lv b := by
  induction a with
  | nil => simp [lv, Bn]
  | cons d a ih => rw [List.cons_append, lv, ih, lv, List.length_cons, Bn_succ, Nat.mul_add, Nat.add_assoc, Nat.mul_comm (Bn a.length) 18446744073709551616, Nat.mul_assoc]
theorem lv_snoc (l : List Nat) (d : Nat) : lv (l ++ [d]) = lv l + Bn l.length * d := by rw [lv_append]; simp [lv]
theorem lv_lt (l : List Nat) (h : L64 l) : lv l < Bn l.length := by
  induction l with
  | nil => simp [lv, Bn]
  | cons d l ih =>
    have h1 := h d (by simp)
    have h2 := ih (fun x hx => h x (by simp [hx]))
    rw [lv, List.length_cons, Bn_succ]
    omega
theorem L64.nil : L64 [] := fun _ h => by cases h
theorem L64.snoc {l : List Nat} {d : Nat} (h : L64 l) (hd : d < 18446744073709551616) : L64 (l ++ [d]) := fun x hx => by
  rcases List.mem_append.1 hx with h1 | h1
  · exact h x h1
  · simp at h1; omega
theorem L64.cons {l : List Nat} {d : Nat} (h : L64 l) (hd : d < 18446744073709551616) : L64 (d :: l) := fun x hx => by
  rcases List.mem_cons.1 hx with h1 | h1
  · omega
  · exact h x h1
theorem L64.append {l m : List Nat} (h : L64 l) (h' : L64 m) : L64 (l ++ m) := fun x hx => by
  rcases List.mem_append.1 hx with h1 | h1
  · exact h x h1
  · exact h' x h1
theorem L64.take {l : List Nat} (h : L64 l) (k : Nat) : L64 (l.take k) := fun x hx => h x (List.mem_of_mem_take hx)
theorem L64.drop {l : List Nat} (h : L64 l) (k : Nat) : L64 (l.drop k) := fun x hx => h x (List.mem_of_mem_drop hx)
theorem lv_take_succ (l : List Nat) (k : Nat) (h : k < l.length) : lv (l.take (k + 1)) = lv (l.take k) + Bn k * l[k] := by
  rw [List.take_succ_eq_append_getElem h, lv_snoc, List.length_take, Nat.min_eq_left (by omega)]
theorem lv_take_drop (l : List Nat) (k : Nat) (h : k ≤ l.length) : lv l = lv (l.take k) + Bn k * lv (l.drop k) := by
  conv => lhs; rw [← List.take_append_drop k l]
  rw [lv_append, List.length_take, Nat.min_eq_left h]
theorem set_mid6 (p d : List Nat) (k x v : Nat) (hp : p.length = k) : (p ++ x :: d).set k v = (p ++ [v]) ++ d := by
  subst hp
  rw [List.set_append_right _ _ (Nat.le_refl _), Nat.sub_self]; simp

/-- One limb of a shift up. -/
theorem up_step (x c s : Nat) (hx : x < 18446744073709551616) (hs : s < 64) (hc : c < 2 ^ s) :
    bits .or .u64 (IntKind.u64.wrap ((x : Int) * 2 ^ s)) (c : Int) = ((x * 2 ^ s % 18446744073709551616 + c : Nat) : Int) ∧ x * 2 ^ s % 18446744073709551616 + c < 18446744073709551616 ∧ x / 2 ^ (64 - s) < 2 ^ s ∧ x * 2 ^ s = x * 2 ^ s % 18446744073709551616 + 18446744073709551616 * (x / 2 ^ (64 - s)) := by
  have hp : 0 < 2 ^ s := Nat.two_pow_pos s
  have eB2 : (18446744073709551616 : Nat) = 2 ^ (64 - s) * 2 ^ s := by rw [← Nat.pow_add, show 64 - s + s = 64 by omega]
  have hc2 : 2 ^ s ≤ 9223372036854775808 := by rw [show (9223372036854775808 : Nat) = 2 ^ 63 by decide]; exact Nat.pow_le_pow_right (by decide) (by omega)
  have e1 : x * 2 ^ s % 18446744073709551616 = (x % 2 ^ (64 - s)) * 2 ^ s := by
    conv => lhs; rw [eB2]
    rw [Nat.mul_mod_mul_right]
  have e2 : x % 2 ^ (64 - s) * 2 ^ s + 2 ^ s ≤ 18446744073709551616 := by
    have : x % 2 ^ (64 - s) + 1 ≤ 2 ^ (64 - s) := Nat.mod_lt _ (Nat.two_pow_pos _)
    have := Nat.mul_le_mul_right (2 ^ s) this
    rw [Nat.add_mul, Nat.one_mul, ← eB2] at this
    exact this
  have e3 : x * 2 ^ s / 18446744073709551616 = x / 2 ^ (64 - s) := by
    conv => lhs; rw [eB2]
    rw [Nat.mul_div_mul_right _ _ hp]
  refine ⟨?_, ?_, ?_, ?_⟩
  · rw [wrap_up, u64_or_nat _ _ (Nat.mod_lt _ (by decide)) (by omega), e1, or_low s _ _ hc]
  · rw [e1]; omega
  · apply Nat.div_lt_of_lt_mul; rw [← eB2]; exact hx
  · have := Nat.mod_add_div (x * 2 ^ s) 18446744073709551616
    rw [e3] at this
    exact this.symm

set_option maxHeartbeats 1600000 in
theorem uShiftUp (g s n : Nat) (t : TypeId) (l : List Nat) (w : World) (hl : l.length = n) (hd : L64 l) (hs : s < 64) (hn : n ≤ 16) (hrow : w.heap[g]? = some (.cells (ucells l).toArray t (0, 0))) :
    Calls Hvah.prog 411 #[.slice (some ⟨g, 0, none⟩) n n, .int .u8 s] w fun e w' => ∃ l' c, e = .returned (.tuple #[]) ∧ l'.length = n ∧ L64 l' ∧ Hid (lv l' + Bn n * c = lv l * 2 ^ s) ∧ w'.heap[g]? = some (.cells (ucells l').toArray t (0, 0)) ∧ Upd g w w' := by
  have hsi : (s : Int) < 64 := by omega
  go_enter Hvah.func411, Hvah.ntmps411
  go_wp2
  go_loopw [4, 11] (fun cy i wr => ∃ (k c : Nat) (p : List Nat), k ≤ n ∧ i = .int .i64 k ∧ cy = .int .u64 c ∧ c < 2 ^ s ∧ p.length = k ∧ L64 p ∧ Hid (lv p + Bn k * c = lv (l.take k) * 2 ^ s) ∧ wr.heap[g]? = some (.cells (ucells (p ++ l.drop k)).toArray t (0, 0)) ∧ Upd g w wr) (fun _ i _ => n - (intOf i).toNat)
  case atStart => exact ⟨0, 0, [], by omega, rfl, rfl, Nat.two_pow_pos s, rfl, L64.nil, by simp [Hid, lv, Bn], hrow, Upd.refl _ _⟩
  case round =>
    obtain ⟨k, c, p, hk, rfl, rfl, hc, hp, hpd, hv, hr, hu⟩ := hrel
    by_cases hlt : k < n
    · have hkl : k < l.length := by omega
      have hx := hd _ (List.getElem_mem hkl)
      have hdr : l.drop k = l[k] :: l.drop (k + 1) := (List.drop_eq_getElem_cons hkl)
      have ht := lv_take_succ l k hkl
      have cg := cell_urow hr k (by simp; omega)
      have fg := frozen_urow hr k
      have ce : (p ++ l.drop k)[k]'(by simp; omega) = l[k] := by simp [hp]
      rw [ce] at cg
      have HT : Hid (_ = _) := ht
      have HS : Hid (∀ v, (wr.setCell ⟨g, k, none⟩ (.int .u64 (v : Nat))).heap[g]? = some (.cells (ucells ((p ++ [v]) ++ l.drop (k + 1))).toArray t (0, 0))) := fun v => by
        rw [heap_setU hr k v, hdr, set_mid6 p _ k _ v hp]
      clear ht ce hdr
      generalize l[k] = x at *
      obtain ⟨e1, e2, e3, e4⟩ := up_step x c s hx hs hc
      have E4 : Hid (_ = _) := e4
      obtain ⟨v, hvv⟩ : ∃ v, Hid (x * 2 ^ s % 18446744073709551616 + c = v) := ⟨_, rfl⟩
      rw [hvv.out] at e1 e2
      have ex : ((x : Int) / 2 ^ (64 - s)) = ((x / 2 ^ (64 - s) : Nat) : Int) := by rw [Int.natCast_ediv, Int.natCast_pow]; rfl
      have EX : Hid (_ = _) := ex
      clear e4 ex
      go_wp2
      refine ⟨⟨k + 1, x / 2 ^ (64 - s), p ++ [v], by omega, int_eq (by omega), int_eq EX.out, e3, by simp [hp], hpd.snoc e2, ?_, HS.out v, hu.setCell _ _⟩, by simp [intOf]; omega⟩
      unfold Hid
      rw [lv_snoc, hp, HT.out, Bn_succ, Nat.add_mul, ← hv.out, ← hvv.out, Nat.mul_assoc (Bn k) x]
      have h := E4.out
      clear e1 e2 E4 EX e3 hvv
      generalize x * 2 ^ s % 18446744073709551616 = r at *
      generalize x / 2 ^ (64 - s) = q at *
      rw [h, Nat.mul_add, Nat.mul_add, Nat.mul_assoc]
      omega
    · have : k = n := by omega
      subst this
      rw [List.take_of_length_le (by omega)] at hv
      rw [List.drop_of_length_le (by omega), List.append_nil] at hr
      go_wp2
      go_end0
      exact ⟨p, c, rfl, hp, hpd, hv, hr, hu⟩
end Go.Proofs.YgvahwGreat
