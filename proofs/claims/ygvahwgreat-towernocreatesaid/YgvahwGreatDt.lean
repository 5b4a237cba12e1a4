import Derived.Test.YgvahwGreatDsA
import Derived.Test.YgvahwGreatDsB
import Derived.Test.YgvahwGreatDsC
import Derived.Test.YgvahwGreatDsD
namespace Go.Proofs.YgvahwGreat
open Go.RowKit
set_option linter.unusedSimpArgs false

theorem uRem1024 (g h : Nat) (t t' : TypeId) (x m : List Nat) (w : World) (hx : UB w g t x) (hm : UB w h t' m) (lx : x.length = 16) (lm : m.length = 8) (dx : L64 x) (dm : L64 m) : Calls Hvah.prog 368 #[.pointer (some ⟨g, 0, none⟩), .pointer (some ⟨h, 0, none⟩)] w fun e w' => ∃ rl pv, e = .returned (.tuple #[.agg (ucells rl).toArray, .agg pv]) ∧ rl.length = 8 ∧ L64 rl ∧ pv.size = 3 ∧ Ones pv ∧ lv rl = dmod (lv x) (lv m) ∧ Ext w w' := by
  obtain ⟨top, ht, hxz, hxt⟩ := top_of x
  obtain ⟨n, hn, hmz, hmt⟩ := top_of m
  rw [lx] at ht hxz
  rw [lm] at hn hmz
  rcases Nat.eq_zero_or_pos n with h0 | h0
  · subst h0
    exact uRemA g h top t t' x m w hx hm lx lm hmz ht hxz hxt
  · rcases Nat.lt_or_ge top n with h1 | h1
    · exact uRemB g h n top t t' x m w hx hm lx lm dx hn hmz hmt ht hxz hxt h1
    · rcases Nat.lt_or_ge n 2 with h2 | h2
      · obtain rfl : n = 1 := by omega
        exact uRemC g h top t t' x m w hx hm lx lm dx dm hmz hmt ht hxz hxt h1
      · exact uRemD g h n top t t' x m w hx hm lx lm dx dm hn hmz hmt ht hxz hxt h2 h1
theorem bit_lim (e j : Nat) : (lim e (j / 64) / 2 ^ (j % 64)) % 2 = e / 2 ^ j % 2 := by
  have h1 : e / 2 ^ j = e / 18446744073709551616 ^ (j / 64) / 2 ^ (j % 64) := by
    rw [Nat.div_div_eq_div_mul, show (18446744073709551616 : Nat) = 2 ^ 64 by decide, ← Nat.pow_mul, ← Nat.pow_add, show 64 * (j / 64) + j % 64 = j by omega]
  rw [h1]
  unfold lim
  generalize e / 18446744073709551616 ^ (j / 64) = q
  have hr : j % 64 < 64 := Nat.mod_lt _ (by decide)
  generalize j % 64 = r at *
  have h2 : Nat.testBit (q % 2 ^ 64) r = Nat.testBit q r := by rw [Nat.testBit_mod_two_pow]; simp [hr]
  rw [Nat.testBit_eq_decide_div_mod_eq, Nat.testBit_eq_decide_div_mod_eq] at h2
  rw [show (2 : Nat) ^ 64 = 18446744073709551616 by decide] at h2
  have h3 : (q % 18446744073709551616 / 2 ^ r % 2 = 1) ↔ (q / 2 ^ r % 2 = 1) := by
    rw [← decide_eq_true_iff (p := q % 18446744073709551616 / 2 ^ r % 2 = 1), h2, decide_eq_true_iff]
  omega
theorem dmod_ltd {x m : Nat} (h : m ≠ 0) : dmod x m < m := by unfold dmod; rw [if_neg h]; exact Nat.mod_lt _ (by omega)
theorem dmod_sq (b E m : Nat) : dmod (dmod (b ^ E) m * dmod (b ^ E) m) m = dmod (b ^ (2 * E)) m := by
  unfold dmod
  split
  · rfl
  · rw [← Nat.mul_mod, ← Nat.pow_add, Nat.two_mul]
theorem dmod_muld (b E m : Nat) : dmod (dmod (b ^ E) m * dmod b m) m = dmod (b ^ (E + 1)) m := by
  unfold dmod
  split
  · rfl
  · rw [← Nat.mul_mod, Nat.pow_succ]
theorem half_step (e k : Nat) (hk : 0 < k) : e / 2 ^ (k - 1) = 2 * (e / 2 ^ k) + e / 2 ^ (k - 1) % 2 := by
  have : e / 2 ^ k = e / 2 ^ (k - 1) / 2 := by rw [Nat.div_div_eq_div_mul, ← Nat.pow_succ, show (k - 1).succ = k by omega]
  rw [this]; omega

/-- Limbs as a list. -/
def fli (n : Nat) (p : Nat → Nat) : List Nat := (List.range n).map p
theorem fli_getD (n : Nat) (p : Nat → Nat) (i : Nat) (h : i < n) : (fli n p).getD i 0 = p i := by simp [fli, List.getD_eq_getElem?_getD, h]
theorem fli_len (n : Nat) (p : Nat → Nat) : (fli n p).length = n := by simp [fli]
theorem fli_lv (p : Nat → Nat) : ∀ n, lv (fli n p) = fsum p n
  | 0 => rfl
  | n + 1 => by
    have : fli (n + 1) p = fli n p ++ [p n] := by simp [fli, List.range_succ]
    rw [this, lv_snoc, fli_lv p n, fli_len]; rfl
theorem fli_l64 {n : Nat} {p : Nat → Nat} (h : ∀ i, i < n → p i < 18446744073709551616) : L64 (fli n p) := fun d hd => by
  simp [fli] at hd
  obtain ⟨i, hi, rfl⟩ := hd
  exact h i hi
theorem FL.ub {w : World} {g n : Nat} {t : TypeId} {c : Nat → Value} {p : Nat → Nat} (h : FL n c p) (hB : Blk w g n t c) : UB w g t (fli n p) :=
  hB.toUB (fli_len n p) (fun i hi => by rw [fli_getD n p i hi, (h i hi).1])
theorem FL.l64 {n : Nat} {c : Nat → Value} {p : Nat → Nat} (h : FL n c p) : L64 (fli n p) := fli_l64 (fun i hi => (h i hi).2)
theorem lf_FL {l : List Nat} {n : Nat} (d : L64 l) : FL n (lf l) (fun i => l.getD i 0) := fun i _ => ⟨rfl, d.getD i⟩
theorem lf_fsum {l : List Nat} {n : Nat} (hl : l.length = n) : fsum (fun i => l.getD i 0) n = lv l := by
  rw [← fli_lv]
  congr 1
  apply List.ext_getElem?
  intro i
  by_cases h : i < n
  · simp [fli, h, List.getD_eq_getElem?_getD, show i < l.length by omega]
  · rw [List.getElem?_eq_none (by rw [fli_len]; omega), List.getElem?_eq_none (by omega)]
end Go.Proofs.YgvahwGreat
