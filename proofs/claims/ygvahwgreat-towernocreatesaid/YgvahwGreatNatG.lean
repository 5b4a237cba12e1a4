import Derived.Test.YgvahwGreatNatF
namespace Go.Proofs.YgvahwGreat
open Go.RowKit

theorem testBit_val (l : List Nat) (hd : Digits l) (i : Nat) : (val l).testBit i = (dig l (i / 8)).testBit (i % 8) := by
  induction l generalizing i with
  | nil => simp [val, dig]
  | cons d l ih =>
    have h0 := hd d (by simp)
    have ih' := fun j => ih (fun e he => hd e (by simp [he])) j
    simp only [val]
    rw [show d + 256 * val l = 2 ^ 8 * val l + d by omega, Nat.testBit_two_pow_mul_add _ (by omega)]
    by_cases hi : i < 8
    · rw [if_pos hi, show i / 8 = 0 by omega, show i % 8 = i by omega]; simp [dig]
    · rw [if_neg hi, ih', show (i - 8) / 8 = i / 8 - 1 by omega, show (i - 8) % 8 = i % 8 by omega]
      obtain ⟨q, hq⟩ : ∃ q, i / 8 = q + 1 := ⟨i / 8 - 1, by omega⟩
      simp [hq, dig]

theorem bitAt (d m : Nat) (hd : d < 256) : (bits .and .u8 ((d : Int) / 2 ^ m) 1 == 1) = d.testBit m := by
  have e1 : ((d : Int) / 2 ^ m) = ((d / 2 ^ m : Nat) : Int) := by simp
  have hle : d / 2 ^ m ≤ d := Nat.div_le_self _ _
  have e2 := u8_and_nat (d / 2 ^ m) 1 (by omega) (by omega)
  rw [e1, show (1 : Int) = ((1 : Nat) : Int) from rfl, e2, Nat.and_one_is_mod]
  rw [Nat.testBit_eq_decide_div_mod_eq]
  generalize d / 2 ^ m = q
  rcases Nat.mod_two_eq_zero_or_one q with h | h <;> rw [h] <;> rfl

set_option maxHeartbeats 800000 in
/-- nat.Bit. -/
theorem bit_nl (O : Nat → Prop) (v : Value) (l : List Nat) (i : Nat) (w : World) (h : NL O w v l) (hi : i < 65536) :
    Calls Hvah.prog 339 #[v, .int .u16 i] w fun e w' => e = .returned (.bool ((val l).testBit i)) ∧ w' = w := by
  obtain ⟨o, c, rfl, hc, hm, hb⟩ := h
  have HT : Hid (_ = _) := testBit_val l hb.lt i
  by_cases hlt : i / 8 < l.length
  · obtain ⟨b, off, rfl, hO1, hb1, hcell⟩ := hb.spot (by intro e; rw [e] at hlt; simp at hlt)
    have c1 := hcell (i / 8) hlt
    have b1 := hb.lt _ (List.getElem_mem hlt)
    have HD : Hid (dig l (i / 8) = l[i / 8]) := by simp [Hid, dig, hlt]
    generalize l[i / 8] = d at *
    clear hcell
    go_enter Hvah.func339, Hvah.ntmps339
    go_wp2
    go_ret
    refine ⟨?_, rfl⟩
    rw [HT.out, HD.out, ← bitAt d (i % 8) b1]
    rfl
  · have HD : Hid (dig l (i / 8) = 0) := by simp [Hid, dig, Nat.not_lt.1 hlt]
    go_enter Hvah.func339, Hvah.ntmps339
    go_wp2
    go_ret
    exact ⟨by rw [HT.out, HD.out]; simp, rfl⟩

set_option maxHeartbeats 800000 in
/-- nat.Pow2. -/
theorem pow2_nl (O : Nat → Prop) (k : Nat) (w : World) (hO : ∀ b, O b → b < w.heap.size) (hk : k < 65536) :
    Calls Hvah.prog 405 #[.int .u16 k] w fun e w' => ∃ r l, e = .returned r ∧ NL O w' r l ∧ val l = 2 ^ k ∧ Ext w w' := by
  have hk8 : k / 8 + 1 ≤ 140737488355328 := by omega
  have hm : k % 8 < 8 := Nat.mod_lt _ (by decide)
  have hz : (zrow (k / 8 + 1))[k / 8]? = some (.int .u8 0) := by simp [zrow, bcells]
  have h2 : 2 ^ (k % 8) < 256 := Nat.lt_of_lt_of_le (Nat.pow_lt_pow_right (by decide) hm) (by decide)
  go_enter Hvah.func405, Hvah.ntmps405
  go_wp2_with (at_make; refine wl_make_bytes Hvah.underlying109 (k / 8 + 1) (by simp [Act.eval]) (by simp [Act.eval]) hk8 ?_)
  go_ret
  refine ⟨_, List.replicate (k / 8) 0 ++ [2 ^ (k % 8)], rfl, ?_, ?_, (Ext.refl _).alloc _ _⟩
  · refine NL.row (t := 5) ?_ ?_ (fun hb => by have := hO _ hb; omega) (by rw [List.length_append, List.length_replicate]; rfl) hk8
    · rw [heap_new]
      congr 2
      apply Array.toList_inj.1
      simp only [zrow, bcells, List.map_append, List.map_replicate, List.map_cons, List.map_nil]
      rw [List.replicate_succ']
      simp
      have h4 : ((2 ^ (k % 8) : Nat) : Int) = (2 : Int) ^ (k % 8) := Int.natCast_pow 2 (k % 8)
      rw [← h4]
      clear h4
      generalize (2 ^ (k % 8) : Nat) = z at *
      omega
    · intro d hd
      rcases List.mem_append.1 hd with hd | hd
      · rw [List.eq_of_mem_replicate hd]; decide
      · simp at hd; omega
  · rw [val_snoc, val_replicate_zero, List.length_replicate, Nat.zero_add, show (256 : Nat) = 2 ^ 8 by decide, ← Nat.pow_mul, ← Nat.pow_add]
    congr 1; omega
end Go.Proofs.YgvahwGreat
