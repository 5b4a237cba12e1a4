import Derived.Test.YgvahwGreatTd
import Derived.Test.YgvahwGreatYpV
namespace Go.Proofs.YgvahwGreat
open Go.RowKit
set_option linter.unusedSimpArgs false
theorem nbits_of {x j : Nat} (h1 : 2 ^ j ≤ x) (h2 : x < 2 ^ (j + 1)) : nbits x = j + 1 := by
  have h0 : x ≠ 0 := by have := Nat.pow_pos (n := j) (show 0 < 2 by decide); omega
  unfold nbits
  rw [if_neg h0, (Nat.log2_eq_iff h0).2 ⟨h1, h2⟩]
theorem tb_ge {x j : Nat} (h : x.testBit j = true) : 2 ^ j ≤ x := by
  apply Decidable.byContradiction
  intro hn
  rw [Nat.testBit_lt_two_pow (by omega)] at h
  cases h
theorem tb_lt {x j : Nat} (h : x.testBit j = false) (h2 : x < 2 ^ (j + 1)) : x < 2 ^ j := by
  rw [Nat.testBit_eq_decide_div_mod_eq, decide_eq_false_iff_not] at h
  have hp : 0 < 2 ^ j := Nat.pow_pos (by decide)
  have h3 : x / 2 ^ j < 2 := (Nat.div_lt_iff_lt_mul hp).2 (by rw [Nat.pow_succ] at h2; omega)
  have h4 : x / 2 ^ j = 0 := by
    generalize x / 2 ^ j = z at *
    omega
  apply Decidable.byContradiction
  intro hn
  have := (Nat.le_div_iff_mul_le hp).2 (show 1 * 2 ^ j ≤ x by omega)
  omega
section
variable {O O' : Nat → Prop} {w : World} {v : Value} {L : List Nat}
set_option maxRecDepth 100000 in
set_option maxHeartbeats 6400000 in
theorem yPart (hO : Small O w) (h : NL O' w v L) (off k : Nat) (ho : off < 18446744073709551616) (hk : k ≤ 717280) : Calls Hvah.prog 230 #[v, .int .u64 off, .int .u64 k] w fun e w' => ∃ r, e = .returned r ∧ NL O w' r (cutA L off k) ∧ Ext w w' := by
  have H1 := fun W (hW : Ext w W) => nNum O off W (hO.ext hW) ho
  have H2 := fun W (hW : Ext w W) => nNum O k W (hO.ext hW) (by omega)
  go_enter Hvah.func230, Hvah.ntmps230
  go_wp2_with (first | (go_at_call 42; refine (H1 _ (Ext.refl _)).mono ?_; rintro e w1 ⟨r1, rfl, hr1, he1⟩) | (go_at_call 42; refine (H2 _ he1).mono ?_; rintro e w2 ⟨r2, rfl, hr2, he2⟩) | (go_at_call 155; refine (yCut (hO.ext (he1.trans he2)) (h.ext (he1.trans he2)) (hr1.ext he2) hr2 hk).mono ?_; rintro e w3 ⟨r3, rfl, hr3, he3⟩))
  go_ret
  exact ⟨_, rfl, hr3, (he1.trans he2).trans he3⟩
set_option maxRecDepth 100000 in
set_option maxHeartbeats 6400000 in
theorem yBits (h : NL O w v L) (hl : L.length ≤ 8000) : Calls Hvah.prog 229 #[v] w fun e w' => e = .returned (.int .u64 (nbits (val L) : Nat)) ∧ w' = w := by
  have hb := fun i (hi : i < 65536) => bit_nl O v L i w h hi
  have hx := val_lt L h.digits
  obtain ⟨o, c, rfl, hc, hm, _⟩ := h
  have hli : (L.length : Int) ≤ 8000 := by omega
  rw [show (256 : Nat) = 2 ^ 8 from rfl, ← Nat.pow_mul] at hx
  generalize val L = x at *
  go_enter Hvah.func229, Hvah.ntmps229
  go_wp2
  go_loop [3] (fun i => ∃ k : Nat, k ≤ 8 * L.length ∧ i = .int .i64 k ∧ x < 2 ^ k) (fun i => (intOf i).toNat)
  case atStart => exact ⟨8 * L.length, Nat.le_refl _, int_eq (by omega), hx⟩
  case round =>
    obtain ⟨k, hk, rfl, hxk⟩ := hrel
    have hki : (k : Int) ≤ 64000 := by omega
    by_cases h0 : k = 0
    · subst h0
      have hx0 : x = 0 := by simpa using hxk
      subst hx0
      go_wp2
      go_ret
      exact ⟨rfl, rfl⟩
    · obtain ⟨j, rfl⟩ : ∃ j, k = j + 1 := ⟨k - 1, by omega⟩
      have hj0 : (0 : Int) < ((j + 1 : Nat) : Int) := by omega
      have hji : ((j + 1 : Nat) : Int) - 1 = j := by omega
      have hjw : IntKind.u16.wrap (j : Int) = j := by rw [IntKind.wrap_u16]; omega
      have hjw2 : IntKind.u64.wrap ((j + 1 : Nat) : Int) = ((j + 1 : Nat) : Int) := by rw [IntKind.wrap_u64]; omega
      have HB := hb j (by omega)
      have HX : Hid (x < 2 ^ (j + 1)) := hxk
      clear hxk hx
      cases ht : x.testBit j
      · rw [ht] at HB
        go_wp2_with (first | (go_at_call 339; refine HB.mono ?_; rintro e w1 ⟨rfl, hww⟩; replace hww := hww.symm; subst hww))
        exact ⟨⟨j, by omega, rfl, tb_lt ht HX.out⟩, by simp [intOf]⟩
      · rw [ht] at HB
        have hn := nbits_of (tb_ge ht) HX.out
        go_wp2_with (first | (go_at_call 339; refine HB.mono ?_; rintro e w1 ⟨rfl, hww⟩; replace hww := hww.symm; subst hww))
        go_ret
        exact ⟨by rw [hn]; rfl, rfl⟩
end
end Go.Proofs.YgvahwGreat
