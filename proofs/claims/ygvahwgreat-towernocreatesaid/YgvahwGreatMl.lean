import Derived.Test.YgvahwGreatMk
namespace Go.Proofs.YgvahwGreat
open Go.RowKit
set_option linter.unusedSimpArgs false

theorem sum_bits (p : Nat → Prop) [DecidablePred p] : ∀ n, (((List.range n).map fun i => if p i then 2 ^ i else 0).foldr (· + ·) 0) < 2 ^ n ∧ ∀ i, i < n → (((List.range n).map fun i => if p i then 2 ^ i else 0).foldr (· + ·) 0).testBit i = decide (p i)
  | 0 => ⟨by simp, fun i hi => by omega⟩
  | n + 1 => by
    obtain ⟨h1, h2⟩ := sum_bits p n
    have e : (((List.range (n + 1)).map fun i => if p i then 2 ^ i else 0).foldr (· + ·) 0) = (if p n then 2 ^ n else 0) + (((List.range n).map fun i => if p i then 2 ^ i else 0).foldr (· + ·) 0) := by
      rw [List.range_succ, List.map_append, List.foldr_append]
      generalize hl : (List.range n).map (fun i => if p i then 2 ^ i else 0) = l
      have : ∀ (l : List Nat) (z : Nat), l.foldr (· + ·) z = z + l.foldr (· + ·) 0 := by
        intro l
        induction l with
        | nil => intro z; simp
        | cons x l ih => intro z; rw [List.foldr_cons, List.foldr_cons, ih z]; omega
      rw [this l]
      simp
    rw [e]
    generalize (((List.range n).map fun i => if p i then 2 ^ i else 0).foldr (· + ·) 0) = S at *
    have hp : 2 ^ (n + 1) = 2 * 2 ^ n := by rw [Nat.pow_succ, Nat.mul_comm]
    refine ⟨by split <;> omega, fun i hi => ?_⟩
    by_cases hin : i < n
    · rw [← h2 i hin]
      split
      · rw [Nat.testBit_two_pow_add_gt hin]
      · rw [Nat.zero_add]
    · have : i = n := by omega
      subst this
      split
      · rename_i hq
        rw [Nat.testBit_two_pow_add_eq, Nat.testBit_lt_two_pow h1]; simp [hq]
      · rename_i hq
        rw [Nat.zero_add, Nat.testBit_lt_two_pow h1]; simp [hq]
theorem destW_bit (code : List Nat) (j i : Nat) (hi : i < 64) : (destW code j).testBit i = decide (64 * j + i < code.length ∧ isDestA code (64 * j + i)) ∧ destW code j < 18446744073709551616 := by
  obtain ⟨h1, h2⟩ := sum_bits (fun i => 64 * j + i < code.length ∧ isDestA code (64 * j + i)) 64
  exact ⟨h2 i hi, h1⟩
section
variable {own : Nat → Nat} {w : World} {g : Nat} {c : Nat → Value} {V : EV} {st : ASt} {sn stale : List Nat} {s : Nat} {f : AFrame} {rest : List AFrame}
set_option maxRecDepth 100000 in
set_option maxHeartbeats 6400000 in
theorem mIsDest {D n : Nat} {t : TypeId} (hB : Blk w g n t c) (hD : D + 8 ≤ n) (code : List Nat) (hd : ∀ j, j < 8 → c (D + j) = .int .u64 (destW code j : Nat)) (k : Nat) (hk : k < 512) : Calls Hvah.prog 382 #[.pointer (some ⟨g, D, none⟩), .int .u16 k] w fun e w' => e = .returned (.bool (decide (k < code.length ∧ isDestA code k))) ∧ w' = w := by
  obtain ⟨hb, hlt⟩ := destW_bit code (k / 64) (k % 64) (Nat.mod_lt _ (by decide))
  rw [show 64 * (k / 64) + k % 64 = k by omega] at hb
  rw [← hb]
  have kk := hB.cell (i := D + k / 64) (by omega)
  rw [hd _ (by omega)] at kk
  have i1 : (k : Int) < 512 := by omega
  have e1 : IntKind.u16.wrap ((k : Int) / 64) = ((k / 64 : Nat) : Int) := by rw [IntKind.wrap_u16]; omega
  have e2 : IntKind.u16.wrap ((k : Int) % 64) = ((k % 64 : Nat) : Int) := by rw [IntKind.wrap_u16]; omega
  go_enter Hvah.func382, Hvah.ntmps382
  go_wp2
  go_ret
  refine ⟨ret_b ?_, rfl⟩
  generalize destW code (k / 64) = x at *
  generalize k % 64 = m at *
  have e3 : ((x : Int) / 2 ^ m) = ((x / 2 ^ m : Nat) : Int) := by
    rw [show (2 : Int) ^ m = ((2 ^ m : Nat) : Int) by rw [Int.natCast_pow]; rfl]
    rfl
  have e4 := u64_and_nat (x / 2 ^ m) 1 (Nat.lt_of_le_of_lt (Nat.div_le_self _ _) hlt) (by decide)
  rw [Nat.and_one_is_mod] at e4
  rw [e3, show (1 : Int) = ((1 : Nat) : Int) from rfl, e4, Nat.testBit_eq_decide_div_mod_eq, Bool.eq_iff_iff, beq_iff_eq, decide_eq_true_iff]
  omega
theorem destA_lt (c : List Nat) (a : Nat) : ∀ n i, destA c a n i = true → a < c.length
  | 0, _, h => by cases h
  | n + 1, i, h => by
    rw [destA] at h
    split at h
    · rename_i h1
      split at h
      · rename_i h2; subst h2; exact h1
      · exact destA_lt c a n _ h
    · cases h
theorem isDest_and (c : List Nat) (a : Nat) : decide (a < c.length ∧ isDestA c a) = isDestA c a := by
  cases h : isDestA c a with
  | true => simp [destA_lt c a _ _ h]
  | false => simp
set_option maxRecDepth 100000 in
set_option maxHeartbeats 6400000 in
theorem mGood (h : MRep own w g c V st (s :: sn) stale) (hst : st.frames = f :: rest) (x : Nat) (hx : x < P256) : Calls Hvah.prog 280 #[.pointer (some ⟨g, 1803 + rest.length * 65, none⟩), wv x] w fun e w' => e = .returned (.bool (isDestA f.code x)) ∧ Ext w w' := by
  obtain ⟨hfr, hr7⟩ := h.frame hst
  obtain ⟨ro, rc, hre, hr1, hr2, hr3⟩ := hfr.code
  have hcl := hfr.ok.code
  have hlw : IntKind.u64.wrap (f.code.length : Int) = f.code.length := by rw [IntKind.wrap_u64]; omega
  have kk : ∀ W, Ext w W → W.cell? ⟨g, 1803 + rest.length * 65 + 53, none⟩ = some (.slice ro f.code.length rc) := fun W hW => by rw [(h.v.blk.ext hW).cell (by omega), hre]
  have HU := fun W => uU64 x W hx
  have HD := fun W (hW : Ext w W) (k : Nat) (hk : k < 512) => mIsDest (g := g) (c := c) (D := 1803 + rest.length * 65 + 55) (n := 27024) (t := 105) (h.v.blk.ext hW) (by omega) f.code (fun j hj => hfr.dests j hj) k hk
  have hcli : (f.code.length : Int) ≤ 512 := by omega
  by_cases hfit : x < f.code.length
  · have h1 : fit64 x = true := by unfold fit64; simp; omega
    have h2 : low64 x = x := by unfold low64; rw [if_pos (by omega)]
    rw [h1, h2] at HU
    have HD2 := fun W (hW : Ext w W) => HD W hW x (by omega)
    rw [isDest_and] at HD2
    have i1 : (x : Int) < f.code.length := by omega
    have i2 : (x : Int) < 512 := by omega
    have i3 : IntKind.u16.wrap (x : Int) = x := by rw [IntKind.wrap_u16]; omega
    clear HD h1 h2
    go_enter Hvah.func280, Hvah.ntmps280
    go_wp2_with (first | ((with_reducible (refine Veil.out ?_; apply wl_boxW)); (case hx => rfl); rintro B1 W1 c1 e1 b1 a1 g1) | ((with_reducible (refine Veil.out ?_; apply wl_loadWB)); (case hx => rfl); (case hB => exact Blk.ext (by with_reducible assumption) (by (repeat (first | with_reducible exact Ext.refl _ | with_reducible assumption | refine Ext.trans ?_ (by with_reducible assumption) | refine Ext.alloc ?_ _ _ | refine Ext.drew ?_ | refine Ext.drewN ?_ _)))); (case hW => with_reducible assumption); (case hi => decide)) | (go_at_call 309; refine (HU _).mono ?_; rintro e w4 ⟨rfl, he4⟩; have kk2 := kk _ (show Ext w w4 by (repeat (first | with_reducible exact Ext.refl _ | with_reducible assumption | refine Ext.trans ?_ (by with_reducible assumption) | refine Ext.alloc ?_ _ _ | refine Ext.drew ?_ | refine Ext.drewN ?_ _)))) | (go_at_call 382; refine (HD2 _ (by (repeat (first | with_reducible exact Ext.refl _ | with_reducible assumption | refine Ext.trans ?_ (by with_reducible assumption) | refine Ext.alloc ?_ _ _ | refine Ext.drew ?_ | refine Ext.drewN ?_ _)))).mono ?_; rintro e w5 ⟨rfl, hww⟩; replace hww := hww.symm; subst hww))
    go_ret
    exact ⟨rfl, by (repeat (first | with_reducible exact Ext.refl _ | with_reducible assumption | refine Ext.trans ?_ (by with_reducible assumption) | refine Ext.alloc ?_ _ _ | refine Ext.drew ?_ | refine Ext.drewN ?_ _))⟩
  · have hd : isDestA f.code x = false := by
      cases hq : isDestA f.code x with
      | false => rfl
      | true => exact absurd (destA_lt _ _ _ _ hq) hfit
    rw [hd]
    clear HD
    obtain ⟨ft, hft⟩ : ∃ b, fit64 x = b := ⟨_, rfl⟩
    cases ft with
    | false =>
      rw [hft] at HU
      clear hft
      go_enter Hvah.func280, Hvah.ntmps280
      go_wp2_with (first | ((with_reducible (refine Veil.out ?_; apply wl_boxW)); (case hx => rfl); rintro B1 W1 c1 e1 b1 a1 g1) | ((with_reducible (refine Veil.out ?_; apply wl_loadWB)); (case hx => rfl); (case hB => exact Blk.ext (by with_reducible assumption) (by (repeat (first | with_reducible exact Ext.refl _ | with_reducible assumption | refine Ext.trans ?_ (by with_reducible assumption) | refine Ext.alloc ?_ _ _ | refine Ext.drew ?_ | refine Ext.drewN ?_ _)))); (case hW => with_reducible assumption); (case hi => decide)) | (go_at_call 309; refine (HU _).mono ?_; rintro e w4 ⟨rfl, he4⟩))
      go_ret
      exact ⟨rfl, by (repeat (first | with_reducible exact Ext.refl _ | with_reducible assumption | refine Ext.trans ?_ (by with_reducible assumption) | refine Ext.alloc ?_ _ _ | refine Ext.drew ?_ | refine Ext.drewN ?_ _))⟩
    | true =>
      have h2 : low64 x = x := by unfold fit64 at hft; unfold low64; rw [if_pos (by simpa using hft)]
      rw [hft, h2] at HU
      have i1 : ¬ (x : Int) < f.code.length := by omega
      clear hft h2
      go_enter Hvah.func280, Hvah.ntmps280
      go_wp2_with (first | ((with_reducible (refine Veil.out ?_; apply wl_boxW)); (case hx => rfl); rintro B1 W1 c1 e1 b1 a1 g1) | ((with_reducible (refine Veil.out ?_; apply wl_loadWB)); (case hx => rfl); (case hB => exact Blk.ext (by with_reducible assumption) (by (repeat (first | with_reducible exact Ext.refl _ | with_reducible assumption | refine Ext.trans ?_ (by with_reducible assumption) | refine Ext.alloc ?_ _ _ | refine Ext.drew ?_ | refine Ext.drewN ?_ _)))); (case hW => with_reducible assumption); (case hi => decide)) | (go_at_call 309; refine (HU _).mono ?_; rintro e w4 ⟨rfl, he4⟩; have kk2 := kk _ (show Ext w w4 by (repeat (first | with_reducible exact Ext.refl _ | with_reducible assumption | refine Ext.trans ?_ (by with_reducible assumption) | refine Ext.alloc ?_ _ _ | refine Ext.drew ?_ | refine Ext.drewN ?_ _)))))
      go_ret
      exact ⟨rfl, by (repeat (first | with_reducible exact Ext.refl _ | with_reducible assumption | refine Ext.trans ?_ (by with_reducible assumption) | refine Ext.alloc ?_ _ _ | refine Ext.drew ?_ | refine Ext.drewN ?_ _))⟩
end
end Go.Proofs.YgvahwGreat
