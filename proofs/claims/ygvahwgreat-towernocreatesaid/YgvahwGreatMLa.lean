import Derived.Test.YgvahwGreatDivB
import Derived.Test.YgvahwGreatAbs
namespace Go.Proofs.YgvahwGreat
open Go.RowKit

theorem mSmall (x : Nat) (w : World) (hx : x < P256) :
    Calls Hvah.prog 308 #[wv x] w fun e w' => e = .returned (.int .u32 (min x 4294967295 : Nat)) ∧ Ext w w' := by
  have HU := fun W => uU64 x W hx
  by_cases h1 : x < 18446744073709551616
  · have ⟨q1, q2⟩ := fit64_yes h1
    simp only [q1, q2] at HU
    clear q1 q2
    by_cases h2 : x ≤ 4294967295
    · have e1 : min x 4294967295 = x := by omega
      have hi : ((x : Int) > 4294967295) = False := by simp; omega
      have hi2 : (x : Int) < 4294967296 := by omega
      rw [e1]
      clear e1
      go_enter Hvah.func308, Hvah.ntmps308
      go_wp2_with (go_at_call 309; refine (HU _).mono ?_; rintro e w1 ⟨rfl, he⟩)
      go_ret
      exact ⟨by first | rfl | (congr 2; rw [IntKind.wrap_u32]; omega), ((Ext.refl _).alloc _ _).trans he⟩
    · have e1 : min x 4294967295 = 4294967295 := by omega
      have hi : (4294967295 : Int) < x := by omega
      rw [e1]
      clear e1
      go_enter Hvah.func308, Hvah.ntmps308
      go_wp2_with (go_at_call 309; refine (HU _).mono ?_; rintro e w1 ⟨rfl, he⟩)
      go_ret
      exact ⟨rfl, ((Ext.refl _).alloc _ _).trans he⟩
  · have ⟨q1, q2⟩ := fit64_no h1
    simp only [q1, q2] at HU
    clear q1 q2
    have e1 : min x 4294967295 = 4294967295 := by omega
    rw [e1]
    clear e1
    go_enter Hvah.func308, Hvah.ntmps308
    go_wp2_with (go_at_call 309; refine (HU _).mono ?_; rintro e w1 ⟨rfl, he⟩)
    go_ret
    exact ⟨rfl, ((Ext.refl _).alloc _ _).trans he⟩

theorem mSource (x : Nat) (w : World) (hx : x < P256) :
    Calls Hvah.prog 306 #[wv x] w fun e w' => e = .returned (.int .u64 (min x 18446744073709551615 : Nat)) ∧ Ext w w' := by
  have HU := fun W => uU64 x W hx
  by_cases h1 : x < 18446744073709551616
  · have ⟨q1, q2⟩ := fit64_yes h1
    simp only [q1, q2] at HU
    clear q1 q2
    have e1 : min x 18446744073709551615 = x := by omega
    rw [e1]
    clear e1
    go_enter Hvah.func306, Hvah.ntmps306
    go_wp2_with (go_at_call 309; refine (HU _).mono ?_; rintro e w1 ⟨rfl, he⟩)
    go_ret
    exact ⟨rfl, ((Ext.refl _).alloc _ _).trans he⟩
  · have ⟨q1, q2⟩ := fit64_no h1
    simp only [q1, q2] at HU
    clear q1 q2
    have e1 : min x 18446744073709551615 = 18446744073709551615 := by omega
    rw [e1]
    clear e1
    go_enter Hvah.func306, Hvah.ntmps306
    go_wp2_with (go_at_call 309; refine (HU _).mono ?_; rintro e w1 ⟨rfl, he⟩)
    go_ret
    exact ⟨rfl, ((Ext.refl _).alloc _ _).trans he⟩

theorem mLength (x : Nat) (w : World) (hx : x < P256) :
    Calls Hvah.prog 374 #[wv x] w fun e w' => e = .returned (.int .u64 (low64 x : Nat)) ∧ Ext w w' := by
  have HU := fun W => uU64 x W hx
  go_enter Hvah.func374, Hvah.ntmps374
  go_wp2_with (go_at_call 309; refine (HU _).mono ?_; rintro e w1 ⟨rfl, he⟩)
  go_ret
  exact ⟨rfl, ((Ext.refl _).alloc _ _).trans he⟩

theorem mFlag (b : Bool) (w : World) :
    Calls Hvah.prog 292 #[.bool b] w fun e w' => e = .returned (wv (b2n b)) ∧ Ext w w' := by
  have h0 : (0 : Nat) < 18446744073709551616 := by decide
  have h1 : (1 : Nat) < 18446744073709551616 := by decide
  cases b
  · go_enter Hvah.func292, Hvah.ntmps292
    go_wp2
    exact post_word (a := 0) (b := 0) (c := 0) (d := 0) (x := 0) (et := 79) (fz := (0, 0)) Hvah.results292 rfl (heap_new _ _) rfl h0 h0 h0 h0 (by simp [W4]) ⟨rfl, (Ext.refl _).alloc _ _⟩
  · go_enter Hvah.func292, Hvah.ntmps292
    go_wp2
    exact post_word (a := 1) (b := 0) (c := 0) (d := 0) (x := 1) (et := 79) (fz := (0, 0)) Hvah.results292 rfl (heap_new _ _) rfl h1 h0 h0 h0 (by simp [W4]) ⟨rfl, (Ext.refl _).alloc _ _⟩

theorem mCreates (k : Nat) (w : World) (hk : k < 256) :
    Calls Hvah.prog 189 #[.int .u8 k] w fun e w' => e = .returned (.bool (createsA k)) ∧ w' = w := by
  by_cases h1 : k = 1
  · subst h1
    go_enter Hvah.func189, Hvah.ntmps189
    go_wp2
    go_ret
    exact ⟨rfl, rfl⟩
  · by_cases h2 : k = 5
    · subst h2
      go_enter Hvah.func189, Hvah.ntmps189
      go_wp2
      go_ret
      exact ⟨rfl, rfl⟩
    · by_cases h3 : k = 6
      · subst h3
        go_enter Hvah.func189, Hvah.ntmps189
        go_wp2
        go_ret
        exact ⟨rfl, rfl⟩
      · have hc : createsA k = false := by simp [createsA, h1, h2, h3]
        have i1 : ((k : Int) == 1) = false := by simp; omega
        have i2 : ((k : Int) == 5) = false := by simp; omega
        have i3 : ((k : Int) == 6) = false := by simp; omega
        rw [hc]
        go_enter Hvah.func189, Hvah.ntmps189
        go_wp2
        go_ret
        exact ⟨rfl, rfl⟩

theorem mCopyCost (n : Nat) (w : World) (hn : n < 4294967296) :
    Calls Hvah.prog 375 #[.int .u64 n] w fun e w' => e = .returned (.int .u64 (copyCostA n : Nat)) ∧ w' = w := by
  have HW := fun W => mWords n (by omega) W
  have hb : (n + 31) / 32 < 4294967296 := by omega
  have e1 : copyCostA n = 3 * ((n + 31) / 32) := rfl
  rw [e1]
  clear e1
  generalize (n + 31) / 32 = q at *
  go_enter Hvah.func375, Hvah.ntmps375
  go_wp2_with (go_at_call 176; refine (HW _).mono ?_; rintro e w1 ⟨rfl, rfl⟩)
  go_ret
  exact ⟨by first | rfl | (congr 2; omega), rfl⟩

theorem mExpCost (x : Nat) (w : World) (hx : x < P256) :
    Calls Hvah.prog 373 #[wv x] w fun e w' => e = .returned (.int .u64 (expCostA x : Nat)) ∧ Ext w w' := by
  have HU := fun W => uNBytes x W hx
  have hd : dl x ≤ 32 := (dl_le_iff x 32).2 (by rw [P256_eq] at hx; exact hx)
  unfold expCostA
  generalize dl x = d at *
  go_enter Hvah.func373, Hvah.ntmps373
  go_wp2_with (go_at_call 415; refine (HU _).mono ?_; rintro e w1 ⟨rfl, he⟩)
  go_ret
  exact ⟨by first | rfl | (congr 2; omega), ((Ext.refl _).alloc _ _).trans he⟩

theorem mSentGas (g x : Nat) (w : World) (hg : g < 18446744073709551616) (hx : x < P256) :
    Calls Hvah.prog 324 #[.int .u64 g, wv x] w fun e w' => e = .returned (.int .u64 (sentA g x : Nat)) ∧ Ext w w' := by
  have HU := fun W => uU64 x W hx
  have hs : Hid (∃ s, s = g - g / 64 ∧ IntKind.u64.wrap ((g : Int) - (g : Int) / 64) = (s : Int)) := ⟨_, rfl, by rw [IntKind.wrap_u64]; omega⟩
  obtain ⟨s, hs1, hs2⟩ := hs.out
  clear hs
  have e0 : sentA g x = min x s := by unfold sentA; rw [hs1]
  rw [e0]
  clear e0
  by_cases h1 : x < 18446744073709551616
  · have ⟨q1, q2⟩ := fit64_yes h1
    simp only [q1, q2] at HU
    clear q1 q2
    by_cases h2 : x < s
    · have hi : (x : Int) < s := by omega
      have e1 : min x s = x := by omega
      rw [e1]
      clear e1 hs1
      go_enter Hvah.func324, Hvah.ntmps324
      go_wp2_with (go_at_call 309; refine (HU _).mono ?_; rintro e w1 ⟨rfl, he⟩)
      go_ret
      exact ⟨rfl, ((Ext.refl _).alloc _ _).trans he⟩
    · have hi : ¬ ((x : Int) < s) := by omega
      have e1 : min x s = s := by omega
      rw [e1]
      clear e1 hs1
      go_enter Hvah.func324, Hvah.ntmps324
      go_wp2_with (go_at_call 309; refine (HU _).mono ?_; rintro e w1 ⟨rfl, he⟩)
      go_ret
      exact ⟨rfl, ((Ext.refl _).alloc _ _).trans he⟩
  · have ⟨q1, q2⟩ := fit64_no h1
    simp only [q1, q2] at HU
    clear q1 q2
    have e1 : min x s = s := by omega
    rw [e1]
    clear e1 hs1
    go_enter Hvah.func324, Hvah.ntmps324
    go_wp2_with (go_at_call 309; refine (HU _).mono ?_; rintro e w1 ⟨rfl, he⟩)
    go_ret
    exact ⟨rfl, ((Ext.refl _).alloc _ _).trans he⟩
end Go.Proofs.YgvahwGreat
