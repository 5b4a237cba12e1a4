import Derived.Test.YgvahwGreatU256A
import Derived.Test.YgvahwGreatLen64
namespace Go.Proofs.YgvahwGreat
open Go.RowKit

theorem or_lt64 {a b : Nat} (ha : a < 18446744073709551616) (hb : b < 18446744073709551616) : a ||| b < 18446744073709551616 := Nat.or_lt_two_pow (n := 64) ha hb
theorem or3_bits (a b c : Nat) (ha : a < 18446744073709551616) (hb : b < 18446744073709551616) (hc : c < 18446744073709551616) : bits .or .u64 (bits .or .u64 (a : Int) b) c = ((a ||| b ||| c : Nat) : Int) := by
  rw [u64_or_nat a b ha hb, u64_or_nat _ c (or_lt64 ha hb) hc]
theorem or4_bits (a b c d : Nat) (ha : a < 18446744073709551616) (hb : b < 18446744073709551616) (hc : c < 18446744073709551616) (hd : d < 18446744073709551616) : bits .or .u64 (bits .or .u64 (bits .or .u64 (a : Int) b) c) d = ((a ||| b ||| c ||| d : Nat) : Int) := by
  rw [or3_bits a b c ha hb hc, u64_or_nat _ d (or_lt64 (or_lt64 ha hb) hc) hd]

attribute [local go_sem] wv_fold

/-- What is known of the four limbs. -/
theorem lim4 (x : Nat) (hx : x < P256) : x = lim x 0 + 18446744073709551616 * (lim x 1 + 18446744073709551616 * (lim x 2 + 18446744073709551616 * lim x 3)) ∧ lim x 0 < 18446744073709551616 ∧ lim x 1 < 18446744073709551616 ∧ lim x 2 < 18446744073709551616 ∧ lim x 3 < 18446744073709551616 :=
  ⟨(W4_lim x hx).symm, lim_lt _ _, lim_lt _ _, lim_lt _ _, lim_lt _ _⟩

set_option maxHeartbeats 400000 in
theorem uIsZero (x : Nat) (w : World) (hx : x < P256) :
    Calls Hvah.prog 87 #[wv x] w fun e w' => e = .returned (.bool (decide (x = 0))) ∧ Ext w w' := by
  have HX : Hid (_ ∧ _) := lim4 x hx
  have h4 := or4_bits (lim x 0) (lim x 1) (lim x 2) (lim x 3) (lim_lt _ _) (lim_lt _ _) (lim_lt _ _) (lim_lt _ _)
  have HB : Hid (decide (x = 0) = (bits .or .u64 (bits .or .u64 (bits .or .u64 (lim x 0 : Int) (lim x 1)) (lim x 2)) (lim x 3) == 0)) := by
    unfold Hid
    rw [h4]
    have : (((lim x 0 ||| lim x 1 ||| lim x 2 ||| lim x 3 : Nat) : Int) == 0) = decide ((lim x 0 ||| lim x 1 ||| lim x 2 ||| lim x 3) = 0) := by
      rw [Bool.eq_iff_iff]; simp only [beq_iff_eq, decide_eq_true_eq]; omega
    rw [this]
    congr 1
    rw [Nat.or_eq_zero_iff, Nat.or_eq_zero_iff, Nat.or_eq_zero_iff]
    have := HX.out
    apply propext; constructor
    · intro h; omega
    · intro h; omega
  clear h4
  go_enter Hvah.func87, Hvah.ntmps87
  go_wp2
  go_ret
  exact ⟨by rw [HB.out]; rfl, (Ext.refl _).alloc _ _⟩

/-- Does x fit 64 bits? -/
def fit64 (x : Nat) : Bool := decide (x < 18446744073709551616)
/-- x, or 0 where it does not fit 64 bits. -/
def low64 (x : Nat) : Nat := if x < 18446744073709551616 then x else 0
theorem low64_lt (x : Nat) : low64 x < 18446744073709551616 := by unfold low64; split <;> omega
theorem fit64_yes {x : Nat} (h : x < 18446744073709551616) : fit64 x = true ∧ low64 x = x := by simp [fit64, low64, h]
theorem fit64_no {x : Nat} (h : ¬ x < 18446744073709551616) : fit64 x = false ∧ low64 x = 0 := by simp [fit64, low64]; omega

set_option maxHeartbeats 400000 in
theorem uU64 (x : Nat) (w : World) (hx : x < P256) :
    Calls Hvah.prog 309 #[wv x] w fun e w' => e = .returned (.tuple #[.int .u64 (low64 x : Nat), .bool (fit64 x)]) ∧ Ext w w' := by
  have HX : Hid (_ ∧ _) := lim4 x hx
  have h3 := or3_bits (lim x 1) (lim x 2) (lim x 3) (lim_lt _ _) (lim_lt _ _) (lim_lt _ _)
  by_cases hz : x < 18446744073709551616
  · have HF : Hid (_ ∧ _) := fit64_yes hz
    have hz' : (lim x 1 ||| lim x 2 ||| lim x 3) = 0 := by
      rw [Nat.or_eq_zero_iff, Nat.or_eq_zero_iff]; have := HX.out; omega
    have h0 : bits .or .u64 (bits .or .u64 (lim x 1 : Int) (lim x 2)) (lim x 3) = 0 := by rw [h3, hz']; rfl
    have HL : Hid (lim x 0 = x) := by unfold Hid; have := HX.out; omega
    clear h3 hz'
    go_enter Hvah.func309, Hvah.ntmps309
    go_wp2
    go_ret2
    exact ⟨by rw [HF.out.1, HF.out.2]; simp [HL.out], (Ext.refl _).alloc _ _⟩
  · have HF : Hid (_ ∧ _) := fit64_no hz
    have hnz : ¬ (lim x 1 ||| lim x 2 ||| lim x 3) = 0 := by rw [Nat.or_eq_zero_iff, Nat.or_eq_zero_iff]; have := HX.out; omega
    have hne : (bits .or .u64 (bits .or .u64 (lim x 1 : Int) (lim x 2)) (lim x 3) != 0) = true := by
      rw [h3]; simpa using hnz
    clear h3 hnz
    go_enter Hvah.func309, Hvah.ntmps309
    go_wp2
    go_ret2
    exact ⟨by rw [HF.out.1, HF.out.2]; rfl, (Ext.refl _).alloc _ _⟩

set_option maxHeartbeats 400000 in
theorem uBelow (x n : Nat) (w : World) (hx : x < P256) (hn : n ≤ 1000) :
    Calls Hvah.prog 387 #[wv x, .int .u64 n] w fun e w' => e = .returned (.tuple #[.int .u64 (low64 x : Nat), .bool (decide (x < n))]) ∧ Ext w w' := by
  have hU := fun W => uU64 x W hx
  by_cases hlt : x < 18446744073709551616
  · obtain ⟨f1, f2⟩ := fit64_yes hlt
    simp only [f1, f2] at hU ⊢
    clear f1 f2
    by_cases hxn : x < n
    · go_enter Hvah.func387, Hvah.ntmps387
      go_wp2_with (go_at_call 309; refine (hU _).mono ?_; rintro e w1 ⟨rfl, he⟩)
      go_ret2
      exact ⟨by simp [hxn], ((Ext.refl _).alloc _ _).trans he⟩
    · go_enter Hvah.func387, Hvah.ntmps387
      go_wp2_with (go_at_call 309; refine (hU _).mono ?_; rintro e w1 ⟨rfl, he⟩)
      go_ret2
      exact ⟨by simp [hxn], ((Ext.refl _).alloc _ _).trans he⟩
  · obtain ⟨f1, f2⟩ := fit64_no hlt
    simp only [f1, f2] at hU ⊢
    have hxn : ¬ x < n := by omega
    clear f1 f2
    go_enter Hvah.func387, Hvah.ntmps387
    go_wp2_with (go_at_call 309; refine (hU _).mono ?_; rintro e w1 ⟨rfl, he⟩)
    go_ret2
    exact ⟨by simp [hxn], ((Ext.refl _).alloc _ _).trans he⟩

/-- The sign bit. -/
def negW (x : Nat) : Bool := decide (P256 ≤ 2 * x)
set_option maxHeartbeats 400000 in
theorem uNegative (x : Nat) (w : World) (hx : x < P256) :
    Calls Hvah.prog 385 #[wv x] w fun e w' => e = .returned (.bool (negW x)) ∧ Ext w w' := by
  have HX : Hid (_ ∧ _) := lim4 x hx
  have HB : Hid (negW x = ((lim x 3 : Int) / 9223372036854775808 != 0)) := by
    unfold Hid negW
    have := HX.out
    rw [Bool.eq_iff_iff]; simp only [bne_iff_ne, decide_eq_true_eq]
    unfold P256; constructor <;> intro h <;> omega
  go_enter Hvah.func385, Hvah.ntmps385
  go_wp2
  go_ret
  exact ⟨by rw [HB.out]; rfl, (Ext.refl _).alloc _ _⟩

/-- How many limbs are in use. -/
def nlim (x : Nat) : Nat := if lim x 3 ≠ 0 then 4 else if lim x 2 ≠ 0 then 3 else if lim x 1 ≠ 0 then 2 else if lim x 0 ≠ 0 then 1 else 0
theorem nlim_le (x : Nat) : nlim x ≤ 4 := by unfold nlim; split <;> (try omega); split <;> (try omega); split <;> (try omega); split <;> omega

set_option maxHeartbeats 800000 in
theorem uLimbs (x : Nat) (w : World) :
    Calls Hvah.prog 261 #[wv x] w fun e w' => e = .returned (.int .u8 (nlim x : Nat)) ∧ Ext w w' := by
  go_enter Hvah.func261, Hvah.ntmps261
  go_wp2
  go_loop [3] (fun i => ∃ k : Nat, k ≤ 4 ∧ i = .int .u8 k ∧ ∀ j, k ≤ j → j < 4 → lim x j = 0) (fun i => (intOf i).toNat)
  case atStart => exact ⟨4, by omega, rfl, fun j h1 h2 => by omega⟩
  case round =>
    obtain ⟨k, hk, rfl, hz⟩ := hrel
    have HZ : Hid (∀ j, k ≤ j → j < 4 → lim x j = 0) := hz
    clear hz
    rcases (show k = 0 ∨ k = 1 ∨ k = 2 ∨ k = 3 ∨ k = 4 by omega) with rfl | rfl | rfl | rfl | rfl
    · go_wp2
      go_ret
      have := HZ.out
      exact ⟨by simp [nlim, this 0, this 1, this 2, this 3], (Ext.refl _).alloc _ _⟩
    · by_cases hc : lim x 0 = 0
      · have HC : Hid (lim x 0 = 0) := hc
        have hci : ((lim x 0 : Int) == 0) = true := by simpa using hc
        clear hc
        go_wp2
        exact ⟨⟨0, by omega, rfl, fun j h1 h2 => by (rcases (show j = 0 ∨ 1 ≤ j by omega) with rfl | h; exact HC.out; exact HZ.out j h h2)⟩, by simp [intOf]⟩
      · have HC : Hid (¬ lim x 0 = 0) := hc
        have hci : ((lim x 0 : Int) == 0) = false := by simpa using hc
        clear hc
        go_wp2
        go_ret
        have := HZ.out
        have := HC.out
        exact ⟨by simp [nlim, *], (Ext.refl _).alloc _ _⟩
    · by_cases hc : lim x 1 = 0
      · have HC : Hid (lim x 1 = 0) := hc
        have hci : ((lim x 1 : Int) == 0) = true := by simpa using hc
        clear hc
        go_wp2
        exact ⟨⟨1, by omega, rfl, fun j h1 h2 => by (rcases (show j = 1 ∨ 2 ≤ j by omega) with rfl | h; exact HC.out; exact HZ.out j h h2)⟩, by simp [intOf]⟩
      · have HC : Hid (¬ lim x 1 = 0) := hc
        have hci : ((lim x 1 : Int) == 0) = false := by simpa using hc
        clear hc
        go_wp2
        go_ret
        have := HZ.out
        have := HC.out
        exact ⟨by simp [nlim, *], (Ext.refl _).alloc _ _⟩
    · by_cases hc : lim x 2 = 0
      · have HC : Hid (lim x 2 = 0) := hc
        have hci : ((lim x 2 : Int) == 0) = true := by simpa using hc
        clear hc
        go_wp2
        exact ⟨⟨2, by omega, rfl, fun j h1 h2 => by (rcases (show j = 2 ∨ 3 ≤ j by omega) with rfl | h; exact HC.out; exact HZ.out j h h2)⟩, by simp [intOf]⟩
      · have HC : Hid (¬ lim x 2 = 0) := hc
        have hci : ((lim x 2 : Int) == 0) = false := by simpa using hc
        clear hc
        go_wp2
        go_ret
        have := HZ.out
        have := HC.out
        exact ⟨by simp [nlim, *], (Ext.refl _).alloc _ _⟩
    · by_cases hc : lim x 3 = 0
      · have HC : Hid (lim x 3 = 0) := hc
        have hci : ((lim x 3 : Int) == 0) = true := by simpa using hc
        clear hc
        go_wp2
        exact ⟨⟨3, by omega, rfl, fun j h1 h2 => by (rcases (show j = 3 ∨ 4 ≤ j by omega) with rfl | h; exact HC.out; exact HZ.out j h h2)⟩, by simp [intOf]⟩
      · have HC : Hid (¬ lim x 3 = 0) := hc
        have hci : ((lim x 3 : Int) == 0) = false := by simpa using hc
        clear hc
        go_wp2
        go_ret
        have := HZ.out
        have := HC.out
        exact ⟨by simp [nlim, *], (Ext.refl _).alloc _ _⟩
end Go.Proofs.YgvahwGreat
