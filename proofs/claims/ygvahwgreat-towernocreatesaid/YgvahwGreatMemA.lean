import Derived.Test.YgvahwGreatMachE
namespace Go.Proofs.YgvahwGreat
open Go.RowKit

set_option maxRecDepth 100000 in
set_option maxHeartbeats 1600000 in
theorem aTop (g m lo hi n cap b : Nat) (o : Option Addr) (c : Nat → Value) (w : World) (hB : Blk w g 27024 105 c) (hm : m < 7) (k10 : c 10 = .int .u8 (m + 1 : Nat)) (klo : c (2 + m) = .int .u32 lo) (khi : c (2 + (m + 1)) = .int .u32 hi) (k1 : c 1 = .slice o n cap) (ho : (o = none ∧ n = 0 ∧ cap = 0) ∨ o = some ⟨b, 0, none⟩) (h1 : lo ≤ hi) (h2 : hi ≤ n) (hn : n ≤ cap) (hcap : n ≤ 5020960) :
    Calls Hvah.prog 372 #[.pointer (some ⟨g, 1, none⟩)] w fun e w' => ∃ p, e = .returned (.tuple #[.slice p (hi - lo) (hi - lo), .bool true]) ∧ (lo < hi → p = some ⟨b, lo, none⟩) ∧ Ext w w' := by
  have q1 := hB.cell (i := 1) (by omega)
  have q10 := hB.cell (i := 10) (by omega)
  have ql := hB.cell (i := 2 + m) (by omega)
  have qh := hB.cell (i := 2 + (m + 1)) (by omega)
  rw [k1] at q1
  rw [k10] at q10
  rw [klo] at ql
  rw [khi] at qh
  have i1 : ((m + 1 : Nat) : Int) = (m : Int) + 1 := by omega
  rw [i1] at q10
  have i2 : ¬ ((m : Int) + 1 = 0) := by omega
  have i3 : ¬ (7 : Int) < (m : Int) + 1 := by omega
  have i4 : ¬ (hi : Int) < lo := by omega
  have i5 : ¬ (n : Int) < hi := by omega
  have i6 : IntKind.u8.wrap ((m : Int) + 1 - 1) = m := by rw [IntKind.wrap_u8]; omega
  rcases ho with ⟨rfl, rfl, rfl⟩ | rfl
  · have e1 : hi = 0 := by omega
    have e2 : lo = 0 := by omega
    subst e1
    subst e2
    go_enter Hvah.func372, Hvah.ntmps372
    go_wp2
    go_quiet (fail)
    go_wp2
    go_quiet (fail)
    go_wp2
    go_ret2
    exact ⟨none, rfl, fun h => absurd h (by omega), (Ext.refl _).drewN _⟩
  · by_cases hlo : hi = lo
    · subst hlo
      go_enter Hvah.func372, Hvah.ntmps372
      go_wp2
      go_quiet (fail)
      go_wp2
      go_quiet (fail)
      go_wp2
      go_ret2
      exact ⟨_, by simp; rfl, fun h => absurd h (by omega), (Ext.refl _).drewN _⟩
    · go_enter Hvah.func372, Hvah.ntmps372
      go_wp2
      go_quiet (fail)
      go_wp2
      go_quiet (fail)
      go_wp2
      go_ret2
      exact ⟨_, rfl, fun _ => rfl, (Ext.refl _).drewN _⟩

/-- Len. -/
theorem aLen (g m lo hi n cap b : Nat) (o : Option Addr) (c : Nat → Value) (w : World) (hB : Blk w g 27024 105 c) (hm : m < 7) (k10 : c 10 = .int .u8 (m + 1 : Nat)) (klo : c (2 + m) = .int .u32 lo) (khi : c (2 + (m + 1)) = .int .u32 hi) (k1 : c 1 = .slice o n cap) (ho : (o = none ∧ n = 0 ∧ cap = 0) ∨ o = some ⟨b, 0, none⟩) (h1 : lo ≤ hi) (h2 : hi ≤ n) (hn : n ≤ cap) (hcap : n ≤ 5020960) :
    Calls Hvah.prog 277 #[.pointer (some ⟨g, 1, none⟩)] w fun e w' => e = .returned (.int .u32 (hi - lo : Nat)) ∧ Ext w w' := by
  have HT := aTop g m lo hi n cap b o c w hB hm k10 klo khi k1 ho h1 h2 hn hcap
  have hd : hi - lo ≤ 5020960 := by omega
  generalize hi - lo = d at *
  go_enter Hvah.func277, Hvah.ntmps277
  go_wp2_with (go_at_call 372; refine HT.mono ?_; rintro e w1 ⟨p, rfl, _, he⟩)
  go_ret
  exact ⟨by first | rfl | (congr 2; rw [IntKind.wrap_u32']; omega), he⟩

/-- part. -/
theorem aPart (g m lo hi n cap b off k : Nat) (o : Option Addr) (c : Nat → Value) (w : World) (hB : Blk w g 27024 105 c) (hm : m < 7) (k10 : c 10 = .int .u8 (m + 1 : Nat)) (klo : c (2 + m) = .int .u32 lo) (khi : c (2 + (m + 1)) = .int .u32 hi) (k1 : c 1 = .slice o n cap) (ho : (o = none ∧ n = 0 ∧ cap = 0) ∨ o = some ⟨b, 0, none⟩) (h1 : lo ≤ hi) (h2 : hi ≤ n) (hn : n ≤ cap) (hcap : n ≤ 5020960) (hk : 0 < k) (hfit : off + k ≤ hi - lo) :
    Calls Hvah.prog 367 #[.pointer (some ⟨g, 1, none⟩), .int .u32 off, .int .u32 k] w fun e w' => e = .returned (.tuple #[.slice (some ⟨b, lo + off, none⟩) k k, .bool true]) ∧ Ext w w' := by
  have HT := aTop g m lo hi n cap b o c w hB hm k10 klo khi k1 ho h1 h2 hn hcap
  have hd : hi - lo ≤ 5020960 := by omega
  have hlt : lo < hi := by omega
  generalize hi - lo = d at *
  have hw : IntKind.u32.wrap (d : Int) = d := by rw [IntKind.wrap_u32']; omega
  have hw2 : IntKind.u32.wrap ((d : Int) - k) = (d : Int) - k := by rw [IntKind.wrap_u32']; omega
  have hw3 : IntKind.u32.wrap ((off : Int) + k) = (off : Int) + k := by rw [IntKind.wrap_u32']; omega
  have i1 : ¬ (d : Int) < k := by omega
  have i2 : ¬ (d : Int) - k < off := by omega
  have i3 : ¬ k = 0 := by omega
  go_enter Hvah.func367, Hvah.ntmps367
  go_wp2_with (go_at_call 372; refine HT.mono ?_; rintro e w1 ⟨p, rfl, hp, he⟩; have hpp := hp hlt; subst hpp; clear hp)
  go_ret2
  exact ⟨by first | rfl | simp, he⟩
end Go.Proofs.YgvahwGreat
