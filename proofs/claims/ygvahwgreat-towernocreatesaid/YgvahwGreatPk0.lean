import Derived.Test.YgvahwGreatRowsJ
namespace Go.Proofs.YgvahwGreat
open Go.RowKit
set_option linter.unusedSimpArgs false
theorem layv_at (c : Nat → Value) (o : Nat) (r : Array Value) (j : Nat) (h1 : o ≤ j) (h2 : j < o + r.size) : layv c o r j = cf r (j - o) := by
  unfold layv
  rw [if_pos ⟨h1, h2⟩]; rfl
theorem layv_off (c : Nat → Value) (o : Nat) (r : Array Value) (j : Nat) (h : j < o ∨ o + r.size ≤ j) : layv c o r j = c j := by
  unfold layv
  rw [if_neg (by omega)]
theorem bw_sizeP {x : Nat} (hx : x < P256) : (bw x).size = 32 := by unfold bw; simp [bcells_length, len32 hx]
theorem bw_onesP (x : Nat) : Ones (bw x) := fun v hv => by
  simp [bw, bcells] at hv
  obtain ⟨y, _, rfl⟩ := hv
  rfl
theorem aat_at {c : Nat → Value} {o a : Nat} (h : AAt c o a) (ha : a < 2 ^ 160) (i : Nat) (hi : i < 20) : c (o + i) = .int .u8 (((beL 20 a).getD i 0 : Nat) : Int) := by
  refine h i _ ?_
  unfold av
  simp [bcells, List.getD_eq_getElem?_getD, len20 ha, hi]
theorem Blk.cellE {w : World} {g n i : Nat} {t : TypeId} {c : Nat → Value} {v : Value} (h : Blk w g n t c) (hi : i < n) (e : c i = v) : w.cell? ⟨g, i, none⟩ = some v := by rw [h.cell hi, e]
end Go.Proofs.YgvahwGreat
