import Derived.Test.YgvahwGreatKd
import Derived.Test.YgvahwGreatRowsK
namespace Go.Proofs.YgvahwGreat
open Go.RowKit
set_option linter.unusedSimpArgs false
set_option maxRecDepth 100000
theorem rt439 : RowT 447 1600 := rowT_of (by kernel_rfl) (by kernel_rfl)
theorem rt436 : RowT 444 64 := rowT_of (by kernel_rfl) (by kernel_rfl)
theorem FB.ones {n o m : Nat} {c : Nat → Value} {f : Nat → Bool} (h : FB n c f) (hm : o + m ≤ n) : Ones (rowOf c o m) := ones_of (fun i hi => by
  rw [rowOf_size] at hi
  rw [cf_rowOf _ _ _ hi, h _ (by omega)]; rfl)
theorem FB.row_ {n : Nat} {c : Nat → Value} {f : Nat → Bool} (h : FB n c f) : FB n (cf (rowOf c 0 n)) f := fun i hi => by
  rw [cf_rowOf _ _ _ hi, Nat.zero_add]; exact h i hi
theorem FB.lay0 {n : Nat} {c : Nat → Value} {f : Nat → Bool} (h : FB n c f) : FB n (layv c 0 (rowOf c 0 n)) f := fun i hi => by
  have := layv_in c 0 (rowOf c 0 n) (j := i) (by rw [rowOf_size]; exact hi)
  rw [Nat.zero_add] at this
  rw [this]
  exact h.row_ i hi
theorem under216 : Hvah.prog.underlying 224 = some (.slice 4) := by kernel_rfl
theorem el4 : (Hvah.prog.info? 4).map (·.size) = some 1 := by kernel_rfl
theorem kOff_lt : ∀ i, i < 25 → kOff.getD i 0 < 64 := by decide
end Go.Proofs.YgvahwGreat
