import Derived.Test.YgvahwGreatRx2
import Derived.Test.YgvahwGreatRowsI
import Derived.Test.YgvahwGreatPk
namespace Go.Proofs.YgvahwGreat
open Go.RowKit
set_option linter.unusedSimpArgs false

/-- A list of bytes of one's own as input of the hash. -/
theorem GRow.nlx {w0 w : World} {v : Value} {l : List Nat} (h : GRow 5 1 ByC (fun b => w0.heap.size ≤ b) w v l) (hd : Digits l) : NLx (fun _ => False) w v l := by
  rcases h with ⟨rfl, rfl⟩ | ⟨b, cap, c, rfl, h2, h3, hB, hT, hrow⟩
  · exact ⟨none, 0, rfl, Nat.le_refl _, by decide, BS.nil⟩
  · refine ⟨_, cap, rfl, h2, h3, ⟨hd, fun _ => ⟨b, 0, rfl, fun q => q, hB.lt, fun i hi => ?_⟩⟩⟩
    rw [Nat.zero_add, hB.cell (by omega)]
    have := hrow i hi
    rw [Nat.mul_one] at this
    rw [this.1]
end Go.Proofs.YgvahwGreat
