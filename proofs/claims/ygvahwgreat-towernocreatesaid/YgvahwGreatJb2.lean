import Derived.Test.YgvahwGreatRows
import Derived.JoinedOf
namespace Go.Proofs.YgvahwGreat
theorem jf13 : (Rows.towerNoCreateRow.named == Hvah.prog.varsNamed 3) = true := by kernel_rfl
end Go.Proofs.YgvahwGreat
