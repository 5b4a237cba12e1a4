import Derived.Test.YgvahwGreatRows
import Derived.JoinedOf
namespace Go.Proofs.YgvahwGreat
theorem jf10 : (Rows.towerNoCreateRow.inPlace == Hvah.prog.inPlace 3) = true := by kernel_rfl
end Go.Proofs.YgvahwGreat
