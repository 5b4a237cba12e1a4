import Derived.Test.YgvagwGreatRows
import Derived.JoinedOf
namespace Go.Proofs.YgvagwGreat
theorem jf10 : (Rows.towerOneRow.inPlace == Hvag.prog.inPlace 3) = true := by kernel_rfl
end Go.Proofs.YgvagwGreat
