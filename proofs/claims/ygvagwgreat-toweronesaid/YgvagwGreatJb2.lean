import Derived.Test.YgvagwGreatRows
import Derived.JoinedOf
namespace Go.Proofs.YgvagwGreat
theorem jf13 : (Rows.towerOneRow.named == Hvag.prog.varsNamed 3) = true := by kernel_rfl
end Go.Proofs.YgvagwGreat
