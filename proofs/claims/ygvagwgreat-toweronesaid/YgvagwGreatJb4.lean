import Derived.Test.YgvagwGreatRows
import Derived.JoinedOf
namespace Go.Proofs.YgvagwGreat
theorem jf11 : (Rows.towerOneRow.unfollowed == Hvag.prog.unfollowed 3) = true := by kernel_rfl
end Go.Proofs.YgvagwGreat
