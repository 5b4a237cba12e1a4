import Derived.Test.YgvahwGreatRows
import Derived.JoinedOf
namespace Go.Proofs.YgvahwGreat
theorem jf11 : (Rows.towerNoCreateRow.unfollowed == Hvah.prog.unfollowed 3) = true := by kernel_rfl
end Go.Proofs.YgvahwGreat
