import Derived.Test.YgvagwGreatTw4
import Derived.Test.YgvagwGreatJb0
import Derived.Test.YgvagwGreatJb1
import Derived.Test.YgvagwGreatJb2
import Derived.Test.YgvagwGreatJb3
import Derived.Test.YgvagwGreatJb4
namespace Go.Proofs.YgvagwGreat
open Go.ChangeShapes Go.WideShapes Go.ChangeAt Go.RowKit
set_option maxRecDepth 100000
theorem jf_all : joinedFacts Hvag.prog 3 Hvag.f3 Rows.towerOneSpec Rows.towerOneRow = true := by
  unfold joinedFacts
  rw [jf1, jf2, jf3, jf4, jf5, jf7, jf9, jf10, jf11, jf12, jf13, jf14, jf15, jf17, jf23, jf25, jf26, jf27, jf28]
  kernel_rfl
theorem towerOne_holds : Rows.TowerOneSaid :=
  OpenClaim.holds_of_wide 3 Hvag.f3 rfl rfl rfl rfl rfl rfl rfl ⟨rfl, rfl, rfl, rfl, rfl⟩ rfl rfl rfl rfl rfl (by as_aux_lemma => kernel_rfl) Hvag.func3 jf_all
    (of_decide_eq_true (by as_aux_lemma => kernel_rfl)) (by as_aux_lemma => unfold Func.isWrapper; first | (rw [if_pos (by decide +kernel)]; kernel_rfl) | (rw [if_neg (by decide +kernel)]; exact ⟨rfl, rfl⟩))
    (fun os started H enc _ => towerOne_lifted os started H enc)
end Go.Proofs.YgvagwGreat
