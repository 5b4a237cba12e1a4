import Derived.Test.YgvahwGreatXf
import Derived.Test.YgvahwGreatJb0
import Derived.Test.YgvahwGreatJb1
import Derived.Test.YgvahwGreatJb2
import Derived.Test.YgvahwGreatJb3
import Derived.Test.YgvahwGreatJb4
namespace Go.Proofs.YgvahwGreat
open Go.ChangeShapes Go.WideShapes Go.ChangeAt Go.RowKit
set_option maxRecDepth 100000
theorem jf_all : joinedFacts Hvah.prog 3 Hvah.f3 Rows.towerNoCreateSpec Rows.towerNoCreateRow = true := by
  unfold joinedFacts
  rw [jf1, jf2, jf3, jf4, jf5, jf7, jf9, jf10, jf11, jf12, jf13, jf14, jf15, jf17, jf23, jf25, jf26, jf27, jf28]
  kernel_rfl
theorem towerNoCreate_holds : Rows.TowerNoCreateSaid :=
  OpenClaim.holds_of_wide 3 Hvah.f3 rfl rfl rfl rfl rfl rfl rfl ⟨rfl, rfl, rfl, rfl, rfl⟩ rfl rfl rfl rfl rfl (by as_aux_lemma => kernel_rfl) Hvah.func3 jf_all
    (of_decide_eq_true (by as_aux_lemma => kernel_rfl)) (by as_aux_lemma => unfold Func.isWrapper; first | (rw [if_pos (by decide +kernel)]; kernel_rfl) | (rw [if_neg (by decide +kernel)]; exact ⟨rfl, rfl⟩))
    (fun os started H enc _ => towerNoCreate_lifted os started H enc)
end Go.Proofs.YgvahwGreat
