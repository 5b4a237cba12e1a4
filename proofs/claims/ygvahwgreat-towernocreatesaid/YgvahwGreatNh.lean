import Derived.Test.YgvahwGreatTk
namespace Go.Proofs.YgvahwGreat
open Go.RowKit
set_option linter.unusedSimpArgs false
section
variable {O O' : Nat → Prop} {w : World} {v : Value} {l : List Nat}
theorem yNatOf (hO : Small O w) (h : NL O' w v l) : Calls Hvah.prog 226 #[v] w fun e w' => ∃ r, e = .returned r ∧ NL O w' r l ∧ Ext w w' := by
  go_enter Hvah.func226, Hvah.ntmps226
  go_wp2_with (first | (go_at_call 36; refine (yBytesOf2 hO h).mono ?_; rintro e w1 ⟨r, rfl, hr, he⟩))
  go_ret
  exact ⟨_, rfl, hr, he⟩
end
end Go.Proofs.YgvahwGreat
