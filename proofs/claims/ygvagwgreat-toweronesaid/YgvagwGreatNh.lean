import Derived.Test.YgvagwGreatTk
namespace Go.Proofs.YgvagwGreat
open Go.RowKit
set_option linter.unusedSimpArgs false
section
variable {O O' : Nat → Prop} {w : World} {v : Value} {l : List Nat}
theorem yNatOf (hO : Small O w) (h : NL O' w v l) : Calls Hvag.prog 218 #[v] w fun e w' => ∃ r, e = .returned r ∧ NL O w' r l ∧ Ext w w' := by
  go_enter Hvag.func218, Hvag.ntmps218
  go_wp2_with (first | (go_at_call 27; refine (yBytesOf2 hO h).mono ?_; rintro e w1 ⟨r, rfl, hr, he⟩))
  go_ret
  exact ⟨_, rfl, hr, he⟩
end
end Go.Proofs.YgvagwGreat
