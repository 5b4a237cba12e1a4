import Derived.Test.YgvahwGreatMLb
namespace Go.Proofs.YgvahwGreat
open Go.RowKit
set_option linter.unusedSimpArgs false
set_option maxRecDepth 100000 in
set_option maxHeartbeats 3200000 in
theorem opFamily (o : Nat) (ho : o < 256) (w : World) : Calls Hvah.prog 19 #[.int .u8 o] w fun e w' => e = .returned (.int .u8 (famA o : Nat)) ∧ w' = w := by
  have h256 : (o : Int) < 256 := by omega
  go_enter Hvah.func19, Hvah.ntmps19
  go_wp2
  all_goals go_ret
  all_goals refine ⟨?_, rfl⟩
  all_goals (try simp only [beq_iff_eq, beq_eq_false_iff_ne, ne_eq, decide_eq_true_eq, decide_eq_false_iff_not] at *)
  all_goals simp only [Ending.returned.injEq, Value.int.injEq, true_and]
  all_goals unfold famA
  all_goals repeat (first | rw [if_pos (by omega)] | rw [if_neg (by omega)])
  all_goals rfl
end Go.Proofs.YgvahwGreat
