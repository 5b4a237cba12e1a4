import Derived.Test.YgvahwGreatFam
namespace Go.Proofs.YgvahwGreat
open Go.RowKit
set_option linter.unusedSimpArgs false
theorem ret_iib {x x' y y' : Int} {b b' : Bool} (h1 : x = x') (h2 : y = y') (h3 : b = b') : Ending.returned (.tuple #[.int .i64 x, .int .i64 y, .bool b]) = .returned (.tuple #[.int .i64 x', .int .i64 y', .bool b']) := by rw [h1, h2, h3]
set_option maxRecDepth 100000 in
set_option maxHeartbeats 6400000 in
theorem yArity (o : Nat) (ho : o < 256) (w : World) : Calls Hvah.prog 146 #[.int .u8 o] w fun e w' => e = .returned (.tuple #[.int .i64 (takesA o : Nat), .int .i64 (givesA o : Nat), .bool (!decide (famA o = 0))]) ∧ w' = w := by
  have h256 : (o : Int) < 256 := by omega
  go_enter Hvah.func146, Hvah.ntmps146
  go_wp2_with (first | (go_at_call 19; refine (opFamily o ho _).mono ?_; rintro e w1 ⟨rfl, rfl⟩))
  all_goals go_ret3
  all_goals refine ⟨ret_iib ?_ ?_ ?_, rfl⟩
  all_goals (try simp only [beq_iff_eq, beq_eq_false_iff_ne, ne_eq, decide_eq_true_eq, decide_eq_false_iff_not] at *)
  all_goals (first | (rw [Bool.eq_iff_iff]; simp only [Bool.not_eq_true', decide_eq_false_iff_not, true_iff, false_iff, Bool.false_eq_true]; omega) | (unfold takesA; (repeat (first | rw [if_pos (by omega)] | rw [if_neg (by omega)])); omega) | (unfold givesA; (repeat (first | rw [if_pos (by omega)] | rw [if_neg (by omega)])); omega))
end Go.Proofs.YgvahwGreat
