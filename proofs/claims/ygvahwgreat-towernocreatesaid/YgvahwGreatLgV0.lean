import Derived.Test.YgvahwGreatRowsJ
namespace Go.Proofs.YgvahwGreat
open Go.RowKit
set_option linter.unusedSimpArgs false
/-- A log's cells. -/
abbrev lgV (a : Nat) (t d : Value) : Array Value := av a ++ #[t, d]
theorem lgV_size {a : Nat} (ha : a < 2 ^ 160) (t d : Value) : (lgV a t d).size = 22 := by simp [av_size ha]
theorem under44 : Hvah.prog.underlying 49 = some (.slice 141) := by kernel_rfl
theorem rt132 : RowT 141 22 := rowT_of (by kernel_rfl) (by kernel_rfl)
theorem lgV_ones {a : Nat} (_ha : a < 2 ^ 160) {t d : Value} (h1 : t.oneCell' = true) (h2 : d.oneCell' = true) : Ones (lgV a t d) := fun v hv => by
  rcases List.mem_append.1 (by simpa using hv : v ∈ (av a).toList ++ [t, d]) with h | h
  · exact av_one a v h
  · rcases List.mem_cons.1 h with rfl | h
    · exact h1
    · rcases List.mem_cons.1 h with rfl | h
      · exact h2
      · cases h
theorem zero132' : zeroOf Hvah.prog 141 = some (lgV 0 (.slice none 0 0) (.slice none 0 0)) := by kernel_rfl
end Go.Proofs.YgvahwGreat
