import Derived.Test.YgvahwGreatKo
import Derived.Test.YgvahwGreatRowsL
namespace Go.Proofs.YgvahwGreat
open Go.RowKit
set_option linter.unusedSimpArgs false
abbrev rcV : Array Value := #[.int .u64 1, .int .u64 32898, .int .u64 9223372036854808714, .int .u64 9223372039002292224, .int .u64 32907, .int .u64 2147483649, .int .u64 9223372039002292353, .int .u64 9223372036854808585, .int .u64 138, .int .u64 136, .int .u64 2147516425, .int .u64 2147483658, .int .u64 2147516555, .int .u64 9223372036854775947, .int .u64 9223372036854808713, .int .u64 9223372036854808579, .int .u64 9223372036854808578, .int .u64 9223372036854775936, .int .u64 32778, .int .u64 9223372039002259466, .int .u64 9223372039002292353, .int .u64 9223372036854808704, .int .u64 2147483649, .int .u64 9223372039002292232]
set_option maxRecDepth 100000 in
theorem b463 : ∀ w, (Instr.build 471 ([(0, .int .u64 1), (1, .int .u64 32898), (2, .int .u64 9223372036854808714), (3, .int .u64 9223372039002292224), (4, .int .u64 32907), (5, .int .u64 2147483649), (6, .int .u64 9223372039002292353), (7, .int .u64 9223372036854808585), (8, .int .u64 138), (9, .int .u64 136), (10, .int .u64 2147516425), (11, .int .u64 2147483658), (12, .int .u64 2147516555), (13, .int .u64 9223372036854775947), (14, .int .u64 9223372036854808713), (15, .int .u64 9223372036854808579), (16, .int .u64 9223372036854808578), (17, .int .u64 9223372036854775936), (18, .int .u64 32778), (19, .int .u64 9223372039002259466), (20, .int .u64 9223372039002292353), (21, .int .u64 9223372036854808704), (22, .int .u64 2147483649), (23, .int .u64 9223372039002292232)] : List (Nat × Value)).toArray).run Hvah.prog w = .ok (.agg rcV) w := fun w => by rfl
theorem under463 : Hvah.prog.underlying 471 = some (.array 24 24) := by kernel_rfl
theorem rcV_at : ∀ i, i < 24 → rcV[i]? = some (.int .u64 (kRC.getD i 0 : Nat)) := fun i hi => by
  have h24 : i = 0 ∨ i = 1 ∨ i = 2 ∨ i = 3 ∨ i = 4 ∨ i = 5 ∨ i = 6 ∨ i = 7 ∨ i = 8 ∨ i = 9 ∨ i = 10 ∨ i = 11 ∨ i = 12 ∨ i = 13 ∨ i = 14 ∨ i = 15 ∨ i = 16 ∨ i = 17 ∨ i = 18 ∨ i = 19 ∨ i = 20 ∨ i = 21 ∨ i = 22 ∨ i = 23 := by omega
  rcases h24 with rfl | rfl | rfl | rfl | rfl | rfl | rfl | rfl | rfl | rfl | rfl | rfl | rfl | rfl | rfl | rfl | rfl | rfl | rfl | rfl | rfl | rfl | rfl | rfl <;> rfl
theorem run_index463 {i : Nat} {cs : Array Value} {v : Value} (hi : i < 24) (hc : cs[i]? = some v) (W : World) : Sem.run Hvah.prog (Instr.index 471 (.agg cs) (.int .u8 (i : Nat))) W = .ok v W := by
  simp only [Instr.index, asIntOf, part]
  have h0 : (0 : Int) ≤ i ∧ (i : Int) < ((24 : Nat) : Int) := by omega
  simp [go_sem, run_underlying under463, h0]
  rw [if_pos hi, hc]
  rfl
set_option maxRecDepth 100000 in
set_option maxHeartbeats 6400000 in
theorem kRCe : KRCe := fun i w hi => by
  have hix := run_index463 hi (rcV_at i hi)
  have i1 : ¬ (24 : Int) ≤ i := by omega
  obtain ⟨r, hr⟩ : ∃ r, Hid (kRC.getD i 0 = r) := ⟨_, rfl⟩
  rw [hr.out] at hix ⊢
  go_enter Hvah.func407, Hvah.ntmps407
  go_wp2_with (first | ((with_reducible (refine Veil.out ?_; apply wl_buildV (hb := b463))); (case he => rfl)))
  go_ret
  exact ⟨rfl, Ext.refl _⟩
end Go.Proofs.YgvahwGreat
