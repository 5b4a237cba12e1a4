import Derived.Test.YgvahwGreatLgV0
import Derived.Test.YgvahwGreatPr
namespace Go.Proofs.YgvahwGreat
open Go.RowKit
set_option linter.unusedSimpArgs false
theorem b132t {a : Nat} (ha : a < 2 ^ 160) {t u : Value} (ht : t.oneCell' = true) (hu : u.oneCell' = true) : ∀ w, (Instr.build 141 ([(0, .agg (av a)), (1, t), (2, u)] : List (Nat × Value)).toArray).run Hvah.prog w = .ok (.agg (lgV a t u)) w := fun w => by
  rw [run_build_gen (pl := [(0, 20), (20, 1), (21, 1)]) (z := #[.int .u8 0, .int .u8 0, .int .u8 0, .int .u8 0, .int .u8 0, .int .u8 0, .int .u8 0, .int .u8 0, .int .u8 0, .int .u8 0, .int .u8 0, .int .u8 0, .int .u8 0, .int .u8 0, .int .u8 0, .int .u8 0, .int .u8 0, .int .u8 0, .int .u8 0, .int .u8 0, .slice none 0 0, .slice none 0 0]) (by kernel_rfl) (by kernel_rfl) ([(0, .agg (av a)), (1, t), (2, u)] : List (Nat × Value)) ⟨0, 20, rfl, av_size ha, by decide, 20, 1, rfl, by rw [one_cells ht]; rfl, by decide, 21, 1, rfl, by rw [one_cells hu]; rfl, by decide, trivial⟩ w]
  congr 2
  refine ext_cf (by rw [bld_size, lgV_size ha]; rfl) (fun i hi => ?_)
  rw [bld_size] at hi
  have hi : i < 22 := hi
  rw [bld_get _ _ _ hi]
  simp only [partsA, List.map_cons, List.map_nil, List.getD_cons_zero, List.getD_cons_succ, bldc, one_cells hu, one_cells ht, layv_one, one_agg]
  have hsz := av_size ha
  rw [cf_append, hsz]
  by_cases h20 : i < 20
  · rw [if_pos h20, updv_ne _ _ (by omega), updv_ne _ _ (by omega)]
    have := layv_in (cf #[.int .u8 0, .int .u8 0, .int .u8 0, .int .u8 0, .int .u8 0, .int .u8 0, .int .u8 0, .int .u8 0, .int .u8 0, .int .u8 0, .int .u8 0, .int .u8 0, .int .u8 0, .int .u8 0, .int .u8 0, .int .u8 0, .int .u8 0, .int .u8 0, .int .u8 0, .int .u8 0, .slice none 0 0, .slice none 0 0]) 0 (av a) (j := i) (by omega)
    rwa [Nat.zero_add] at this
  · rw [if_neg h20]
    have : i = 20 ∨ i = 21 := by omega
    rcases this with rfl | rfl
    · rw [updv_ne _ _ (by decide), updv_same]; rfl
    · rw [updv_same]; rfl
theorem el132 : ElT 141 22 (lgV 0 (.slice none 0 0) (.slice none 0 0)) := ⟨⟨Hvah.t141, .agg (lgV 0 (.slice none 0 0) (.slice none 0 0)), by kernel_rfl, by
  have h : Hvah.t141.zero = some (.agg #[.int .u8 0, .int .u8 0, .int .u8 0, .int .u8 0, .int .u8 0, .int .u8 0, .int .u8 0, .int .u8 0, .int .u8 0, .int .u8 0, .int .u8 0, .int .u8 0, .int .u8 0, .int .u8 0, .int .u8 0, .int .u8 0, .int .u8 0, .int .u8 0, .int .u8 0, .int .u8 0, .slice none 0 0, .slice none 0 0]) := by kernel_rfl
  rw [h]; congr 1, rfl, by kernel_rfl, by decide +kernel⟩, lgV_size (by decide) _ _, by decide⟩
end Go.Proofs.YgvahwGreat
