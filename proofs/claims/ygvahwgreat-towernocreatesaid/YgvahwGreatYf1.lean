import Derived.Test.YgvahwGreatYf0
import Derived.Test.YgvahwGreatAp0
namespace Go.Proofs.YgvahwGreat
open Go.RowKit
set_option linter.unusedSimpArgs false
def z103a : Array Value := #[.slice none 0 0, .slice none 0 0, .slice none 0 0, .slice none 0 0, .slice none 0 0, .slice none 0 0, .slice none 0 0, .slice none 0 0, .slice none 0 0, .slice none 0 0, .slice none 0 0, .int .u8 0, .int .u8 0, .int .u8 0, .slice none 0 0, .slice none 0 0, .slice none 0 0, .slice none 0 0, .slice none 0 0, .int .u8 0, .int .u8 0, .int .u8 0, .int .u8 0, .int .u8 0, .int .u8 0, .int .u8 0, .int .u8 0, .int .u8 0, .int .u8 0, .int .u8 0, .int .u8 0, .int .u8 0, .int .u8 0, .int .u8 0, .int .u8 0, .int .u8 0, .int .u8 0, .int .u8 0, .int .u8 0, .int .u8 0, .int .u8 0, .int .u8 0, .int .u8 0, .int .u8 0, .int .u8 0, .int .u8 0, .int .u8 0, .int .u8 0, .int .u8 0, .int .u8 0, .int .u8 0, .int .u8 0, .int .u8 0, .int .u8 0, .int .u8 0, .int .u8 0, .int .u8 0, .int .u8 0, .int .u8 0, .int .u8 0, .int .u8 0, .int .u8 0, .int .u8 0, .int .u8 0, .int .u8 0, .int .u8 0, .int .u8 0, .int .u8 0, .int .u8 0, .int .u8 0, .int .u8 0, .int .u8 0, .int .u8 0, .int .u8 0, .int .u8 0, .int .u8 0, .int .u8 0, .int .u8 0, .int .u8 0, .int .u64 0, .int .u64 0, .int .u64 0, .int .u8 0, .int .u8 0, .int .u8 0, .int .u8 0, .int .u8 0, .int .u8 0, .int .u8 0, .int .u8 0, .int .u8 0, .int .u8 0, .int .u8 0, .int .u8 0, .int .u8 0, .int .u8 0, .int .u8 0, .int .u8 0, .int .u8 0, .int .u8 0, .int .u8 0, .int .u8 0, .int .u8 0, .int .u8 0, .int .u8 0, .int .u8 0, .int .u8 0, .int .u8 0, .int .u8 0, .int .u8 0, .int .u8 0, .int .u8 0, .int .u8 0, .int .u8 0, .int .u8 0, .int .u8 0, .int .u8 0, .int .u8 0, .int .u8 0, .int .u8 0, .int .u8 0, .int .u8 0, .int .u8 0, .int .u8 0, .int .u8 0, .int .u8 0, .int .u8 0, .int .u8 0, .int .u8 0, .int .u8 0, .int .u8 0, .int .u8 0, .int .u8 0, .int .u8 0, .int .u8 0, .int .u8 0, .int .u8 0, .int .u8 0, .int .u8 0, .int .u8 0, .int .u8 0, .int .u8 0, .int .u8 0, .int .u8 0, .int .u8 0, .int .u8 0, .int .u8 0, .int .u8 0, .int .u8 0, .int .u8 0, .int .u8 0, .int .u8 0, .int .u8 0, .int .u8 0, .int .u8 0, .int .u8 0, .int .u8 0, .int .u8 0, .int .u8 0, .int .u8 0, .int .u8 0, .int .u8 0, .int .u8 0, .int .u8 0, .int .u8 0, .int .u8 0, .int .u8 0, .int .u8 0, .int .u8 0, .int .u8 0, .int .u8 0, .int .u8 0, .int .u8 0, .int .u8 0, .int .u8 0, .int .u8 0, .int .u8 0, .int .u8 0, .slice none 0 0]
theorem z103q : zeroOf Hvah.prog 116 = some z103a := by kernel_rfl
theorem z103n : z103a.size = 179 := by rfl
theorem z103p : placesOf Hvah.prog 116 = some [(0, 8), (8, 1), (9, 1), (10, 1), (11, 1), (12, 1), (13, 1), (14, 1), (15, 1), (16, 1), (17, 1), (18, 1), (19, 20), (39, 20), (59, 120)] := by kernel_rfl
theorem z46p : placesOf Hvah.prog 51 = some [(0, 1), (1, 1), (2, 1), (3, 1), (4, 1), (5, 20)] := by kernel_rfl
theorem z103o : Ones z103a := by
  have : z103a.toList.all (fun v => v.oneCell') = true := by kernel_rfl
  exact fun v hv => List.all_eq_true.1 this v hv
/-- The receipt that Finish builds first. -/
theorem b46f {s : Nat} {u v : Value} (hu : u.oneCell' = true) (hv : v.oneCell' = true) : ∃ R : Array Value, (∀ w, (Instr.build 51 ([(1, .int .u8 (s : Nat)), (3, u), (4, v)] : List (Nat × Value)).toArray).run Hvah.prog w = .ok (.agg R) w) ∧ R.size = 25 ∧ Ones R ∧ ∀ i, i < 25 → cf R i = updv (updv (updv (cf z46a) 1 (.int .u8 (s : Nat))) 3 u) 4 v i := by
  have e : ∀ i, i < 25 → cf (bld z46a (partsA [(0, 1), (1, 1), (2, 1), (3, 1), (4, 1), (5, 20)] [(1, .int .u8 (s : Nat)), (3, u), (4, v)])) i = updv (updv (updv (cf z46a) 1 (.int .u8 (s : Nat))) 3 u) 4 v i := fun i hi => by
    rw [bld_get _ _ _ (by rw [z46s]; exact hi)]
    simp only [partsA, List.map_cons, List.map_nil, List.getD_cons_zero, List.getD_cons_succ, bldc, one_cells hu, one_cells hv, one_cells (v := .int .u8 (s : Nat)) rfl, layv_one, one_agg]
  refine ⟨_, fun w => run_build_gen z46p z46 ([(1, .int .u8 (s : Nat)), (3, u), (4, v)] : List (Nat × Value)) ⟨1, 1, rfl, rfl, by decide, 3, 1, rfl, by rw [one_cells hu]; rfl, by decide, 4, 1, rfl, by rw [one_cells hv]; rfl, by decide, trivial⟩ w, by rw [bld_size]; exact z46s, ?_, e⟩
  refine ones_of (fun i hi => ?_)
  rw [bld_size, z46s] at hi
  rw [e i hi]
  unfold updv
  split
  · exact hv
  split
  · exact hu
  split
  · rfl
  · have : Ones z46a := recV_ones 0
    exact this.get (by rw [z46s]; exact hi)
/-- The state that Finish leaves. -/
theorem b103f {r8 re : Array Value} {p t : Value} (h8 : r8.size = 8) (he : re.size = 120) (hp : p.oneCell' = true) (ht : t.oneCell' = true) : ∃ R : Array Value, (∀ w, (Instr.build 116 ([(0, .agg r8), (6, p), (11, t), (14, .agg re)] : List (Nat × Value)).toArray).run Hvah.prog w = .ok (.agg R) w) ∧ R.size = 179 ∧ ∀ i, i < 179 → cf R i = layv (updv (updv (layv (cf z103a) 0 r8) 13 p) 18 t) 59 re i := by
  have e : ∀ i, i < 179 → cf (bld z103a (partsA [(0, 8), (8, 1), (9, 1), (10, 1), (11, 1), (12, 1), (13, 1), (14, 1), (15, 1), (16, 1), (17, 1), (18, 1), (19, 20), (39, 20), (59, 120)] [(0, .agg r8), (6, p), (11, t), (14, .agg re)])) i = layv (updv (updv (layv (cf z103a) 0 r8) 13 p) 18 t) 59 re i := fun i hi => by
    rw [bld_get _ _ _ (by rw [z103n]; exact hi)]
    simp only [partsA, List.map_cons, List.map_nil, List.getD_cons_zero, List.getD_cons_succ, bldc, one_cells hp, one_cells ht, layv_one, one_agg]
  exact ⟨_, fun w => run_build_gen z103p z103q ([(0, .agg r8), (6, p), (11, t), (14, .agg re)] : List (Nat × Value)) ⟨0, 8, rfl, h8, by rw [z103n]; decide, 13, 1, rfl, by rw [one_cells hp]; rfl, by rw [z103n]; decide, 18, 1, rfl, by rw [one_cells ht]; rfl, by rw [z103n]; decide, 59, 120, rfl, he, by rw [z103n]; decide, trivial⟩ w, by rw [bld_size]; exact z103n, e⟩
end Go.Proofs.YgvahwGreat
