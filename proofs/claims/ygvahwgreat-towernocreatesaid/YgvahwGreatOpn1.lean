import Derived.Test.YgvahwGreatOpn0
import Derived.Test.YgvahwGreatQd0
namespace Go.Proofs.YgvahwGreat
open Go.RowKit
set_option linter.unusedSimpArgs false
theorem aat_zero20 {d : Nat → Value} {o : Nat} (h : ∀ j, j < 20 → d (o + j) = .int .u8 0) : AAt d o 0 := fun j v hv => by
  have hj := (Array.getElem?_eq_some_iff.1 hv).1
  rw [av_size (by decide)] at hj
  rw [h j hj]
  have e : av 0 = Array.replicate 20 (.int .u8 0) := by kernel_rfl
  rw [e] at hv
  rw [Array.getElem?_replicate, if_pos hj] at hv
  exact Option.some.inj hv
theorem fr_zero {O : Nat → Prop} {w : World} : ChC O w (cf z72a) 0 0 0 0 0 0 false [] [] where
  kind := rfl
  pre := rfl
  static := rfl
  pc := rfl
  sp := rfl
  gas := rfl
  self := aat_zero20 (fun j hj => by
    rcases (show j = 0 ∨ j = 1 ∨ j = 2 ∨ j = 3 ∨ j = 4 ∨ j = 5 ∨ j = 6 ∨ j = 7 ∨ j = 8 ∨ j = 9 ∨ j = 10 ∨ j = 11 ∨ j = 12 ∨ j = 13 ∨ j = 14 ∨ j = 15 ∨ j = 16 ∨ j = 17 ∨ j = 18 ∨ j = 19 by omega) with rfl | rfl | rfl | rfl | rfl | rfl | rfl | rfl | rfl | rfl | rfl | rfl | rfl | rfl | rfl | rfl | rfl | rfl | rfl | rfl <;> rfl)
  sLt := by decide
  caller := aat_zero20 (fun j hj => by
    rcases (show j = 0 ∨ j = 1 ∨ j = 2 ∨ j = 3 ∨ j = 4 ∨ j = 5 ∨ j = 6 ∨ j = 7 ∨ j = 8 ∨ j = 9 ∨ j = 10 ∨ j = 11 ∨ j = 12 ∨ j = 13 ∨ j = 14 ∨ j = 15 ∨ j = 16 ∨ j = 17 ∨ j = 18 ∨ j = 19 by omega) with rfl | rfl | rfl | rfl | rfl | rfl | rfl | rfl | rfl | rfl | rfl | rfl | rfl | rfl | rfl | rfl | rfl | rfl | rfl | rfl <;> rfl)
  cLt := by decide
  value := wat0 rfl rfl rfl rfl
  code := nl_nil O w
  input := nl_nil O w
  outOff := rfl
  outLen := rfl
  ones := fun i hi => (show Ones z72a from fun v hv => by simp only [z72a, List.mem_cons, List.not_mem_nil, or_false] at hv; rcases hv with h | h | h | h | h | h | h | h | h | h | h | h | h | h | h | h | h | h | h | h | h | h | h | h | h | h | h | h | h | h | h | h | h | h | h | h | h | h | h | h | h | h | h | h | h | h | h | h | h | h | h | h | h | h | h | h | h | h | h | h | h | h | h | h | h <;> (subst h; rfl)).get (by rw [z72s]; exact hi)
/-- The frame that Open builds. -/
theorem b72o {gs tg a v : Nat} (htg : tg < 2 ^ 160) (ha : a < 2 ^ 160) : ∃ r : Array Value, r.size = 65 ∧ (∀ (O : Nat → Prop) (w : World) (d : Nat → Value), (∀ i, i < 65 → d i = cf r i) → ChC O w d 0 0 gs tg a v false [] []) ∧ ∀ w, (Instr.build 85 ([(0, .int .u8 0), (7, .int .u64 (gs : Nat)), (9, .agg (av tg)), (10, .agg (av a)), (11, wv v)] : List (Nat × Value)).toArray).run Hvah.prog w = .ok (.agg r) w := by
  refine ⟨_, ?_, fun O w d hd => ?_, fun w => run_build_gen (pl := [(0, 1), (1, 1), (2, 1), (3, 1), (4, 1), (5, 1), (6, 1), (7, 1), (8, 1), (9, 20), (29, 20), (49, 4), (53, 1), (54, 1), (55, 8), (63, 1), (64, 1)]) (z := z72a) (by kernel_rfl) (by kernel_rfl) ([(0, .int .u8 0), (7, .int .u64 (gs : Nat)), (9, .agg (av tg)), (10, .agg (av a)), (11, wv v)] : List (Nat × Value)) ⟨0, 1, rfl, rfl, by decide, 7, 1, rfl, rfl, by decide, 9, 20, rfl, av_size htg, by decide, 29, 20, rfl, av_size ha, by decide, 49, 4, rfl, rfl, by decide, trivial⟩ w⟩
  · rw [bld_size]; rfl
  · refine ChC.like (((((fr_zero (O := O) (w := w)).setKind 0).setGas gs).setSelf tg htg).setCaller a ha |>.setValue v) (fun i hi => ?_)
    rw [hd i hi, bld_get _ _ _ (by exact hi)]
    simp only [partsA, List.map_cons, List.map_nil, List.getD_cons_zero, List.getD_cons_succ, bldc, one_agg]
    rw [one_cells (v := .int .u8 0) rfl, one_cells (v := .int .u64 (gs : Nat)) rfl, layv_one, layv_one]
    rfl
end Go.Proofs.YgvahwGreat
