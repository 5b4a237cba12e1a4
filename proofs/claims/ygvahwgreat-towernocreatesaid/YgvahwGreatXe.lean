import Derived.Test.YgvahwGreatXd
import Derived.Test.YgvahwGreatTw3
namespace Go.Proofs.YgvahwGreat
open Go.RowKit
set_option linter.unusedSimpArgs false
set_option linter.unusedVariables false
theorem sl42x : SlT 42 40 174 := ⟨⟨Hvah.t40, .agg rTx0, by kernel_rfl, by kernel_rfl, by kernel_rfl, by kernel_rfl, rTx0s, by decide +kernel⟩, by decide, by decide⟩
set_option maxRecDepth 100000 in
set_option maxHeartbeats 6400000 in
/-- law.TowerNoCreate holds, whatever comes in. -/
theorem towerNoCreateAll {w : World} {v d : Value} {ls : List (List Nat)} {l : List Nat} (h : CoL w v ls) (hd : NLx (fun _ => False) w d l) (hl : l.length ≤ 140737488355328) (g : Nat) (hg : g < 18446744073709551616) : Calls Hvah.prog 3 #[v, d, .int .u64 (g : Nat)] w fun e w' => e = .returned (.bool true) ∧ Mod (fun _ => False) w w' := by
  have H6 := lUnmade h
  have H5 := fun (W : World) {v : Value} {ls : List (List Nat)} (hc : CoL W v ls) => lStage hc
  have H7 := fun W => lStageEnv W
  have H8 := fun (W : World) (hW : Ext w W) => lCallOf g hg (hd.ext hW) hl
  have hes := rEnvs
  have hen := fun W => envStage W
  obtain ⟨y, hy⟩ : ∃ y, Hid (rEnv = y) := ⟨_, rfl⟩
  rw [hy.out] at H7 hes
  simp only [hy.out] at hen
  clear h hd
  go_enter Hvah.func3, Hvah.ntmps3
  go_wp2_with (first | (go_at_call 6; refine H6.mono ?_; rintro e w1 ⟨u, lu, rfl, hu, e1⟩) | (go_at_call 5; refine (H5 _ hu.col).mono ?_; rintro e w2 ⟨sv, lw, rfl, hs, e2⟩) | (go_at_call 7; refine (H7 _).mono ?_; rintro e w3 ⟨rfl, e3⟩) | (go_at_call 8; refine (H8 _ ((e1.trans e2).trans e3)).mono ?_; rintro e w4 ⟨r, rfl, hr, hT, e4⟩) | ((with_reducible (refine Veil.out ?_; apply wl_build1X sl42x)); (case hy => rfl); (case hr => exact hr); rintro B5 W5 e5 hc5 g5) | (go_at_call 4; refine (towerAll (EL.mono hs ((e3.trans e4).trans e5) (fun _ _ _ q => q.ext ((e3.trans e4).trans e5))) hes (hen _) hr (hT.ext e5) (row_of_cells hc5) (lt_of_cells (by omega) hc5)).mono ?_; rintro e w6 ⟨rfl, m6⟩))
  go_ret
  exact ⟨rfl, Mod.trans' (((((e1.trans e2).trans e3).trans e4).trans e5).mod _) m6 (fun _ q => q.elim)⟩
end Go.Proofs.YgvahwGreat
