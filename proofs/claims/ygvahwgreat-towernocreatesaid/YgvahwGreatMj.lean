import Derived.Test.YgvahwGreatMi
namespace Go.Proofs.YgvahwGreat
open Go.RowKit
set_option linter.unusedSimpArgs false
theorem results_tmp4m {fn : Func} {t u v x : Tmp} (h : fn.results = #[.tmp t, .tmp u, .tmp v, .tmp x]) (tmps : Array Value) (P : Program) (w : World) :
    (results fn tmps).run P w = .ok (.tuple #[tmps.getD t undef, tmps.getD u undef, tmps.getD v undef, tmps.getD x undef]) w := by
  simp [results, h]
/-- The part of the gas that hangs on nothing. -/
def sgasA (o : Nat) : Nat :=
  if 96 ≤ o ∧ o ≤ 159 then 3
  else if 160 ≤ o ∧ o ≤ 164 then 375 * (o - 160 + 1)
  else if o = 91 then 1
  else if o = 48 ∨ o = 50 ∨ o = 51 ∨ o = 52 ∨ o = 54 ∨ o = 56 ∨ o = 58 ∨ o = 61 ∨ o = 65 ∨ o = 66 ∨ o = 67 ∨ o = 68 ∨ o = 69 ∨ o = 70 ∨ o = 72 ∨ o = 88 ∨ o = 89 ∨ o = 90 ∨ o = 95 ∨ o = 80 then 2
  else if o = 1 ∨ o = 3 ∨ o = 16 ∨ o = 17 ∨ o = 18 ∨ o = 19 ∨ o = 20 ∨ o = 22 ∨ o = 23 ∨ o = 24 ∨ o = 26 ∨ o = 27 ∨ o = 28 ∨ o = 29 ∨ o = 21 ∨ o = 25 ∨ o = 53 ∨ o = 81 ∨ o = 82 ∨ o = 83 ∨ o = 55 ∨ o = 57 ∨ o = 62 ∨ o = 94 then 3
  else if o = 71 ∨ o = 2 ∨ o = 4 ∨ o = 5 ∨ o = 6 ∨ o = 7 ∨ o = 11 then 5
  else if o = 8 ∨ o = 9 ∨ o = 86 then 8
  else if o = 10 ∨ o = 87 then 10
  else if o = 32 then 30
  else if o = 92 ∨ o = 93 then 100
  else if o = 255 then 5000
  else if o = 64 then 20
  else if o = 240 ∨ o = 245 then 32000
  else 0
theorem ret4 {k1 k2 k3 : IntKind} {a a' b b' c c' : Int} {d d' : Bool} (h1 : a = a') (h2 : b = b') (h3 : c = c') (h4 : d = d') : Ending.returned (.tuple #[.int k1 a, .int k2 b, .int k3 c, .bool d]) = Ending.returned (.tuple #[.int k1 a', .int k2 b', .int k3 c', .bool d']) := by rw [h1, h2, h3, h4]
set_option maxRecDepth 100000 in
set_option maxHeartbeats 6400000 in
theorem mInfo0 (w : World) : Calls Hvah.prog 118 #[.int .u8 0] w fun e w' => e = .returned (.tuple #[.int .u8 (takesA 0 : Nat), .int .u8 (givesA 0 : Nat), .int .u16 (sgasA 0 : Nat), .bool (!decide (famA 0 = 0))]) ∧ w' = w := by
  go_enter Hvah.func118, Hvah.ntmps118
  go_wp2
  exact bodyPost_ret (results_tmp4m Hvah.results118 _ _ _) rfl ⟨ret4 rfl rfl rfl rfl, rfl⟩
set_option maxRecDepth 100000 in
set_option maxHeartbeats 6400000 in
theorem mInfo1 (w : World) : Calls Hvah.prog 118 #[.int .u8 1] w fun e w' => e = .returned (.tuple #[.int .u8 (takesA 1 : Nat), .int .u8 (givesA 1 : Nat), .int .u16 (sgasA 1 : Nat), .bool (!decide (famA 1 = 0))]) ∧ w' = w := by
  go_enter Hvah.func118, Hvah.ntmps118
  go_wp2
  exact bodyPost_ret (results_tmp4m Hvah.results118 _ _ _) rfl ⟨ret4 rfl rfl rfl rfl, rfl⟩
set_option maxRecDepth 100000 in
set_option maxHeartbeats 6400000 in
theorem mInfo2 (w : World) : Calls Hvah.prog 118 #[.int .u8 2] w fun e w' => e = .returned (.tuple #[.int .u8 (takesA 2 : Nat), .int .u8 (givesA 2 : Nat), .int .u16 (sgasA 2 : Nat), .bool (!decide (famA 2 = 0))]) ∧ w' = w := by
  go_enter Hvah.func118, Hvah.ntmps118
  go_wp2
  exact bodyPost_ret (results_tmp4m Hvah.results118 _ _ _) rfl ⟨ret4 rfl rfl rfl rfl, rfl⟩
set_option maxRecDepth 100000 in
set_option maxHeartbeats 6400000 in
theorem mInfo3 (w : World) : Calls Hvah.prog 118 #[.int .u8 3] w fun e w' => e = .returned (.tuple #[.int .u8 (takesA 3 : Nat), .int .u8 (givesA 3 : Nat), .int .u16 (sgasA 3 : Nat), .bool (!decide (famA 3 = 0))]) ∧ w' = w := by
  go_enter Hvah.func118, Hvah.ntmps118
  go_wp2
  exact bodyPost_ret (results_tmp4m Hvah.results118 _ _ _) rfl ⟨ret4 rfl rfl rfl rfl, rfl⟩
set_option maxRecDepth 100000 in
set_option maxHeartbeats 6400000 in
theorem mInfo4 (w : World) : Calls Hvah.prog 118 #[.int .u8 4] w fun e w' => e = .returned (.tuple #[.int .u8 (takesA 4 : Nat), .int .u8 (givesA 4 : Nat), .int .u16 (sgasA 4 : Nat), .bool (!decide (famA 4 = 0))]) ∧ w' = w := by
  go_enter Hvah.func118, Hvah.ntmps118
  go_wp2
  exact bodyPost_ret (results_tmp4m Hvah.results118 _ _ _) rfl ⟨ret4 rfl rfl rfl rfl, rfl⟩
set_option maxRecDepth 100000 in
set_option maxHeartbeats 6400000 in
theorem mInfo5 (w : World) : Calls Hvah.prog 118 #[.int .u8 5] w fun e w' => e = .returned (.tuple #[.int .u8 (takesA 5 : Nat), .int .u8 (givesA 5 : Nat), .int .u16 (sgasA 5 : Nat), .bool (!decide (famA 5 = 0))]) ∧ w' = w := by
  go_enter Hvah.func118, Hvah.ntmps118
  go_wp2
  exact bodyPost_ret (results_tmp4m Hvah.results118 _ _ _) rfl ⟨ret4 rfl rfl rfl rfl, rfl⟩
set_option maxRecDepth 100000 in
set_option maxHeartbeats 6400000 in
theorem mInfo6 (w : World) : Calls Hvah.prog 118 #[.int .u8 6] w fun e w' => e = .returned (.tuple #[.int .u8 (takesA 6 : Nat), .int .u8 (givesA 6 : Nat), .int .u16 (sgasA 6 : Nat), .bool (!decide (famA 6 = 0))]) ∧ w' = w := by
  go_enter Hvah.func118, Hvah.ntmps118
  go_wp2
  exact bodyPost_ret (results_tmp4m Hvah.results118 _ _ _) rfl ⟨ret4 rfl rfl rfl rfl, rfl⟩
set_option maxRecDepth 100000 in
set_option maxHeartbeats 6400000 in
theorem mInfo7 (w : World) : Calls Hvah.prog 118 #[.int .u8 7] w fun e w' => e = .returned (.tuple #[.int .u8 (takesA 7 : Nat), .int .u8 (givesA 7 : Nat), .int .u16 (sgasA 7 : Nat), .bool (!decide (famA 7 = 0))]) ∧ w' = w := by
  go_enter Hvah.func118, Hvah.ntmps118
  go_wp2
  exact bodyPost_ret (results_tmp4m Hvah.results118 _ _ _) rfl ⟨ret4 rfl rfl rfl rfl, rfl⟩
set_option maxRecDepth 100000 in
set_option maxHeartbeats 6400000 in
theorem mInfo8 (w : World) : Calls Hvah.prog 118 #[.int .u8 8] w fun e w' => e = .returned (.tuple #[.int .u8 (takesA 8 : Nat), .int .u8 (givesA 8 : Nat), .int .u16 (sgasA 8 : Nat), .bool (!decide (famA 8 = 0))]) ∧ w' = w := by
  go_enter Hvah.func118, Hvah.ntmps118
  go_wp2
  exact bodyPost_ret (results_tmp4m Hvah.results118 _ _ _) rfl ⟨ret4 rfl rfl rfl rfl, rfl⟩
set_option maxRecDepth 100000 in
set_option maxHeartbeats 6400000 in
theorem mInfo9 (w : World) : Calls Hvah.prog 118 #[.int .u8 9] w fun e w' => e = .returned (.tuple #[.int .u8 (takesA 9 : Nat), .int .u8 (givesA 9 : Nat), .int .u16 (sgasA 9 : Nat), .bool (!decide (famA 9 = 0))]) ∧ w' = w := by
  go_enter Hvah.func118, Hvah.ntmps118
  go_wp2
  exact bodyPost_ret (results_tmp4m Hvah.results118 _ _ _) rfl ⟨ret4 rfl rfl rfl rfl, rfl⟩
set_option maxRecDepth 100000 in
set_option maxHeartbeats 6400000 in
theorem mInfo10 (w : World) : Calls Hvah.prog 118 #[.int .u8 10] w fun e w' => e = .returned (.tuple #[.int .u8 (takesA 10 : Nat), .int .u8 (givesA 10 : Nat), .int .u16 (sgasA 10 : Nat), .bool (!decide (famA 10 = 0))]) ∧ w' = w := by
  go_enter Hvah.func118, Hvah.ntmps118
  go_wp2
  exact bodyPost_ret (results_tmp4m Hvah.results118 _ _ _) rfl ⟨ret4 rfl rfl rfl rfl, rfl⟩
set_option maxRecDepth 100000 in
set_option maxHeartbeats 6400000 in
theorem mInfo11 (w : World) : Calls Hvah.prog 118 #[.int .u8 11] w fun e w' => e = .returned (.tuple #[.int .u8 (takesA 11 : Nat), .int .u8 (givesA 11 : Nat), .int .u16 (sgasA 11 : Nat), .bool (!decide (famA 11 = 0))]) ∧ w' = w := by
  go_enter Hvah.func118, Hvah.ntmps118
  go_wp2
  exact bodyPost_ret (results_tmp4m Hvah.results118 _ _ _) rfl ⟨ret4 rfl rfl rfl rfl, rfl⟩
set_option maxRecDepth 100000 in
set_option maxHeartbeats 6400000 in
theorem mInfo16 (w : World) : Calls Hvah.prog 118 #[.int .u8 16] w fun e w' => e = .returned (.tuple #[.int .u8 (takesA 16 : Nat), .int .u8 (givesA 16 : Nat), .int .u16 (sgasA 16 : Nat), .bool (!decide (famA 16 = 0))]) ∧ w' = w := by
  go_enter Hvah.func118, Hvah.ntmps118
  go_wp2
  exact bodyPost_ret (results_tmp4m Hvah.results118 _ _ _) rfl ⟨ret4 rfl rfl rfl rfl, rfl⟩
set_option maxRecDepth 100000 in
set_option maxHeartbeats 6400000 in
theorem mInfo17 (w : World) : Calls Hvah.prog 118 #[.int .u8 17] w fun e w' => e = .returned (.tuple #[.int .u8 (takesA 17 : Nat), .int .u8 (givesA 17 : Nat), .int .u16 (sgasA 17 : Nat), .bool (!decide (famA 17 = 0))]) ∧ w' = w := by
  go_enter Hvah.func118, Hvah.ntmps118
  go_wp2
  exact bodyPost_ret (results_tmp4m Hvah.results118 _ _ _) rfl ⟨ret4 rfl rfl rfl rfl, rfl⟩
set_option maxRecDepth 100000 in
set_option maxHeartbeats 6400000 in
theorem mInfo18 (w : World) : Calls Hvah.prog 118 #[.int .u8 18] w fun e w' => e = .returned (.tuple #[.int .u8 (takesA 18 : Nat), .int .u8 (givesA 18 : Nat), .int .u16 (sgasA 18 : Nat), .bool (!decide (famA 18 = 0))]) ∧ w' = w := by
  go_enter Hvah.func118, Hvah.ntmps118
  go_wp2
  exact bodyPost_ret (results_tmp4m Hvah.results118 _ _ _) rfl ⟨ret4 rfl rfl rfl rfl, rfl⟩
set_option maxRecDepth 100000 in
set_option maxHeartbeats 6400000 in
theorem mInfo19 (w : World) : Calls Hvah.prog 118 #[.int .u8 19] w fun e w' => e = .returned (.tuple #[.int .u8 (takesA 19 : Nat), .int .u8 (givesA 19 : Nat), .int .u16 (sgasA 19 : Nat), .bool (!decide (famA 19 = 0))]) ∧ w' = w := by
  go_enter Hvah.func118, Hvah.ntmps118
  go_wp2
  exact bodyPost_ret (results_tmp4m Hvah.results118 _ _ _) rfl ⟨ret4 rfl rfl rfl rfl, rfl⟩
set_option maxRecDepth 100000 in
set_option maxHeartbeats 6400000 in
theorem mInfo20 (w : World) : Calls Hvah.prog 118 #[.int .u8 20] w fun e w' => e = .returned (.tuple #[.int .u8 (takesA 20 : Nat), .int .u8 (givesA 20 : Nat), .int .u16 (sgasA 20 : Nat), .bool (!decide (famA 20 = 0))]) ∧ w' = w := by
  go_enter Hvah.func118, Hvah.ntmps118
  go_wp2
  exact bodyPost_ret (results_tmp4m Hvah.results118 _ _ _) rfl ⟨ret4 rfl rfl rfl rfl, rfl⟩
set_option maxRecDepth 100000 in
set_option maxHeartbeats 6400000 in
theorem mInfo21 (w : World) : Calls Hvah.prog 118 #[.int .u8 21] w fun e w' => e = .returned (.tuple #[.int .u8 (takesA 21 : Nat), .int .u8 (givesA 21 : Nat), .int .u16 (sgasA 21 : Nat), .bool (!decide (famA 21 = 0))]) ∧ w' = w := by
  go_enter Hvah.func118, Hvah.ntmps118
  go_wp2
  exact bodyPost_ret (results_tmp4m Hvah.results118 _ _ _) rfl ⟨ret4 rfl rfl rfl rfl, rfl⟩
set_option maxRecDepth 100000 in
set_option maxHeartbeats 6400000 in
theorem mInfo22 (w : World) : Calls Hvah.prog 118 #[.int .u8 22] w fun e w' => e = .returned (.tuple #[.int .u8 (takesA 22 : Nat), .int .u8 (givesA 22 : Nat), .int .u16 (sgasA 22 : Nat), .bool (!decide (famA 22 = 0))]) ∧ w' = w := by
  go_enter Hvah.func118, Hvah.ntmps118
  go_wp2
  exact bodyPost_ret (results_tmp4m Hvah.results118 _ _ _) rfl ⟨ret4 rfl rfl rfl rfl, rfl⟩
set_option maxRecDepth 100000 in
set_option maxHeartbeats 6400000 in
theorem mInfo23 (w : World) : Calls Hvah.prog 118 #[.int .u8 23] w fun e w' => e = .returned (.tuple #[.int .u8 (takesA 23 : Nat), .int .u8 (givesA 23 : Nat), .int .u16 (sgasA 23 : Nat), .bool (!decide (famA 23 = 0))]) ∧ w' = w := by
  go_enter Hvah.func118, Hvah.ntmps118
  go_wp2
  exact bodyPost_ret (results_tmp4m Hvah.results118 _ _ _) rfl ⟨ret4 rfl rfl rfl rfl, rfl⟩
set_option maxRecDepth 100000 in
set_option maxHeartbeats 6400000 in
theorem mInfo24 (w : World) : Calls Hvah.prog 118 #[.int .u8 24] w fun e w' => e = .returned (.tuple #[.int .u8 (takesA 24 : Nat), .int .u8 (givesA 24 : Nat), .int .u16 (sgasA 24 : Nat), .bool (!decide (famA 24 = 0))]) ∧ w' = w := by
  go_enter Hvah.func118, Hvah.ntmps118
  go_wp2
  exact bodyPost_ret (results_tmp4m Hvah.results118 _ _ _) rfl ⟨ret4 rfl rfl rfl rfl, rfl⟩
set_option maxRecDepth 100000 in
set_option maxHeartbeats 6400000 in
theorem mInfo25 (w : World) : Calls Hvah.prog 118 #[.int .u8 25] w fun e w' => e = .returned (.tuple #[.int .u8 (takesA 25 : Nat), .int .u8 (givesA 25 : Nat), .int .u16 (sgasA 25 : Nat), .bool (!decide (famA 25 = 0))]) ∧ w' = w := by
  go_enter Hvah.func118, Hvah.ntmps118
  go_wp2
  exact bodyPost_ret (results_tmp4m Hvah.results118 _ _ _) rfl ⟨ret4 rfl rfl rfl rfl, rfl⟩
set_option maxRecDepth 100000 in
set_option maxHeartbeats 6400000 in
theorem mInfo26 (w : World) : Calls Hvah.prog 118 #[.int .u8 26] w fun e w' => e = .returned (.tuple #[.int .u8 (takesA 26 : Nat), .int .u8 (givesA 26 : Nat), .int .u16 (sgasA 26 : Nat), .bool (!decide (famA 26 = 0))]) ∧ w' = w := by
  go_enter Hvah.func118, Hvah.ntmps118
  go_wp2
  exact bodyPost_ret (results_tmp4m Hvah.results118 _ _ _) rfl ⟨ret4 rfl rfl rfl rfl, rfl⟩
set_option maxRecDepth 100000 in
set_option maxHeartbeats 6400000 in
theorem mInfo27 (w : World) : Calls Hvah.prog 118 #[.int .u8 27] w fun e w' => e = .returned (.tuple #[.int .u8 (takesA 27 : Nat), .int .u8 (givesA 27 : Nat), .int .u16 (sgasA 27 : Nat), .bool (!decide (famA 27 = 0))]) ∧ w' = w := by
  go_enter Hvah.func118, Hvah.ntmps118
  go_wp2
  exact bodyPost_ret (results_tmp4m Hvah.results118 _ _ _) rfl ⟨ret4 rfl rfl rfl rfl, rfl⟩
set_option maxRecDepth 100000 in
set_option maxHeartbeats 6400000 in
theorem mInfo28 (w : World) : Calls Hvah.prog 118 #[.int .u8 28] w fun e w' => e = .returned (.tuple #[.int .u8 (takesA 28 : Nat), .int .u8 (givesA 28 : Nat), .int .u16 (sgasA 28 : Nat), .bool (!decide (famA 28 = 0))]) ∧ w' = w := by
  go_enter Hvah.func118, Hvah.ntmps118
  go_wp2
  exact bodyPost_ret (results_tmp4m Hvah.results118 _ _ _) rfl ⟨ret4 rfl rfl rfl rfl, rfl⟩
set_option maxRecDepth 100000 in
set_option maxHeartbeats 6400000 in
theorem mInfo29 (w : World) : Calls Hvah.prog 118 #[.int .u8 29] w fun e w' => e = .returned (.tuple #[.int .u8 (takesA 29 : Nat), .int .u8 (givesA 29 : Nat), .int .u16 (sgasA 29 : Nat), .bool (!decide (famA 29 = 0))]) ∧ w' = w := by
  go_enter Hvah.func118, Hvah.ntmps118
  go_wp2
  exact bodyPost_ret (results_tmp4m Hvah.results118 _ _ _) rfl ⟨ret4 rfl rfl rfl rfl, rfl⟩
set_option maxRecDepth 100000 in
set_option maxHeartbeats 6400000 in
theorem mInfo32 (w : World) : Calls Hvah.prog 118 #[.int .u8 32] w fun e w' => e = .returned (.tuple #[.int .u8 (takesA 32 : Nat), .int .u8 (givesA 32 : Nat), .int .u16 (sgasA 32 : Nat), .bool (!decide (famA 32 = 0))]) ∧ w' = w := by
  go_enter Hvah.func118, Hvah.ntmps118
  go_wp2
  exact bodyPost_ret (results_tmp4m Hvah.results118 _ _ _) rfl ⟨ret4 rfl rfl rfl rfl, rfl⟩
set_option maxRecDepth 100000 in
set_option maxHeartbeats 6400000 in
theorem mInfo48 (w : World) : Calls Hvah.prog 118 #[.int .u8 48] w fun e w' => e = .returned (.tuple #[.int .u8 (takesA 48 : Nat), .int .u8 (givesA 48 : Nat), .int .u16 (sgasA 48 : Nat), .bool (!decide (famA 48 = 0))]) ∧ w' = w := by
  go_enter Hvah.func118, Hvah.ntmps118
  go_wp2
  exact bodyPost_ret (results_tmp4m Hvah.results118 _ _ _) rfl ⟨ret4 rfl rfl rfl rfl, rfl⟩
set_option maxRecDepth 100000 in
set_option maxHeartbeats 6400000 in
theorem mInfo49 (w : World) : Calls Hvah.prog 118 #[.int .u8 49] w fun e w' => e = .returned (.tuple #[.int .u8 (takesA 49 : Nat), .int .u8 (givesA 49 : Nat), .int .u16 (sgasA 49 : Nat), .bool (!decide (famA 49 = 0))]) ∧ w' = w := by
  go_enter Hvah.func118, Hvah.ntmps118
  go_wp2
  exact bodyPost_ret (results_tmp4m Hvah.results118 _ _ _) rfl ⟨ret4 rfl rfl rfl rfl, rfl⟩
set_option maxRecDepth 100000 in
set_option maxHeartbeats 6400000 in
theorem mInfo50 (w : World) : Calls Hvah.prog 118 #[.int .u8 50] w fun e w' => e = .returned (.tuple #[.int .u8 (takesA 50 : Nat), .int .u8 (givesA 50 : Nat), .int .u16 (sgasA 50 : Nat), .bool (!decide (famA 50 = 0))]) ∧ w' = w := by
  go_enter Hvah.func118, Hvah.ntmps118
  go_wp2
  exact bodyPost_ret (results_tmp4m Hvah.results118 _ _ _) rfl ⟨ret4 rfl rfl rfl rfl, rfl⟩
set_option maxRecDepth 100000 in
set_option maxHeartbeats 6400000 in
theorem mInfo51 (w : World) : Calls Hvah.prog 118 #[.int .u8 51] w fun e w' => e = .returned (.tuple #[.int .u8 (takesA 51 : Nat), .int .u8 (givesA 51 : Nat), .int .u16 (sgasA 51 : Nat), .bool (!decide (famA 51 = 0))]) ∧ w' = w := by
  go_enter Hvah.func118, Hvah.ntmps118
  go_wp2
  exact bodyPost_ret (results_tmp4m Hvah.results118 _ _ _) rfl ⟨ret4 rfl rfl rfl rfl, rfl⟩
set_option maxRecDepth 100000 in
set_option maxHeartbeats 6400000 in
theorem mInfo52 (w : World) : Calls Hvah.prog 118 #[.int .u8 52] w fun e w' => e = .returned (.tuple #[.int .u8 (takesA 52 : Nat), .int .u8 (givesA 52 : Nat), .int .u16 (sgasA 52 : Nat), .bool (!decide (famA 52 = 0))]) ∧ w' = w := by
  go_enter Hvah.func118, Hvah.ntmps118
  go_wp2
  exact bodyPost_ret (results_tmp4m Hvah.results118 _ _ _) rfl ⟨ret4 rfl rfl rfl rfl, rfl⟩
set_option maxRecDepth 100000 in
set_option maxHeartbeats 6400000 in
theorem mInfo53 (w : World) : Calls Hvah.prog 118 #[.int .u8 53] w fun e w' => e = .returned (.tuple #[.int .u8 (takesA 53 : Nat), .int .u8 (givesA 53 : Nat), .int .u16 (sgasA 53 : Nat), .bool (!decide (famA 53 = 0))]) ∧ w' = w := by
  go_enter Hvah.func118, Hvah.ntmps118
  go_wp2
  exact bodyPost_ret (results_tmp4m Hvah.results118 _ _ _) rfl ⟨ret4 rfl rfl rfl rfl, rfl⟩
set_option maxRecDepth 100000 in
set_option maxHeartbeats 6400000 in
theorem mInfo54 (w : World) : Calls Hvah.prog 118 #[.int .u8 54] w fun e w' => e = .returned (.tuple #[.int .u8 (takesA 54 : Nat), .int .u8 (givesA 54 : Nat), .int .u16 (sgasA 54 : Nat), .bool (!decide (famA 54 = 0))]) ∧ w' = w := by
  go_enter Hvah.func118, Hvah.ntmps118
  go_wp2
  exact bodyPost_ret (results_tmp4m Hvah.results118 _ _ _) rfl ⟨ret4 rfl rfl rfl rfl, rfl⟩
set_option maxRecDepth 100000 in
set_option maxHeartbeats 6400000 in
theorem mInfo55 (w : World) : Calls Hvah.prog 118 #[.int .u8 55] w fun e w' => e = .returned (.tuple #[.int .u8 (takesA 55 : Nat), .int .u8 (givesA 55 : Nat), .int .u16 (sgasA 55 : Nat), .bool (!decide (famA 55 = 0))]) ∧ w' = w := by
  go_enter Hvah.func118, Hvah.ntmps118
  go_wp2
  exact bodyPost_ret (results_tmp4m Hvah.results118 _ _ _) rfl ⟨ret4 rfl rfl rfl rfl, rfl⟩
set_option maxRecDepth 100000 in
set_option maxHeartbeats 6400000 in
theorem mInfo56 (w : World) : Calls Hvah.prog 118 #[.int .u8 56] w fun e w' => e = .returned (.tuple #[.int .u8 (takesA 56 : Nat), .int .u8 (givesA 56 : Nat), .int .u16 (sgasA 56 : Nat), .bool (!decide (famA 56 = 0))]) ∧ w' = w := by
  go_enter Hvah.func118, Hvah.ntmps118
  go_wp2
  exact bodyPost_ret (results_tmp4m Hvah.results118 _ _ _) rfl ⟨ret4 rfl rfl rfl rfl, rfl⟩
set_option maxRecDepth 100000 in
set_option maxHeartbeats 6400000 in
theorem mInfo57 (w : World) : Calls Hvah.prog 118 #[.int .u8 57] w fun e w' => e = .returned (.tuple #[.int .u8 (takesA 57 : Nat), .int .u8 (givesA 57 : Nat), .int .u16 (sgasA 57 : Nat), .bool (!decide (famA 57 = 0))]) ∧ w' = w := by
  go_enter Hvah.func118, Hvah.ntmps118
  go_wp2
  exact bodyPost_ret (results_tmp4m Hvah.results118 _ _ _) rfl ⟨ret4 rfl rfl rfl rfl, rfl⟩
set_option maxRecDepth 100000 in
set_option maxHeartbeats 6400000 in
theorem mInfo58 (w : World) : Calls Hvah.prog 118 #[.int .u8 58] w fun e w' => e = .returned (.tuple #[.int .u8 (takesA 58 : Nat), .int .u8 (givesA 58 : Nat), .int .u16 (sgasA 58 : Nat), .bool (!decide (famA 58 = 0))]) ∧ w' = w := by
  go_enter Hvah.func118, Hvah.ntmps118
  go_wp2
  exact bodyPost_ret (results_tmp4m Hvah.results118 _ _ _) rfl ⟨ret4 rfl rfl rfl rfl, rfl⟩
set_option maxRecDepth 100000 in
set_option maxHeartbeats 6400000 in
theorem mInfo59 (w : World) : Calls Hvah.prog 118 #[.int .u8 59] w fun e w' => e = .returned (.tuple #[.int .u8 (takesA 59 : Nat), .int .u8 (givesA 59 : Nat), .int .u16 (sgasA 59 : Nat), .bool (!decide (famA 59 = 0))]) ∧ w' = w := by
  go_enter Hvah.func118, Hvah.ntmps118
  go_wp2
  exact bodyPost_ret (results_tmp4m Hvah.results118 _ _ _) rfl ⟨ret4 rfl rfl rfl rfl, rfl⟩
set_option maxRecDepth 100000 in
set_option maxHeartbeats 6400000 in
theorem mInfo60 (w : World) : Calls Hvah.prog 118 #[.int .u8 60] w fun e w' => e = .returned (.tuple #[.int .u8 (takesA 60 : Nat), .int .u8 (givesA 60 : Nat), .int .u16 (sgasA 60 : Nat), .bool (!decide (famA 60 = 0))]) ∧ w' = w := by
  go_enter Hvah.func118, Hvah.ntmps118
  go_wp2
  exact bodyPost_ret (results_tmp4m Hvah.results118 _ _ _) rfl ⟨ret4 rfl rfl rfl rfl, rfl⟩
set_option maxRecDepth 100000 in
set_option maxHeartbeats 6400000 in
theorem mInfo61 (w : World) : Calls Hvah.prog 118 #[.int .u8 61] w fun e w' => e = .returned (.tuple #[.int .u8 (takesA 61 : Nat), .int .u8 (givesA 61 : Nat), .int .u16 (sgasA 61 : Nat), .bool (!decide (famA 61 = 0))]) ∧ w' = w := by
  go_enter Hvah.func118, Hvah.ntmps118
  go_wp2
  exact bodyPost_ret (results_tmp4m Hvah.results118 _ _ _) rfl ⟨ret4 rfl rfl rfl rfl, rfl⟩
set_option maxRecDepth 100000 in
set_option maxHeartbeats 6400000 in
theorem mInfo62 (w : World) : Calls Hvah.prog 118 #[.int .u8 62] w fun e w' => e = .returned (.tuple #[.int .u8 (takesA 62 : Nat), .int .u8 (givesA 62 : Nat), .int .u16 (sgasA 62 : Nat), .bool (!decide (famA 62 = 0))]) ∧ w' = w := by
  go_enter Hvah.func118, Hvah.ntmps118
  go_wp2
  exact bodyPost_ret (results_tmp4m Hvah.results118 _ _ _) rfl ⟨ret4 rfl rfl rfl rfl, rfl⟩
set_option maxRecDepth 100000 in
set_option maxHeartbeats 6400000 in
theorem mInfo63 (w : World) : Calls Hvah.prog 118 #[.int .u8 63] w fun e w' => e = .returned (.tuple #[.int .u8 (takesA 63 : Nat), .int .u8 (givesA 63 : Nat), .int .u16 (sgasA 63 : Nat), .bool (!decide (famA 63 = 0))]) ∧ w' = w := by
  go_enter Hvah.func118, Hvah.ntmps118
  go_wp2
  exact bodyPost_ret (results_tmp4m Hvah.results118 _ _ _) rfl ⟨ret4 rfl rfl rfl rfl, rfl⟩
set_option maxRecDepth 100000 in
set_option maxHeartbeats 6400000 in
theorem mInfo64 (w : World) : Calls Hvah.prog 118 #[.int .u8 64] w fun e w' => e = .returned (.tuple #[.int .u8 (takesA 64 : Nat), .int .u8 (givesA 64 : Nat), .int .u16 (sgasA 64 : Nat), .bool (!decide (famA 64 = 0))]) ∧ w' = w := by
  go_enter Hvah.func118, Hvah.ntmps118
  go_wp2
  exact bodyPost_ret (results_tmp4m Hvah.results118 _ _ _) rfl ⟨ret4 rfl rfl rfl rfl, rfl⟩
set_option maxRecDepth 100000 in
set_option maxHeartbeats 6400000 in
theorem mInfo65 (w : World) : Calls Hvah.prog 118 #[.int .u8 65] w fun e w' => e = .returned (.tuple #[.int .u8 (takesA 65 : Nat), .int .u8 (givesA 65 : Nat), .int .u16 (sgasA 65 : Nat), .bool (!decide (famA 65 = 0))]) ∧ w' = w := by
  go_enter Hvah.func118, Hvah.ntmps118
  go_wp2
  exact bodyPost_ret (results_tmp4m Hvah.results118 _ _ _) rfl ⟨ret4 rfl rfl rfl rfl, rfl⟩
set_option maxRecDepth 100000 in
set_option maxHeartbeats 6400000 in
theorem mInfo66 (w : World) : Calls Hvah.prog 118 #[.int .u8 66] w fun e w' => e = .returned (.tuple #[.int .u8 (takesA 66 : Nat), .int .u8 (givesA 66 : Nat), .int .u16 (sgasA 66 : Nat), .bool (!decide (famA 66 = 0))]) ∧ w' = w := by
  go_enter Hvah.func118, Hvah.ntmps118
  go_wp2
  exact bodyPost_ret (results_tmp4m Hvah.results118 _ _ _) rfl ⟨ret4 rfl rfl rfl rfl, rfl⟩
set_option maxRecDepth 100000 in
set_option maxHeartbeats 6400000 in
theorem mInfo67 (w : World) : Calls Hvah.prog 118 #[.int .u8 67] w fun e w' => e = .returned (.tuple #[.int .u8 (takesA 67 : Nat), .int .u8 (givesA 67 : Nat), .int .u16 (sgasA 67 : Nat), .bool (!decide (famA 67 = 0))]) ∧ w' = w := by
  go_enter Hvah.func118, Hvah.ntmps118
  go_wp2
  exact bodyPost_ret (results_tmp4m Hvah.results118 _ _ _) rfl ⟨ret4 rfl rfl rfl rfl, rfl⟩
set_option maxRecDepth 100000 in
set_option maxHeartbeats 6400000 in
theorem mInfo68 (w : World) : Calls Hvah.prog 118 #[.int .u8 68] w fun e w' => e = .returned (.tuple #[.int .u8 (takesA 68 : Nat), .int .u8 (givesA 68 : Nat), .int .u16 (sgasA 68 : Nat), .bool (!decide (famA 68 = 0))]) ∧ w' = w := by
  go_enter Hvah.func118, Hvah.ntmps118
  go_wp2
  exact bodyPost_ret (results_tmp4m Hvah.results118 _ _ _) rfl ⟨ret4 rfl rfl rfl rfl, rfl⟩
set_option maxRecDepth 100000 in
set_option maxHeartbeats 6400000 in
theorem mInfo69 (w : World) : Calls Hvah.prog 118 #[.int .u8 69] w fun e w' => e = .returned (.tuple #[.int .u8 (takesA 69 : Nat), .int .u8 (givesA 69 : Nat), .int .u16 (sgasA 69 : Nat), .bool (!decide (famA 69 = 0))]) ∧ w' = w := by
  go_enter Hvah.func118, Hvah.ntmps118
  go_wp2
  exact bodyPost_ret (results_tmp4m Hvah.results118 _ _ _) rfl ⟨ret4 rfl rfl rfl rfl, rfl⟩
set_option maxRecDepth 100000 in
set_option maxHeartbeats 6400000 in
theorem mInfo70 (w : World) : Calls Hvah.prog 118 #[.int .u8 70] w fun e w' => e = .returned (.tuple #[.int .u8 (takesA 70 : Nat), .int .u8 (givesA 70 : Nat), .int .u16 (sgasA 70 : Nat), .bool (!decide (famA 70 = 0))]) ∧ w' = w := by
  go_enter Hvah.func118, Hvah.ntmps118
  go_wp2
  exact bodyPost_ret (results_tmp4m Hvah.results118 _ _ _) rfl ⟨ret4 rfl rfl rfl rfl, rfl⟩
set_option maxRecDepth 100000 in
set_option maxHeartbeats 6400000 in
theorem mInfo71 (w : World) : Calls Hvah.prog 118 #[.int .u8 71] w fun e w' => e = .returned (.tuple #[.int .u8 (takesA 71 : Nat), .int .u8 (givesA 71 : Nat), .int .u16 (sgasA 71 : Nat), .bool (!decide (famA 71 = 0))]) ∧ w' = w := by
  go_enter Hvah.func118, Hvah.ntmps118
  go_wp2
  exact bodyPost_ret (results_tmp4m Hvah.results118 _ _ _) rfl ⟨ret4 rfl rfl rfl rfl, rfl⟩
set_option maxRecDepth 100000 in
set_option maxHeartbeats 6400000 in
theorem mInfo72 (w : World) : Calls Hvah.prog 118 #[.int .u8 72] w fun e w' => e = .returned (.tuple #[.int .u8 (takesA 72 : Nat), .int .u8 (givesA 72 : Nat), .int .u16 (sgasA 72 : Nat), .bool (!decide (famA 72 = 0))]) ∧ w' = w := by
  go_enter Hvah.func118, Hvah.ntmps118
  go_wp2
  exact bodyPost_ret (results_tmp4m Hvah.results118 _ _ _) rfl ⟨ret4 rfl rfl rfl rfl, rfl⟩
set_option maxRecDepth 100000 in
set_option maxHeartbeats 6400000 in
theorem mInfo80 (w : World) : Calls Hvah.prog 118 #[.int .u8 80] w fun e w' => e = .returned (.tuple #[.int .u8 (takesA 80 : Nat), .int .u8 (givesA 80 : Nat), .int .u16 (sgasA 80 : Nat), .bool (!decide (famA 80 = 0))]) ∧ w' = w := by
  go_enter Hvah.func118, Hvah.ntmps118
  go_wp2
  exact bodyPost_ret (results_tmp4m Hvah.results118 _ _ _) rfl ⟨ret4 rfl rfl rfl rfl, rfl⟩
set_option maxRecDepth 100000 in
set_option maxHeartbeats 6400000 in
theorem mInfo81 (w : World) : Calls Hvah.prog 118 #[.int .u8 81] w fun e w' => e = .returned (.tuple #[.int .u8 (takesA 81 : Nat), .int .u8 (givesA 81 : Nat), .int .u16 (sgasA 81 : Nat), .bool (!decide (famA 81 = 0))]) ∧ w' = w := by
  go_enter Hvah.func118, Hvah.ntmps118
  go_wp2
  exact bodyPost_ret (results_tmp4m Hvah.results118 _ _ _) rfl ⟨ret4 rfl rfl rfl rfl, rfl⟩
set_option maxRecDepth 100000 in
set_option maxHeartbeats 6400000 in
theorem mInfo82 (w : World) : Calls Hvah.prog 118 #[.int .u8 82] w fun e w' => e = .returned (.tuple #[.int .u8 (takesA 82 : Nat), .int .u8 (givesA 82 : Nat), .int .u16 (sgasA 82 : Nat), .bool (!decide (famA 82 = 0))]) ∧ w' = w := by
  go_enter Hvah.func118, Hvah.ntmps118
  go_wp2
  exact bodyPost_ret (results_tmp4m Hvah.results118 _ _ _) rfl ⟨ret4 rfl rfl rfl rfl, rfl⟩
set_option maxRecDepth 100000 in
set_option maxHeartbeats 6400000 in
theorem mInfo83 (w : World) : Calls Hvah.prog 118 #[.int .u8 83] w fun e w' => e = .returned (.tuple #[.int .u8 (takesA 83 : Nat), .int .u8 (givesA 83 : Nat), .int .u16 (sgasA 83 : Nat), .bool (!decide (famA 83 = 0))]) ∧ w' = w := by
  go_enter Hvah.func118, Hvah.ntmps118
  go_wp2
  exact bodyPost_ret (results_tmp4m Hvah.results118 _ _ _) rfl ⟨ret4 rfl rfl rfl rfl, rfl⟩
set_option maxRecDepth 100000 in
set_option maxHeartbeats 6400000 in
theorem mInfo84 (w : World) : Calls Hvah.prog 118 #[.int .u8 84] w fun e w' => e = .returned (.tuple #[.int .u8 (takesA 84 : Nat), .int .u8 (givesA 84 : Nat), .int .u16 (sgasA 84 : Nat), .bool (!decide (famA 84 = 0))]) ∧ w' = w := by
  go_enter Hvah.func118, Hvah.ntmps118
  go_wp2
  exact bodyPost_ret (results_tmp4m Hvah.results118 _ _ _) rfl ⟨ret4 rfl rfl rfl rfl, rfl⟩
set_option maxRecDepth 100000 in
set_option maxHeartbeats 6400000 in
theorem mInfo85 (w : World) : Calls Hvah.prog 118 #[.int .u8 85] w fun e w' => e = .returned (.tuple #[.int .u8 (takesA 85 : Nat), .int .u8 (givesA 85 : Nat), .int .u16 (sgasA 85 : Nat), .bool (!decide (famA 85 = 0))]) ∧ w' = w := by
  go_enter Hvah.func118, Hvah.ntmps118
  go_wp2
  exact bodyPost_ret (results_tmp4m Hvah.results118 _ _ _) rfl ⟨ret4 rfl rfl rfl rfl, rfl⟩
set_option maxRecDepth 100000 in
set_option maxHeartbeats 6400000 in
theorem mInfo86 (w : World) : Calls Hvah.prog 118 #[.int .u8 86] w fun e w' => e = .returned (.tuple #[.int .u8 (takesA 86 : Nat), .int .u8 (givesA 86 : Nat), .int .u16 (sgasA 86 : Nat), .bool (!decide (famA 86 = 0))]) ∧ w' = w := by
  go_enter Hvah.func118, Hvah.ntmps118
  go_wp2
  exact bodyPost_ret (results_tmp4m Hvah.results118 _ _ _) rfl ⟨ret4 rfl rfl rfl rfl, rfl⟩
set_option maxRecDepth 100000 in
set_option maxHeartbeats 6400000 in
theorem mInfo87 (w : World) : Calls Hvah.prog 118 #[.int .u8 87] w fun e w' => e = .returned (.tuple #[.int .u8 (takesA 87 : Nat), .int .u8 (givesA 87 : Nat), .int .u16 (sgasA 87 : Nat), .bool (!decide (famA 87 = 0))]) ∧ w' = w := by
  go_enter Hvah.func118, Hvah.ntmps118
  go_wp2
  exact bodyPost_ret (results_tmp4m Hvah.results118 _ _ _) rfl ⟨ret4 rfl rfl rfl rfl, rfl⟩
set_option maxRecDepth 100000 in
set_option maxHeartbeats 6400000 in
theorem mInfo88 (w : World) : Calls Hvah.prog 118 #[.int .u8 88] w fun e w' => e = .returned (.tuple #[.int .u8 (takesA 88 : Nat), .int .u8 (givesA 88 : Nat), .int .u16 (sgasA 88 : Nat), .bool (!decide (famA 88 = 0))]) ∧ w' = w := by
  go_enter Hvah.func118, Hvah.ntmps118
  go_wp2
  exact bodyPost_ret (results_tmp4m Hvah.results118 _ _ _) rfl ⟨ret4 rfl rfl rfl rfl, rfl⟩
set_option maxRecDepth 100000 in
set_option maxHeartbeats 6400000 in
theorem mInfo89 (w : World) : Calls Hvah.prog 118 #[.int .u8 89] w fun e w' => e = .returned (.tuple #[.int .u8 (takesA 89 : Nat), .int .u8 (givesA 89 : Nat), .int .u16 (sgasA 89 : Nat), .bool (!decide (famA 89 = 0))]) ∧ w' = w := by
  go_enter Hvah.func118, Hvah.ntmps118
  go_wp2
  exact bodyPost_ret (results_tmp4m Hvah.results118 _ _ _) rfl ⟨ret4 rfl rfl rfl rfl, rfl⟩
set_option maxRecDepth 100000 in
set_option maxHeartbeats 6400000 in
theorem mInfo90 (w : World) : Calls Hvah.prog 118 #[.int .u8 90] w fun e w' => e = .returned (.tuple #[.int .u8 (takesA 90 : Nat), .int .u8 (givesA 90 : Nat), .int .u16 (sgasA 90 : Nat), .bool (!decide (famA 90 = 0))]) ∧ w' = w := by
  go_enter Hvah.func118, Hvah.ntmps118
  go_wp2
  exact bodyPost_ret (results_tmp4m Hvah.results118 _ _ _) rfl ⟨ret4 rfl rfl rfl rfl, rfl⟩
set_option maxRecDepth 100000 in
set_option maxHeartbeats 6400000 in
theorem mInfo91 (w : World) : Calls Hvah.prog 118 #[.int .u8 91] w fun e w' => e = .returned (.tuple #[.int .u8 (takesA 91 : Nat), .int .u8 (givesA 91 : Nat), .int .u16 (sgasA 91 : Nat), .bool (!decide (famA 91 = 0))]) ∧ w' = w := by
  go_enter Hvah.func118, Hvah.ntmps118
  go_wp2
  exact bodyPost_ret (results_tmp4m Hvah.results118 _ _ _) rfl ⟨ret4 rfl rfl rfl rfl, rfl⟩
set_option maxRecDepth 100000 in
set_option maxHeartbeats 6400000 in
theorem mInfo92 (w : World) : Calls Hvah.prog 118 #[.int .u8 92] w fun e w' => e = .returned (.tuple #[.int .u8 (takesA 92 : Nat), .int .u8 (givesA 92 : Nat), .int .u16 (sgasA 92 : Nat), .bool (!decide (famA 92 = 0))]) ∧ w' = w := by
  go_enter Hvah.func118, Hvah.ntmps118
  go_wp2
  exact bodyPost_ret (results_tmp4m Hvah.results118 _ _ _) rfl ⟨ret4 rfl rfl rfl rfl, rfl⟩
set_option maxRecDepth 100000 in
set_option maxHeartbeats 6400000 in
theorem mInfo93 (w : World) : Calls Hvah.prog 118 #[.int .u8 93] w fun e w' => e = .returned (.tuple #[.int .u8 (takesA 93 : Nat), .int .u8 (givesA 93 : Nat), .int .u16 (sgasA 93 : Nat), .bool (!decide (famA 93 = 0))]) ∧ w' = w := by
  go_enter Hvah.func118, Hvah.ntmps118
  go_wp2
  exact bodyPost_ret (results_tmp4m Hvah.results118 _ _ _) rfl ⟨ret4 rfl rfl rfl rfl, rfl⟩
set_option maxRecDepth 100000 in
set_option maxHeartbeats 6400000 in
theorem mInfo94 (w : World) : Calls Hvah.prog 118 #[.int .u8 94] w fun e w' => e = .returned (.tuple #[.int .u8 (takesA 94 : Nat), .int .u8 (givesA 94 : Nat), .int .u16 (sgasA 94 : Nat), .bool (!decide (famA 94 = 0))]) ∧ w' = w := by
  go_enter Hvah.func118, Hvah.ntmps118
  go_wp2
  exact bodyPost_ret (results_tmp4m Hvah.results118 _ _ _) rfl ⟨ret4 rfl rfl rfl rfl, rfl⟩
set_option maxRecDepth 100000 in
set_option maxHeartbeats 6400000 in
theorem mInfo95 (w : World) : Calls Hvah.prog 118 #[.int .u8 95] w fun e w' => e = .returned (.tuple #[.int .u8 (takesA 95 : Nat), .int .u8 (givesA 95 : Nat), .int .u16 (sgasA 95 : Nat), .bool (!decide (famA 95 = 0))]) ∧ w' = w := by
  go_enter Hvah.func118, Hvah.ntmps118
  go_wp2
  exact bodyPost_ret (results_tmp4m Hvah.results118 _ _ _) rfl ⟨ret4 rfl rfl rfl rfl, rfl⟩
set_option maxRecDepth 100000 in
set_option maxHeartbeats 6400000 in
theorem mInfo240 (w : World) : Calls Hvah.prog 118 #[.int .u8 240] w fun e w' => e = .returned (.tuple #[.int .u8 (takesA 240 : Nat), .int .u8 (givesA 240 : Nat), .int .u16 (sgasA 240 : Nat), .bool (!decide (famA 240 = 0))]) ∧ w' = w := by
  go_enter Hvah.func118, Hvah.ntmps118
  go_wp2
  exact bodyPost_ret (results_tmp4m Hvah.results118 _ _ _) rfl ⟨ret4 rfl rfl rfl rfl, rfl⟩
set_option maxRecDepth 100000 in
set_option maxHeartbeats 6400000 in
theorem mInfo241 (w : World) : Calls Hvah.prog 118 #[.int .u8 241] w fun e w' => e = .returned (.tuple #[.int .u8 (takesA 241 : Nat), .int .u8 (givesA 241 : Nat), .int .u16 (sgasA 241 : Nat), .bool (!decide (famA 241 = 0))]) ∧ w' = w := by
  go_enter Hvah.func118, Hvah.ntmps118
  go_wp2
  exact bodyPost_ret (results_tmp4m Hvah.results118 _ _ _) rfl ⟨ret4 rfl rfl rfl rfl, rfl⟩
set_option maxRecDepth 100000 in
set_option maxHeartbeats 6400000 in
theorem mInfo242 (w : World) : Calls Hvah.prog 118 #[.int .u8 242] w fun e w' => e = .returned (.tuple #[.int .u8 (takesA 242 : Nat), .int .u8 (givesA 242 : Nat), .int .u16 (sgasA 242 : Nat), .bool (!decide (famA 242 = 0))]) ∧ w' = w := by
  go_enter Hvah.func118, Hvah.ntmps118
  go_wp2
  exact bodyPost_ret (results_tmp4m Hvah.results118 _ _ _) rfl ⟨ret4 rfl rfl rfl rfl, rfl⟩
set_option maxRecDepth 100000 in
set_option maxHeartbeats 6400000 in
theorem mInfo243 (w : World) : Calls Hvah.prog 118 #[.int .u8 243] w fun e w' => e = .returned (.tuple #[.int .u8 (takesA 243 : Nat), .int .u8 (givesA 243 : Nat), .int .u16 (sgasA 243 : Nat), .bool (!decide (famA 243 = 0))]) ∧ w' = w := by
  go_enter Hvah.func118, Hvah.ntmps118
  go_wp2
  exact bodyPost_ret (results_tmp4m Hvah.results118 _ _ _) rfl ⟨ret4 rfl rfl rfl rfl, rfl⟩
set_option maxRecDepth 100000 in
set_option maxHeartbeats 6400000 in
theorem mInfo244 (w : World) : Calls Hvah.prog 118 #[.int .u8 244] w fun e w' => e = .returned (.tuple #[.int .u8 (takesA 244 : Nat), .int .u8 (givesA 244 : Nat), .int .u16 (sgasA 244 : Nat), .bool (!decide (famA 244 = 0))]) ∧ w' = w := by
  go_enter Hvah.func118, Hvah.ntmps118
  go_wp2
  exact bodyPost_ret (results_tmp4m Hvah.results118 _ _ _) rfl ⟨ret4 rfl rfl rfl rfl, rfl⟩
set_option maxRecDepth 100000 in
set_option maxHeartbeats 6400000 in
theorem mInfo245 (w : World) : Calls Hvah.prog 118 #[.int .u8 245] w fun e w' => e = .returned (.tuple #[.int .u8 (takesA 245 : Nat), .int .u8 (givesA 245 : Nat), .int .u16 (sgasA 245 : Nat), .bool (!decide (famA 245 = 0))]) ∧ w' = w := by
  go_enter Hvah.func118, Hvah.ntmps118
  go_wp2
  exact bodyPost_ret (results_tmp4m Hvah.results118 _ _ _) rfl ⟨ret4 rfl rfl rfl rfl, rfl⟩
set_option maxRecDepth 100000 in
set_option maxHeartbeats 6400000 in
theorem mInfo250 (w : World) : Calls Hvah.prog 118 #[.int .u8 250] w fun e w' => e = .returned (.tuple #[.int .u8 (takesA 250 : Nat), .int .u8 (givesA 250 : Nat), .int .u16 (sgasA 250 : Nat), .bool (!decide (famA 250 = 0))]) ∧ w' = w := by
  go_enter Hvah.func118, Hvah.ntmps118
  go_wp2
  exact bodyPost_ret (results_tmp4m Hvah.results118 _ _ _) rfl ⟨ret4 rfl rfl rfl rfl, rfl⟩
set_option maxRecDepth 100000 in
set_option maxHeartbeats 6400000 in
theorem mInfo253 (w : World) : Calls Hvah.prog 118 #[.int .u8 253] w fun e w' => e = .returned (.tuple #[.int .u8 (takesA 253 : Nat), .int .u8 (givesA 253 : Nat), .int .u16 (sgasA 253 : Nat), .bool (!decide (famA 253 = 0))]) ∧ w' = w := by
  go_enter Hvah.func118, Hvah.ntmps118
  go_wp2
  exact bodyPost_ret (results_tmp4m Hvah.results118 _ _ _) rfl ⟨ret4 rfl rfl rfl rfl, rfl⟩
set_option maxRecDepth 100000 in
set_option maxHeartbeats 6400000 in
theorem mInfo255 (w : World) : Calls Hvah.prog 118 #[.int .u8 255] w fun e w' => e = .returned (.tuple #[.int .u8 (takesA 255 : Nat), .int .u8 (givesA 255 : Nat), .int .u16 (sgasA 255 : Nat), .bool (!decide (famA 255 = 0))]) ∧ w' = w := by
  go_enter Hvah.func118, Hvah.ntmps118
  go_wp2
  exact bodyPost_ret (results_tmp4m Hvah.results118 _ _ _) rfl ⟨ret4 rfl rfl rfl rfl, rfl⟩
set_option maxRecDepth 100000 in
set_option maxHeartbeats 6400000 in
theorem mInfoR96 (o : Nat) (h1 : 96 ≤ o) (h2 : o ≤ 127) (w : World) : Calls Hvah.prog 118 #[.int .u8 o] w fun e w' => e = .returned (.tuple #[.int .u8 (takesA o : Nat), .int .u8 (givesA o : Nat), .int .u16 (sgasA o : Nat), .bool (!decide (famA o = 0))]) ∧ w' = w := by
  have i1 : (96 : Int) ≤ o := by omega
  have i2 : (o : Int) ≤ 127 := by omega
  have hf2 : famA o = 2 := by unfold famA; (repeat (first | rw [if_pos (by omega)] | rw [if_neg (by omega)]))
  have hf : famA o ≠ 0 := by rw [hf2]; decide
  have ht : takesA o = 0 := by unfold takesA; rw [if_neg hf]; (repeat (first | rw [if_pos (by omega)] | rw [if_neg (by omega)])); try (rw [hf2]; rfl)
  have hg : givesA o = 1 := by unfold givesA; rw [if_neg hf]; (repeat (first | rw [if_pos (by omega)] | rw [if_neg (by omega)])); try (rw [hf2]; rfl)
  have hs : sgasA o = 3 := by unfold sgasA; (repeat (first | rw [if_pos (by omega)] | rw [if_neg (by omega)]))
  rw [ht, hg, hs, decide_eq_false hf]
  clear ht hg hs hf hf2
  go_enter Hvah.func118, Hvah.ntmps118
  go_wp2
  refine bodyPost_ret (results_tmp4m Hvah.results118 _ _ _) rfl ⟨ret4 ?_ ?_ ?_ rfl, rfl⟩
  all_goals first | rfl | (simp only [IntKind.wrap_u8, IntKind.wrap_u16]; omega) | omega
set_option maxRecDepth 100000 in
set_option maxHeartbeats 6400000 in
theorem mInfoR128 (o : Nat) (h1 : 128 ≤ o) (h2 : o ≤ 143) (w : World) : Calls Hvah.prog 118 #[.int .u8 o] w fun e w' => e = .returned (.tuple #[.int .u8 (takesA o : Nat), .int .u8 (givesA o : Nat), .int .u16 (sgasA o : Nat), .bool (!decide (famA o = 0))]) ∧ w' = w := by
  have i1 : (128 : Int) ≤ o := by omega
  have i2 : (o : Int) ≤ 143 := by omega
  have n96 : ¬ (o : Int) ≤ 127 := by omega
  have m96 : (96 : Int) ≤ o := by omega
  have hf2 : famA o = 2 := by unfold famA; (repeat (first | rw [if_pos (by omega)] | rw [if_neg (by omega)]))
  have hf : famA o ≠ 0 := by rw [hf2]; decide
  have ht : takesA o = o - 128 + 1 := by unfold takesA; rw [if_neg hf]; (repeat (first | rw [if_pos (by omega)] | rw [if_neg (by omega)])); try (rw [hf2]; rfl)
  have hg : givesA o = o - 128 + 2 := by unfold givesA; rw [if_neg hf]; (repeat (first | rw [if_pos (by omega)] | rw [if_neg (by omega)])); try (rw [hf2]; rfl)
  have hs : sgasA o = 3 := by unfold sgasA; (repeat (first | rw [if_pos (by omega)] | rw [if_neg (by omega)]))
  rw [ht, hg, hs, decide_eq_false hf]
  clear ht hg hs hf hf2
  go_enter Hvah.func118, Hvah.ntmps118
  go_wp2
  refine bodyPost_ret (results_tmp4m Hvah.results118 _ _ _) rfl ⟨ret4 ?_ ?_ ?_ rfl, rfl⟩
  all_goals first | rfl | (simp only [IntKind.wrap_u8, IntKind.wrap_u16]; omega) | omega
set_option maxRecDepth 100000 in
set_option maxHeartbeats 6400000 in
theorem mInfoR144 (o : Nat) (h1 : 144 ≤ o) (h2 : o ≤ 159) (w : World) : Calls Hvah.prog 118 #[.int .u8 o] w fun e w' => e = .returned (.tuple #[.int .u8 (takesA o : Nat), .int .u8 (givesA o : Nat), .int .u16 (sgasA o : Nat), .bool (!decide (famA o = 0))]) ∧ w' = w := by
  have i1 : (144 : Int) ≤ o := by omega
  have i2 : (o : Int) ≤ 159 := by omega
  have n96 : ¬ (o : Int) ≤ 127 := by omega
  have m96 : (96 : Int) ≤ o := by omega
  have n128 : ¬ (o : Int) ≤ 143 := by omega
  have m128 : (128 : Int) ≤ o := by omega
  have hf2 : famA o = 2 := by unfold famA; (repeat (first | rw [if_pos (by omega)] | rw [if_neg (by omega)]))
  have hf : famA o ≠ 0 := by rw [hf2]; decide
  have ht : takesA o = o - 144 + 2 := by unfold takesA; rw [if_neg hf]; (repeat (first | rw [if_pos (by omega)] | rw [if_neg (by omega)])); try (rw [hf2]; rfl)
  have hg : givesA o = o - 144 + 2 := by unfold givesA; rw [if_neg hf]; (repeat (first | rw [if_pos (by omega)] | rw [if_neg (by omega)])); try (rw [hf2]; rfl)
  have hs : sgasA o = 3 := by unfold sgasA; (repeat (first | rw [if_pos (by omega)] | rw [if_neg (by omega)]))
  rw [ht, hg, hs, decide_eq_false hf]
  clear ht hg hs hf hf2
  go_enter Hvah.func118, Hvah.ntmps118
  go_wp2
  refine bodyPost_ret (results_tmp4m Hvah.results118 _ _ _) rfl ⟨ret4 ?_ ?_ ?_ rfl, rfl⟩
  all_goals first | rfl | (simp only [IntKind.wrap_u8, IntKind.wrap_u16]; omega) | omega
set_option maxRecDepth 100000 in
set_option maxHeartbeats 6400000 in
theorem mInfoR160 (o : Nat) (h1 : 160 ≤ o) (h2 : o ≤ 164) (w : World) : Calls Hvah.prog 118 #[.int .u8 o] w fun e w' => e = .returned (.tuple #[.int .u8 (takesA o : Nat), .int .u8 (givesA o : Nat), .int .u16 (sgasA o : Nat), .bool (!decide (famA o = 0))]) ∧ w' = w := by
  have i1 : (160 : Int) ≤ o := by omega
  have i2 : (o : Int) ≤ 164 := by omega
  have n96 : ¬ (o : Int) ≤ 127 := by omega
  have m96 : (96 : Int) ≤ o := by omega
  have n128 : ¬ (o : Int) ≤ 143 := by omega
  have m128 : (128 : Int) ≤ o := by omega
  have n144 : ¬ (o : Int) ≤ 159 := by omega
  have m144 : (144 : Int) ≤ o := by omega
  have hf2 : famA o = 8 := by unfold famA; (repeat (first | rw [if_pos (by omega)] | rw [if_neg (by omega)]))
  have hf : famA o ≠ 0 := by rw [hf2]; decide
  have ht : takesA o = o - 160 + 2 := by unfold takesA; rw [if_neg hf]; (repeat (first | rw [if_pos (by omega)] | rw [if_neg (by omega)])); try (rw [hf2]; rfl)
  have hg : givesA o = 0 := by unfold givesA; rw [if_neg hf]; (repeat (first | rw [if_pos (by omega)] | rw [if_neg (by omega)])); try (rw [hf2]; rfl)
  have hs : sgasA o = 375 * (o - 160 + 1) := by unfold sgasA; (repeat (first | rw [if_pos (by omega)] | rw [if_neg (by omega)]))
  rw [ht, hg, hs, decide_eq_false hf]
  clear ht hg hs hf hf2
  go_enter Hvah.func118, Hvah.ntmps118
  go_wp2
  refine bodyPost_ret (results_tmp4m Hvah.results118 _ _ _) rfl ⟨ret4 ?_ ?_ ?_ rfl, rfl⟩
  all_goals first | rfl | (simp only [IntKind.wrap_u8, IntKind.wrap_u16]; omega) | omega
set_option maxRecDepth 100000 in
set_option maxHeartbeats 6400000 in
theorem mInfoF (o : Nat) (ho : o < 256) (h0 : o ≠ 0) (h1 : o ≠ 1) (h2 : o ≠ 2) (h3 : o ≠ 3) (h4 : o ≠ 4) (h5 : o ≠ 5) (h6 : o ≠ 6) (h7 : o ≠ 7) (h8 : o ≠ 8) (h9 : o ≠ 9) (h10 : o ≠ 10) (h11 : o ≠ 11) (h16 : o ≠ 16) (h17 : o ≠ 17) (h18 : o ≠ 18) (h19 : o ≠ 19) (h20 : o ≠ 20) (h21 : o ≠ 21) (h22 : o ≠ 22) (h23 : o ≠ 23) (h24 : o ≠ 24) (h25 : o ≠ 25) (h26 : o ≠ 26) (h27 : o ≠ 27) (h28 : o ≠ 28) (h29 : o ≠ 29) (h32 : o ≠ 32) (h48 : o ≠ 48) (h49 : o ≠ 49) (h50 : o ≠ 50) (h51 : o ≠ 51) (h52 : o ≠ 52) (h53 : o ≠ 53) (h54 : o ≠ 54) (h55 : o ≠ 55) (h56 : o ≠ 56) (h57 : o ≠ 57) (h58 : o ≠ 58) (h59 : o ≠ 59) (h60 : o ≠ 60) (h61 : o ≠ 61) (h62 : o ≠ 62) (h63 : o ≠ 63) (h64 : o ≠ 64) (h65 : o ≠ 65) (h66 : o ≠ 66) (h67 : o ≠ 67) (h68 : o ≠ 68) (h69 : o ≠ 69) (h70 : o ≠ 70) (h71 : o ≠ 71) (h72 : o ≠ 72) (h80 : o ≠ 80) (h81 : o ≠ 81) (h82 : o ≠ 82) (h83 : o ≠ 83) (h84 : o ≠ 84) (h85 : o ≠ 85) (h86 : o ≠ 86) (h87 : o ≠ 87) (h88 : o ≠ 88) (h89 : o ≠ 89) (h90 : o ≠ 90) (h91 : o ≠ 91) (h92 : o ≠ 92) (h93 : o ≠ 93) (h94 : o ≠ 94) (h95 : o ≠ 95) (h240 : o ≠ 240) (h241 : o ≠ 241) (h242 : o ≠ 242) (h243 : o ≠ 243) (h244 : o ≠ 244) (h245 : o ≠ 245) (h250 : o ≠ 250) (h253 : o ≠ 253) (h255 : o ≠ 255) (hr : ¬ (96 ≤ o ∧ o ≤ 164)) (w : World) : Calls Hvah.prog 118 #[.int .u8 o] w fun e w' => e = .returned (.tuple #[.int .u8 (takesA o : Nat), .int .u8 (givesA o : Nat), .int .u16 (sgasA o : Nat), .bool (!decide (famA o = 0))]) ∧ w' = w := by
  have hf : famA o = 0 := by unfold famA; (repeat (first | rw [if_neg (by omega)]))
  have ht : takesA o = 0 := by unfold takesA; rw [if_pos hf]
  have hg : givesA o = 0 := by unfold givesA; rw [if_pos hf]
  have hs : sgasA o = 0 := by unfold sgasA; (repeat (first | rw [if_neg (by omega)]))
  rw [ht, hg, hs, decide_eq_true hf]
  clear ht hg hs hf
  have k0 : (o : Int) < 96 ∨ (164 : Int) < o := by omega
  have i0 : ((o : Int) == 0) = false := by rw [beq_eq_false_iff_ne]; omega
  have i1 : ((o : Int) == 1) = false := by rw [beq_eq_false_iff_ne]; omega
  have i2 : ((o : Int) == 2) = false := by rw [beq_eq_false_iff_ne]; omega
  have i3 : ((o : Int) == 3) = false := by rw [beq_eq_false_iff_ne]; omega
  have i4 : ((o : Int) == 4) = false := by rw [beq_eq_false_iff_ne]; omega
  have i5 : ((o : Int) == 5) = false := by rw [beq_eq_false_iff_ne]; omega
  have i6 : ((o : Int) == 6) = false := by rw [beq_eq_false_iff_ne]; omega
  have i7 : ((o : Int) == 7) = false := by rw [beq_eq_false_iff_ne]; omega
  have i8 : ((o : Int) == 8) = false := by rw [beq_eq_false_iff_ne]; omega
  have i9 : ((o : Int) == 9) = false := by rw [beq_eq_false_iff_ne]; omega
  have i10 : ((o : Int) == 10) = false := by rw [beq_eq_false_iff_ne]; omega
  have i11 : ((o : Int) == 11) = false := by rw [beq_eq_false_iff_ne]; omega
  have i16 : ((o : Int) == 16) = false := by rw [beq_eq_false_iff_ne]; omega
  have i17 : ((o : Int) == 17) = false := by rw [beq_eq_false_iff_ne]; omega
  have i18 : ((o : Int) == 18) = false := by rw [beq_eq_false_iff_ne]; omega
  have i19 : ((o : Int) == 19) = false := by rw [beq_eq_false_iff_ne]; omega
  have i20 : ((o : Int) == 20) = false := by rw [beq_eq_false_iff_ne]; omega
  have i21 : ((o : Int) == 21) = false := by rw [beq_eq_false_iff_ne]; omega
  have i22 : ((o : Int) == 22) = false := by rw [beq_eq_false_iff_ne]; omega
  have i23 : ((o : Int) == 23) = false := by rw [beq_eq_false_iff_ne]; omega
  have i24 : ((o : Int) == 24) = false := by rw [beq_eq_false_iff_ne]; omega
  have i25 : ((o : Int) == 25) = false := by rw [beq_eq_false_iff_ne]; omega
  have i26 : ((o : Int) == 26) = false := by rw [beq_eq_false_iff_ne]; omega
  have i27 : ((o : Int) == 27) = false := by rw [beq_eq_false_iff_ne]; omega
  have i28 : ((o : Int) == 28) = false := by rw [beq_eq_false_iff_ne]; omega
  have i29 : ((o : Int) == 29) = false := by rw [beq_eq_false_iff_ne]; omega
  have i32 : ((o : Int) == 32) = false := by rw [beq_eq_false_iff_ne]; omega
  have i48 : ((o : Int) == 48) = false := by rw [beq_eq_false_iff_ne]; omega
  have i49 : ((o : Int) == 49) = false := by rw [beq_eq_false_iff_ne]; omega
  have i50 : ((o : Int) == 50) = false := by rw [beq_eq_false_iff_ne]; omega
  have i51 : ((o : Int) == 51) = false := by rw [beq_eq_false_iff_ne]; omega
  have i52 : ((o : Int) == 52) = false := by rw [beq_eq_false_iff_ne]; omega
  have i53 : ((o : Int) == 53) = false := by rw [beq_eq_false_iff_ne]; omega
  have i54 : ((o : Int) == 54) = false := by rw [beq_eq_false_iff_ne]; omega
  have i55 : ((o : Int) == 55) = false := by rw [beq_eq_false_iff_ne]; omega
  have i56 : ((o : Int) == 56) = false := by rw [beq_eq_false_iff_ne]; omega
  have i57 : ((o : Int) == 57) = false := by rw [beq_eq_false_iff_ne]; omega
  have i58 : ((o : Int) == 58) = false := by rw [beq_eq_false_iff_ne]; omega
  have i59 : ((o : Int) == 59) = false := by rw [beq_eq_false_iff_ne]; omega
  have i60 : ((o : Int) == 60) = false := by rw [beq_eq_false_iff_ne]; omega
  have i61 : ((o : Int) == 61) = false := by rw [beq_eq_false_iff_ne]; omega
  have i62 : ((o : Int) == 62) = false := by rw [beq_eq_false_iff_ne]; omega
  have i63 : ((o : Int) == 63) = false := by rw [beq_eq_false_iff_ne]; omega
  have i64 : ((o : Int) == 64) = false := by rw [beq_eq_false_iff_ne]; omega
  have i65 : ((o : Int) == 65) = false := by rw [beq_eq_false_iff_ne]; omega
  have i66 : ((o : Int) == 66) = false := by rw [beq_eq_false_iff_ne]; omega
  have i67 : ((o : Int) == 67) = false := by rw [beq_eq_false_iff_ne]; omega
  have i68 : ((o : Int) == 68) = false := by rw [beq_eq_false_iff_ne]; omega
  have i69 : ((o : Int) == 69) = false := by rw [beq_eq_false_iff_ne]; omega
  have i70 : ((o : Int) == 70) = false := by rw [beq_eq_false_iff_ne]; omega
  have i71 : ((o : Int) == 71) = false := by rw [beq_eq_false_iff_ne]; omega
  have i72 : ((o : Int) == 72) = false := by rw [beq_eq_false_iff_ne]; omega
  have i80 : ((o : Int) == 80) = false := by rw [beq_eq_false_iff_ne]; omega
  have i81 : ((o : Int) == 81) = false := by rw [beq_eq_false_iff_ne]; omega
  have i82 : ((o : Int) == 82) = false := by rw [beq_eq_false_iff_ne]; omega
  have i83 : ((o : Int) == 83) = false := by rw [beq_eq_false_iff_ne]; omega
  have i84 : ((o : Int) == 84) = false := by rw [beq_eq_false_iff_ne]; omega
  have i85 : ((o : Int) == 85) = false := by rw [beq_eq_false_iff_ne]; omega
  have i86 : ((o : Int) == 86) = false := by rw [beq_eq_false_iff_ne]; omega
  have i87 : ((o : Int) == 87) = false := by rw [beq_eq_false_iff_ne]; omega
  have i88 : ((o : Int) == 88) = false := by rw [beq_eq_false_iff_ne]; omega
  have i89 : ((o : Int) == 89) = false := by rw [beq_eq_false_iff_ne]; omega
  have i90 : ((o : Int) == 90) = false := by rw [beq_eq_false_iff_ne]; omega
  have i91 : ((o : Int) == 91) = false := by rw [beq_eq_false_iff_ne]; omega
  have i92 : ((o : Int) == 92) = false := by rw [beq_eq_false_iff_ne]; omega
  have i93 : ((o : Int) == 93) = false := by rw [beq_eq_false_iff_ne]; omega
  have i94 : ((o : Int) == 94) = false := by rw [beq_eq_false_iff_ne]; omega
  have i95 : ((o : Int) == 95) = false := by rw [beq_eq_false_iff_ne]; omega
  have i240 : ((o : Int) == 240) = false := by rw [beq_eq_false_iff_ne]; omega
  have i241 : ((o : Int) == 241) = false := by rw [beq_eq_false_iff_ne]; omega
  have i242 : ((o : Int) == 242) = false := by rw [beq_eq_false_iff_ne]; omega
  have i243 : ((o : Int) == 243) = false := by rw [beq_eq_false_iff_ne]; omega
  have i244 : ((o : Int) == 244) = false := by rw [beq_eq_false_iff_ne]; omega
  have i245 : ((o : Int) == 245) = false := by rw [beq_eq_false_iff_ne]; omega
  have i250 : ((o : Int) == 250) = false := by rw [beq_eq_false_iff_ne]; omega
  have i253 : ((o : Int) == 253) = false := by rw [beq_eq_false_iff_ne]; omega
  have i255 : ((o : Int) == 255) = false := by rw [beq_eq_false_iff_ne]; omega
  rcases k0 with k0 | k0
  · have n1 : ¬ (96 : Int) ≤ o := by omega
    have n2 : ¬ (128 : Int) ≤ o := by omega
    have n3 : ¬ (144 : Int) ≤ o := by omega
    have n4 : ¬ (160 : Int) ≤ o := by omega
    clear k0
    go_enter Hvah.func118, Hvah.ntmps118
    go_wp2
    exact bodyPost_ret (results_tmp4m Hvah.results118 _ _ _) rfl ⟨ret4 rfl rfl rfl rfl, rfl⟩
  · have n1 : ¬ (o : Int) ≤ 127 := by omega
    have n2 : ¬ (o : Int) ≤ 143 := by omega
    have n3 : ¬ (o : Int) ≤ 159 := by omega
    have n4 : ¬ (o : Int) ≤ 164 := by omega
    have m1 : (96 : Int) ≤ o := by omega
    have m2 : (128 : Int) ≤ o := by omega
    have m3 : (144 : Int) ≤ o := by omega
    have m4 : (160 : Int) ≤ o := by omega
    clear k0
    go_enter Hvah.func118, Hvah.ntmps118
    go_wp2
    exact bodyPost_ret (results_tmp4m Hvah.results118 _ _ _) rfl ⟨ret4 rfl rfl rfl rfl, rfl⟩
theorem mInfo (o : Nat) (ho : o < 256) (w : World) : Calls Hvah.prog 118 #[.int .u8 o] w fun e w' => e = .returned (.tuple #[.int .u8 (takesA o : Nat), .int .u8 (givesA o : Nat), .int .u16 (sgasA o : Nat), .bool (!decide (famA o = 0))]) ∧ w' = w := by
  by_cases r96 : 96 ≤ o ∧ o ≤ 127
  · exact mInfoR96 o r96.1 r96.2 w
  by_cases r128 : 128 ≤ o ∧ o ≤ 143
  · exact mInfoR128 o r128.1 r128.2 w
  by_cases r144 : 144 ≤ o ∧ o ≤ 159
  · exact mInfoR144 o r144.1 r144.2 w
  by_cases r160 : 160 ≤ o ∧ o ≤ 164
  · exact mInfoR160 o r160.1 r160.2 w
  by_cases h0 : o = 0
  · subst h0; exact mInfo0 w
  by_cases h1 : o = 1
  · subst h1; exact mInfo1 w
  by_cases h2 : o = 2
  · subst h2; exact mInfo2 w
  by_cases h3 : o = 3
  · subst h3; exact mInfo3 w
  by_cases h4 : o = 4
  · subst h4; exact mInfo4 w
  by_cases h5 : o = 5
  · subst h5; exact mInfo5 w
  by_cases h6 : o = 6
  · subst h6; exact mInfo6 w
  by_cases h7 : o = 7
  · subst h7; exact mInfo7 w
  by_cases h8 : o = 8
  · subst h8; exact mInfo8 w
  by_cases h9 : o = 9
  · subst h9; exact mInfo9 w
  by_cases h10 : o = 10
  · subst h10; exact mInfo10 w
  by_cases h11 : o = 11
  · subst h11; exact mInfo11 w
  by_cases h16 : o = 16
  · subst h16; exact mInfo16 w
  by_cases h17 : o = 17
  · subst h17; exact mInfo17 w
  by_cases h18 : o = 18
  · subst h18; exact mInfo18 w
  by_cases h19 : o = 19
  · subst h19; exact mInfo19 w
  by_cases h20 : o = 20
  · subst h20; exact mInfo20 w
  by_cases h21 : o = 21
  · subst h21; exact mInfo21 w
  by_cases h22 : o = 22
  · subst h22; exact mInfo22 w
  by_cases h23 : o = 23
  · subst h23; exact mInfo23 w
  by_cases h24 : o = 24
  · subst h24; exact mInfo24 w
  by_cases h25 : o = 25
  · subst h25; exact mInfo25 w
  by_cases h26 : o = 26
  · subst h26; exact mInfo26 w
  by_cases h27 : o = 27
  · subst h27; exact mInfo27 w
  by_cases h28 : o = 28
  · subst h28; exact mInfo28 w
  by_cases h29 : o = 29
  · subst h29; exact mInfo29 w
  by_cases h32 : o = 32
  · subst h32; exact mInfo32 w
  by_cases h48 : o = 48
  · subst h48; exact mInfo48 w
  by_cases h49 : o = 49
  · subst h49; exact mInfo49 w
  by_cases h50 : o = 50
  · subst h50; exact mInfo50 w
  by_cases h51 : o = 51
  · subst h51; exact mInfo51 w
  by_cases h52 : o = 52
  · subst h52; exact mInfo52 w
  by_cases h53 : o = 53
  · subst h53; exact mInfo53 w
  by_cases h54 : o = 54
  · subst h54; exact mInfo54 w
  by_cases h55 : o = 55
  · subst h55; exact mInfo55 w
  by_cases h56 : o = 56
  · subst h56; exact mInfo56 w
  by_cases h57 : o = 57
  · subst h57; exact mInfo57 w
  by_cases h58 : o = 58
  · subst h58; exact mInfo58 w
  by_cases h59 : o = 59
  · subst h59; exact mInfo59 w
  by_cases h60 : o = 60
  · subst h60; exact mInfo60 w
  by_cases h61 : o = 61
  · subst h61; exact mInfo61 w
  by_cases h62 : o = 62
  · subst h62; exact mInfo62 w
  by_cases h63 : o = 63
  · subst h63; exact mInfo63 w
  by_cases h64 : o = 64
  · subst h64; exact mInfo64 w
  by_cases h65 : o = 65
  · subst h65; exact mInfo65 w
  by_cases h66 : o = 66
  · subst h66; exact mInfo66 w
  by_cases h67 : o = 67
  · subst h67; exact mInfo67 w
  by_cases h68 : o = 68
  · subst h68; exact mInfo68 w
  by_cases h69 : o = 69
  · subst h69; exact mInfo69 w
  by_cases h70 : o = 70
  · subst h70; exact mInfo70 w
  by_cases h71 : o = 71
  · subst h71; exact mInfo71 w
  by_cases h72 : o = 72
  · subst h72; exact mInfo72 w
  by_cases h80 : o = 80
  · subst h80; exact mInfo80 w
  by_cases h81 : o = 81
  · subst h81; exact mInfo81 w
  by_cases h82 : o = 82
  · subst h82; exact mInfo82 w
  by_cases h83 : o = 83
  · subst h83; exact mInfo83 w
  by_cases h84 : o = 84
  · subst h84; exact mInfo84 w
  by_cases h85 : o = 85
  · subst h85; exact mInfo85 w
  by_cases h86 : o = 86
  · subst h86; exact mInfo86 w
  by_cases h87 : o = 87
  · subst h87; exact mInfo87 w
  by_cases h88 : o = 88
  · subst h88; exact mInfo88 w
  by_cases h89 : o = 89
  · subst h89; exact mInfo89 w
  by_cases h90 : o = 90
  · subst h90; exact mInfo90 w
  by_cases h91 : o = 91
  · subst h91; exact mInfo91 w
  by_cases h92 : o = 92
  · subst h92; exact mInfo92 w
  by_cases h93 : o = 93
  · subst h93; exact mInfo93 w
  by_cases h94 : o = 94
  · subst h94; exact mInfo94 w
  by_cases h95 : o = 95
  · subst h95; exact mInfo95 w
  by_cases h240 : o = 240
  · subst h240; exact mInfo240 w
  by_cases h241 : o = 241
  · subst h241; exact mInfo241 w
  by_cases h242 : o = 242
  · subst h242; exact mInfo242 w
  by_cases h243 : o = 243
  · subst h243; exact mInfo243 w
  by_cases h244 : o = 244
  · subst h244; exact mInfo244 w
  by_cases h245 : o = 245
  · subst h245; exact mInfo245 w
  by_cases h250 : o = 250
  · subst h250; exact mInfo250 w
  by_cases h253 : o = 253
  · subst h253; exact mInfo253 w
  by_cases h255 : o = 255
  · subst h255; exact mInfo255 w
  exact mInfoF o ho h0 h1 h2 h3 h4 h5 h6 h7 h8 h9 h10 h11 h16 h17 h18 h19 h20 h21 h22 h23 h24 h25 h26 h27 h28 h29 h32 h48 h49 h50 h51 h52 h53 h54 h55 h56 h57 h58 h59 h60 h61 h62 h63 h64 h65 h66 h67 h68 h69 h70 h71 h72 h80 h81 h82 h83 h84 h85 h86 h87 h88 h89 h90 h91 h92 h93 h94 h95 h240 h241 h242 h243 h244 h245 h250 h253 h255 (by omega) w
end Go.Proofs.YgvahwGreat
