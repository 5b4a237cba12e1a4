import Derived.Test.YgvahwGreatXa
namespace Go.Proofs.YgvahwGreat
open Go.RowKit
set_option linter.unusedSimpArgs false
set_option linter.unusedVariables false
def rEnv0 : Array Value := #[.int .u8 0, .int .u8 0, .int .u8 0, .int .u8 0, .int .u8 0, .int .u8 0, .int .u8 0, .int .u8 0, .int .u8 0, .int .u8 0, .int .u8 0, .int .u8 0, .int .u8 0, .int .u8 0, .int .u8 0, .int .u8 0, .int .u8 0, .int .u8 0, .int .u8 0, .int .u8 0, .int .u64 0, .int .u64 0, .int .u64 0, .int .u8 0, .int .u8 0, .int .u8 0, .int .u8 0, .int .u8 0, .int .u8 0, .int .u8 0, .int .u8 0, .int .u8 0, .int .u8 0, .int .u8 0, .int .u8 0, .int .u8 0, .int .u8 0, .int .u8 0, .int .u8 0, .int .u8 0, .int .u8 0, .int .u8 0, .int .u8 0, .int .u8 0, .int .u8 0, .int .u8 0, .int .u8 0, .int .u8 0, .int .u8 0, .int .u8 0, .int .u8 0, .int .u8 0, .int .u8 0, .int .u8 0, .int .u8 0, .int .u8 0, .int .u8 0, .int .u8 0, .int .u8 0, .int .u8 0, .int .u8 0, .int .u8 0, .int .u8 0, .int .u8 0, .int .u8 0, .int .u8 0, .int .u8 0, .int .u8 0, .int .u8 0, .int .u8 0, .int .u8 0, .int .u8 0, .int .u8 0, .int .u8 0, .int .u8 0, .int .u8 0, .int .u8 0, .int .u8 0, .int .u8 0, .int .u8 0, .int .u8 0, .int .u8 0, .int .u8 0, .int .u8 0, .int .u8 0, .int .u8 0, .int .u8 0, .int .u8 0, .int .u8 0, .int .u8 0, .int .u8 0, .int .u8 0, .int .u8 0, .int .u8 0, .int .u8 0, .int .u8 0, .int .u8 0, .int .u8 0, .int .u8 0, .int .u8 0, .int .u8 0, .int .u8 0, .int .u8 0, .int .u8 0, .int .u8 0, .int .u8 0, .int .u8 0, .int .u8 0, .int .u8 0, .int .u8 0, .int .u8 0, .int .u8 0, .int .u8 0, .int .u8 0, .int .u8 0, .int .u8 0, .int .u8 0, .int .u8 0, .int .u8 0, .slice none 0 0]
def rEnv : Array Value := #[.int .u8 0, .int .u8 0, .int .u8 0, .int .u8 0, .int .u8 0, .int .u8 0, .int .u8 0, .int .u8 0, .int .u8 0, .int .u8 0, .int .u8 0, .int .u8 0, .int .u8 0, .int .u8 0, .int .u8 0, .int .u8 0, .int .u8 0, .int .u8 0, .int .u8 0, .int .u8 192, .int .u64 0, .int .u64 0, .int .u64 1048576, .int .u8 0, .int .u8 0, .int .u8 0, .int .u8 0, .int .u8 0, .int .u8 0, .int .u8 0, .int .u8 0, .int .u8 0, .int .u8 0, .int .u8 0, .int .u8 0, .int .u8 0, .int .u8 0, .int .u8 0, .int .u8 0, .int .u8 0, .int .u8 0, .int .u8 0, .int .u8 0, .int .u8 0, .int .u8 0, .int .u8 0, .int .u8 0, .int .u8 0, .int .u8 0, .int .u8 0, .int .u8 0, .int .u8 0, .int .u8 0, .int .u8 0, .int .u8 0, .int .u8 0, .int .u8 0, .int .u8 0, .int .u8 0, .int .u8 0, .int .u8 0, .int .u8 0, .int .u8 0, .int .u8 0, .int .u8 0, .int .u8 0, .int .u8 0, .int .u8 0, .int .u8 0, .int .u8 0, .int .u8 0, .int .u8 0, .int .u8 0, .int .u8 0, .int .u8 0, .int .u8 0, .int .u8 0, .int .u8 0, .int .u8 0, .int .u8 0, .int .u8 0, .int .u8 0, .int .u8 0, .int .u8 0, .int .u8 0, .int .u8 0, .int .u8 0, .int .u8 0, .int .u8 0, .int .u8 0, .int .u8 0, .int .u8 0, .int .u8 0, .int .u8 0, .int .u8 0, .int .u8 0, .int .u8 0, .int .u8 0, .int .u8 0, .int .u8 0, .int .u8 0, .int .u8 0, .int .u8 0, .int .u8 0, .int .u8 0, .int .u8 0, .int .u8 0, .int .u8 0, .int .u8 0, .int .u8 0, .int .u8 0, .int .u8 0, .int .u8 0, .int .u8 0, .int .u8 0, .int .u8 0, .int .u8 0, .int .u8 0, .int .u8 0, .slice none 0 0]
def rTx0 : Array Value := #[.int .u8 0, .int .u8 0, .int .u8 0, .int .u8 0, .int .u8 0, .int .u8 0, .int .u8 0, .int .u8 0, .int .u8 0, .int .u8 0, .int .u8 0, .int .u8 0, .int .u8 0, .int .u8 0, .int .u8 0, .int .u8 0, .int .u8 0, .int .u8 0, .int .u8 0, .int .u8 0, .int .u8 0, .int .u8 0, .int .u8 0, .int .u8 0, .int .u8 0, .int .u8 0, .int .u8 0, .int .u8 0, .int .u8 0, .int .u8 0, .int .u8 0, .int .u8 0, .int .u8 0, .int .u8 0, .int .u8 0, .int .u8 0, .int .u8 0, .int .u8 0, .int .u8 0, .int .u8 0, .bool false, .int .u64 0, .int .u64 0, .int .u8 0, .int .u8 0, .int .u8 0, .int .u8 0, .int .u8 0, .int .u8 0, .int .u8 0, .int .u8 0, .int .u8 0, .int .u8 0, .int .u8 0, .int .u8 0, .int .u8 0, .int .u8 0, .int .u8 0, .int .u8 0, .int .u8 0, .int .u8 0, .int .u8 0, .int .u8 0, .int .u8 0, .int .u8 0, .int .u8 0, .int .u8 0, .int .u8 0, .int .u8 0, .int .u8 0, .int .u8 0, .int .u8 0, .int .u8 0, .int .u8 0, .int .u8 0, .int .u8 0, .int .u8 0, .int .u8 0, .int .u8 0, .int .u8 0, .int .u8 0, .int .u8 0, .int .u8 0, .int .u8 0, .int .u8 0, .int .u8 0, .int .u8 0, .int .u8 0, .int .u8 0, .int .u8 0, .int .u8 0, .int .u8 0, .int .u8 0, .int .u8 0, .int .u8 0, .int .u8 0, .int .u8 0, .int .u8 0, .int .u8 0, .int .u8 0, .int .u8 0, .int .u8 0, .int .u8 0, .int .u8 0, .int .u8 0, .int .u8 0, .int .u8 0, .slice none 0 0, .bool false, .int .u8 0, .int .u8 0, .int .u8 0, .int .u8 0, .int .u8 0, .int .u8 0, .int .u8 0, .int .u8 0, .int .u8 0, .int .u8 0, .int .u8 0, .int .u8 0, .int .u8 0, .int .u8 0, .int .u8 0, .int .u8 0, .int .u8 0, .int .u8 0, .int .u8 0, .int .u8 0, .int .u8 0, .int .u8 0, .int .u8 0, .int .u8 0, .int .u8 0, .int .u8 0, .int .u8 0, .int .u8 0, .int .u8 0, .int .u8 0, .int .u8 0, .int .u8 0, .int .u8 0, .int .u8 0, .int .u8 0, .int .u8 0, .int .u8 0, .int .u8 0, .int .u8 0, .int .u8 0, .int .u8 0, .int .u8 0, .int .u8 0, .int .u8 0, .int .u8 0, .int .u8 0, .int .u8 0, .int .u8 0, .int .u8 0, .int .u8 0, .int .u8 0, .int .u8 0, .int .u8 0, .int .u8 0, .int .u8 0, .int .u8 0, .int .u8 0, .int .u8 0, .int .u8 0, .int .u8 0, .int .u8 0, .int .u8 0, .int .u8 0, .int .u8 0, .slice none 0 0]
def rTx : Array Value := #[.int .u8 0, .int .u8 0, .int .u8 0, .int .u8 0, .int .u8 0, .int .u8 0, .int .u8 0, .int .u8 0, .int .u8 0, .int .u8 0, .int .u8 0, .int .u8 0, .int .u8 0, .int .u8 0, .int .u8 0, .int .u8 0, .int .u8 0, .int .u8 0, .int .u8 0, .int .u8 240, .int .u8 0, .int .u8 0, .int .u8 0, .int .u8 0, .int .u8 0, .int .u8 0, .int .u8 0, .int .u8 0, .int .u8 0, .int .u8 0, .int .u8 0, .int .u8 0, .int .u8 0, .int .u8 0, .int .u8 0, .int .u8 0, .int .u8 0, .int .u8 0, .int .u8 0, .int .u8 1, .bool false, .int .u64 0, .int .u64 200000, .int .u8 0, .int .u8 0, .int .u8 0, .int .u8 0, .int .u8 0, .int .u8 0, .int .u8 0, .int .u8 0, .int .u8 0, .int .u8 0, .int .u8 0, .int .u8 0, .int .u8 0, .int .u8 0, .int .u8 0, .int .u8 0, .int .u8 0, .int .u8 0, .int .u8 0, .int .u8 0, .int .u8 0, .int .u8 0, .int .u8 0, .int .u8 0, .int .u8 0, .int .u8 0, .int .u8 0, .int .u8 0, .int .u8 0, .int .u8 0, .int .u8 0, .int .u8 0, .int .u8 0, .int .u8 0, .int .u8 0, .int .u8 0, .int .u8 0, .int .u8 0, .int .u8 0, .int .u8 0, .int .u8 0, .int .u8 0, .int .u8 0, .int .u8 0, .int .u8 0, .int .u8 0, .int .u8 0, .int .u8 0, .int .u8 0, .int .u8 0, .int .u8 0, .int .u8 0, .int .u8 0, .int .u8 0, .int .u8 0, .int .u8 0, .int .u8 0, .int .u8 0, .int .u8 0, .int .u8 0, .int .u8 0, .int .u8 0, .int .u8 0, .int .u8 0, .slice none 0 0, .bool false, .int .u8 0, .int .u8 0, .int .u8 0, .int .u8 0, .int .u8 0, .int .u8 0, .int .u8 0, .int .u8 0, .int .u8 0, .int .u8 0, .int .u8 0, .int .u8 0, .int .u8 0, .int .u8 0, .int .u8 0, .int .u8 0, .int .u8 0, .int .u8 0, .int .u8 0, .int .u8 0, .int .u8 0, .int .u8 0, .int .u8 0, .int .u8 0, .int .u8 0, .int .u8 0, .int .u8 0, .int .u8 0, .int .u8 0, .int .u8 0, .int .u8 0, .int .u8 0, .int .u8 0, .int .u8 0, .int .u8 0, .int .u8 0, .int .u8 0, .int .u8 0, .int .u8 0, .int .u8 0, .int .u8 0, .int .u8 0, .int .u8 0, .int .u8 0, .int .u8 0, .int .u8 0, .int .u8 0, .int .u8 0, .int .u8 0, .int .u8 0, .int .u8 0, .int .u8 0, .int .u8 0, .int .u8 0, .int .u8 0, .int .u8 0, .int .u8 0, .int .u8 0, .int .u8 0, .int .u8 0, .int .u8 0, .int .u8 0, .int .u8 0, .int .u8 0, .slice none 0 0]
theorem zEnv0 : zeroOf Hvah.prog 36 = some rEnv0 := by kernel_rfl
theorem zTx0 : zeroOf Hvah.prog 40 = some rTx0 := by kernel_rfl
theorem rEnv0s : rEnv0.size = 120 := by kernel_rfl
theorem rEnvs : rEnv.size = 120 := by kernel_rfl
theorem rTx0s : rTx0.size = 174 := by kernel_rfl
theorem rTxs : rTx.size = 174 := by kernel_rfl
theorem rt36x : RowT 36 120 := rowT_of (by kernel_rfl) (by kernel_rfl)
theorem rt40x : RowT 40 174 := rowT_of (by kernel_rfl) (by kernel_rfl)
theorem one23x : OneT 23 := oneT_of (by kernel_rfl) (by kernel_rfl)
theorem one24x : OneT 24 := oneT_of (by kernel_rfl) (by kernel_rfl)
theorem bEnv : ∀ w, (Instr.build 36 ([(0, .agg (av 192)), (3, .int .u64 1048576)] : List (Nat × Value)).toArray).run Hvah.prog w = .ok (.agg rEnv) w := fun w => by kernel_rfl
theorem bTx : ∀ w, (Instr.build 40 ([(0, .agg (av 240)), (1, .agg (av 1)), (4, .int .u64 200000)] : List (Nat × Value)).toArray).run Hvah.prog w = .ok (.agg rTx) w := fun w => by kernel_rfl
theorem ones_lit {r : Array Value} (h : r.toList.all (fun v => v.oneCell') = true) : Ones r := fun v hv => List.all_eq_true.1 h v hv
theorem rEnvO : Ones rEnv := ones_lit (by kernel_rfl)
theorem rTxO : Ones rTx := ones_lit (by kernel_rfl)
theorem row_lay {w : World} {B n : Nat} {t : TypeId} {c : Nat → Value} {r : Array Value} (hB : Blk w B n t (layv c 0 r)) (hn : r.size = n) : RowIn w B 0 r := fun i u hu => by
  have hi := (Array.getElem?_eq_some_iff.1 hu).1
  rw [Nat.zero_add, hB.cell (by omega)]
  have := layv_in c 0 r hi
  rw [Nat.zero_add] at this
  rw [this, cf_get hu]
/-- The surroundings of the stage. -/
def eStage : AEnv := ⟨192, 0, 0, 1048576, 0, 0, 0, []⟩
theorem envStage (w : World) : EnvI (fun _ => False) w (cf rEnv) eStage :=
  ⟨aat_lit (by kernel_rfl), by decide, by kernel_rfl, by decide, by kernel_rfl, by decide, by kernel_rfl, by decide, bat_lit (by kernel_rfl), by decide, bat_lit (by kernel_rfl), by decide, bat_lit (by kernel_rfl), by decide, Or.inl ⟨rfl, by kernel_rfl⟩⟩
set_option maxRecDepth 100000 in
set_option maxHeartbeats 6400000 in
theorem lStageEnv (w : World) : Calls Hvah.prog 7 #[] w fun e w' => e = .returned (.agg rEnv) ∧ Ext w w' := by
  have H := fun W => lAddrNo 192 (by decide) W
  have hb := bEnv
  obtain ⟨x, hx⟩ : ∃ x, Hid (av 192 = av x) := ⟨192, rfl⟩
  rw [hx.out] at H hb
  obtain ⟨y, hy⟩ : ∃ y, Hid (rEnv = y) := ⟨_, rfl⟩
  have hs := rEnvs
  have ho := rEnvO
  rw [hy.out] at hb hs ho ⊢
  go_enter Hvah.func7, Hvah.ntmps7
  go_wp2_with (first | ((with_reducible (refine Veil.out ?_; apply wl_allocB zEnv0)); (case hn => exact rEnv0s); rintro B0 W0 e0 b0 g0) | (go_at_call 16; refine (H _).mono ?_; rintro e w2 ⟨rfl, e2⟩) | ((with_reducible (refine Veil.out ?_; apply wl_buildV hb)); (case he => first | rfl | simp [Act.eval])) | ((with_reducible (refine Veil.out ?_; apply wl_storeRow rt36x)); (case hx => rfl); (case hy => rfl); (case hr => exact hs); (case h1 => exact ho); (case hB => exact b0.ext e2); (case hi => decide); rintro W3 b3 m3))
  refine post_row rt36x y hs Hvah.results7 rfl (row_lay b3 hs) rfl ⟨rfl, Ext.trans_mod (e0.trans e2) m3 (fun q hq => by have hq2 : q = B0 := hq; rw [hq2]; exact g0)⟩
set_option maxRecDepth 100000 in
set_option maxHeartbeats 6400000 in
theorem lToA1 (w : World) : Calls Hvah.prog 20 #[] w fun e w' => e = .returned (.agg rTx) ∧ Ext w w' := by
  have H := fun W => lAddrNo 1 (by decide) W
  have H2 := fun W => lSender W
  have hb := bTx
  obtain ⟨x, hx⟩ : ∃ x, Hid (av 1 = av x) := ⟨1, rfl⟩
  obtain ⟨x2, hx2⟩ : ∃ x, Hid (av 240 = av x) := ⟨240, rfl⟩
  rw [hx.out] at H hb
  rw [hx2.out] at H2 hb
  obtain ⟨y, hy⟩ : ∃ y, Hid (rTx = y) := ⟨_, rfl⟩
  have hs := rTxs
  have ho := rTxO
  rw [hy.out] at hb hs ho ⊢
  go_enter Hvah.func20, Hvah.ntmps20
  go_wp2_with (first | ((with_reducible (refine Veil.out ?_; apply wl_allocB zTx0)); (case hn => exact rTx0s); rintro B0 W0 e0 b0 g0) | (go_at_call 18; refine (H2 _).mono ?_; rintro e w1 ⟨rfl, e1⟩) | (go_at_call 16; refine (H _).mono ?_; rintro e w2 ⟨rfl, e2⟩) | ((with_reducible (refine Veil.out ?_; apply wl_buildV hb)); (case he => first | rfl | simp [Act.eval])) | ((with_reducible (refine Veil.out ?_; apply wl_storeRow rt40x)); (case hx => rfl); (case hy => rfl); (case hr => exact hs); (case h1 => exact ho); (case hB => exact (b0.ext e1).ext e2); (case hi => decide); rintro W3 b3 m3))
  refine post_row rt40x y hs Hvah.results20 rfl (row_lay b3 hs) rfl ⟨rfl, Ext.trans_mod ((e0.trans e1).trans e2) m3 (fun q hq => by have hq2 : q = B0 := hq; rw [hq2]; exact g0)⟩
/-- The call of account 1. -/
def tStage (g : Nat) (l : List Nat) : ATx := ⟨240, 1, false, 0, g, 0, 0, l, false, 0, 0, []⟩
theorem txStage {w : World} {c : Nat → Value} {g : Nat} {l : List Nat} {v : Value} (hg : g < 18446744073709551616) (hc : ∀ i, i < 174 → i ≠ 42 → i ≠ 107 → c i = cf rTx i) (h42 : c 42 = .int .u64 (g : Nat)) (h107 : c 107 = v) (hv : NLx (fun _ => False) w v l) : TxC (fun _ => False) w c (tStage g l) := by
  have hB : ∀ o, 43 ≤ o → o + 32 ≤ 107 ∨ 108 ≤ o → o + 32 ≤ 174 → BAt (cf rTx) o 0 → BAt c o 0 := fun o h0 h1 h2 h => h.same (by decide) (fun j hj => hc _ (by omega) (by omega) (by omega))
  refine ⟨?_, (by decide : (240 : Nat) < 2 ^ 160), ?_, (by decide : (1 : Nat) < 2 ^ 160), ?_, ?_, (by decide : (0 : Nat) < 18446744073709551616), h42, hg, ?_, (by decide : (0 : Nat) < P256), ?_, (by decide : (0 : Nat) < P256), by rw [h107]; exact hv, ?_, ?_, (by decide : (0 : Nat) < P256), ?_, (by decide : (0 : Nat) < P256), Or.inl ⟨rfl, none, ?_⟩⟩
  · exact (aat_lit (r := rTx) (o := 0) (a := 240) (by kernel_rfl)).same (by decide) (fun j hj => hc _ (by omega) (by omega) (by omega))
  · exact (aat_lit (r := rTx) (o := 20) (a := 1) (by kernel_rfl)).same (by decide) (fun j hj => hc _ (by omega) (by omega) (by omega))
  · rw [hc 40 (by decide) (by decide) (by decide)]; kernel_rfl
  · rw [hc 41 (by decide) (by decide) (by decide)]; kernel_rfl
  · exact hB 43 (by decide) (by decide) (by decide) (bat_lit (by kernel_rfl))
  · exact hB 75 (by decide) (by decide) (by decide) (bat_lit (by kernel_rfl))
  · rw [hc 108 (by decide) (by decide) (by decide)]; kernel_rfl
  · exact hB 109 (by decide) (by decide) (by decide) (bat_lit (by kernel_rfl))
  · exact hB 141 (by decide) (by decide) (by decide) (bat_lit (by kernel_rfl))
  · rw [hc 173 (by decide) (by decide) (by decide)]; kernel_rfl
set_option maxRecDepth 100000 in
set_option maxHeartbeats 6400000 in
/-- law.callOf -/
theorem lCallOf {w : World} {v : Value} {l : List Nat} {O : Nat → Prop} (g : Nat) (hg : g < 18446744073709551616) (h : NLx O w v l) (hle : l.length ≤ 140737488355328) : Calls Hvah.prog 8 #[v, .int .u64 (g : Nat)] w fun e w' => ∃ r, e = .returned (.agg r) ∧ r.size = 174 ∧ TxC (fun _ => False) w' (cf r) (tStage g l) ∧ Ext w w' := by
  have HC := fun W (hW : Ext w W) => lCopyBytes (h.ext hW) hle
  have HA := fun W => lToA1 W
  obtain ⟨y, hy⟩ : ∃ y, Hid (rTx = y) := ⟨_, rfl⟩
  have hs := rTxs
  have ho := rTxO
  rw [hy.out] at HA hs ho
  go_enter Hvah.func8, Hvah.ntmps8
  go_upto_region 2 with (first | ((with_reducible (refine Veil.out ?_; apply wl_allocB zTx0)); (case hn => exact rTx0s); first | (rintro B2 W2 e2 b2 g2; have hh2 : W2 = W2 := rfl; have hh1 := e1) | rintro B0 W0 e0 b0 g0) | (go_at_call 20; refine (HA _).mono ?_; rintro e w1 ⟨rfl, e1⟩) | ((with_reducible (refine Veil.out ?_; apply wl_storeRow rt40x)); (case hx => rfl); (case hy => rfl); (case hr => exact hs); (case h1 => exact ho); (case hB => exact b2); (case hi => decide); rintro W3 b3 m3))
  have hE3 : Ext w W3 := Ext.trans_mod ((e0.trans e1).trans e2) m3 (fun q hq => by have hq2 : q = B2 := hq; rw [hq2]; exact Nat.le_trans e0.size (Nat.le_trans e1.size g2))
  have hB0 : Blk W3 B0 174 40 (cf rTx0) := ((b0.ext e1).ext e2).mod m3 (fun q => by have := (b0.ext e1).lt; omega)
  have h20 : B0 ≠ B2 := fun q => by have := (b0.ext e1).lt; omega
  have g2w : w.heap.size ≤ B2 := Nat.le_trans e0.size (Nat.le_trans e1.size g2)
  obtain ⟨cB, hcB⟩ : ∃ z, Hid (layv (cf rTx0) 0 y = z) := ⟨_, rfl⟩
  rw [hcB.out] at b3
  clear b0 b2 m3 e0 e1 e2 g2
  go_upto_region 4 with (first | (go_at_call 17; refine (HC _ hE3).mono ?_; rintro e W4 ⟨rd, rfl, hrd, e4⟩; have bX5 := b3.ext e4) | ((with_reducible (refine Veil.out ?_; apply wl_store1 (v := rd) one23x)); (case hx => rfl); (case hy => rfl); (case h1 => exact hrd.one); (case hB => exact bX5); (case ho => decide); rintro W5 b5 m5) | ((with_reducible (refine Veil.out ?_; apply wl_store1 (v := .int .u64 (g : Nat)) one24x)); (case hx => rfl); (case hy => rfl); (case h1 => rfl); (case hB => exact b5); (case ho => decide); rintro W6 b6 m6))
  obtain ⟨cD, hcD⟩ : ∃ z, Hid (updv (updv cB 107 rd) 42 (.int .u64 (g : Nat)) = z) := ⟨_, rfl⟩
  rw [hcD.out] at b6
  have hcB' : ∀ i, i < 174 → cB i = cf y i := fun i hi => by
    rw [← hcB.out]
    have := layv_in (cf rTx0) 0 y (j := i) (by omega)
    rwa [Nat.zero_add] at this
  have hcD1 : ∀ i, i < 174 → i ≠ 42 → i ≠ 107 → cD i = cf y i := fun i hi h1 h2 => by rw [← hcD.out, updv_ne _ _ h1, updv_ne _ _ h2, hcB' i hi]
  have hcD2 : cD 42 = .int .u64 (g : Nat) := by rw [← hcD.out, updv_same]
  have hcD3 : cD 107 = rd := by rw [← hcD.out, updv_ne _ _ (by decide), updv_same]
  have hon : Ones (rowOf cD 0 174) := ones_of (fun q hq => by
    rw [rowOf_size] at hq
    rw [cf_rowOf _ _ _ hq, Nat.zero_add]
    by_cases q1 : q = 42
    · subst q1; rw [hcD2]; rfl
    by_cases q2 : q = 107
    · subst q2; rw [hcD3]; exact hrd.one
    rw [hcD1 q hq q1 q2]; exact ho.get (by omega))
  have hE6 : Ext w W6 := Ext.trans_mod (hE3.trans e4) (m5.trans m6) (fun q hq => by have hq2 : q = B2 := hq; rw [hq2]; exact g2w)
  have hB6 : Blk W6 B0 174 40 (cf rTx0) := ((hB0.ext e4).mod m5 h20).mod m6 h20
  have hrd6 : OwB W3.heap.size W6 rd l := (hrd.mod bX5 (by decide) m5).mod b5 (by decide) m6
  clear hcD HC HA hcB'
  obtain ⟨rw0, hrw⟩ : ∃ z, Hid (rowOf cD 0 174 = z) := ⟨_, rfl⟩
  have hrs : rw0.size = 174 := by rw [← hrw.out]; exact rowOf_size _ _ _
  rw [hrw.out] at hon
  go_wp2_with (first | ((with_reducible (refine Veil.out ?_; apply wl_loadRow rt40x)); (case hx => rfl); (case hB => exact b6); (case hi => decide); rw [hrw.out]) | ((with_reducible (refine Veil.out ?_; apply wl_storeRow rt40x)); (case hx => rfl); (case hy => rfl); (case hr => exact hrs); (case h1 => exact hon); (case hB => exact hB6); (case hi => decide); rintro W7 b7 m7))
  refine post_row rt40x rw0 hrs Hvah.results8 rfl (row_lay b7 hrs) rfl ⟨rw0, rfl, hrs, ?_, Ext.trans_mod hE6 m7 (fun q hq => by have hq2 : q = B0 := hq; rw [hq2]; exact g0)⟩
  rw [← hrw.out]
  rw [← hy.out] at hcD1
  exact txStage (v := rd) hg (fun i h1 h2 h3 => by rw [cf_rowOf _ _ _ h1, Nat.zero_add]; exact hcD1 i h1 h2 h3) (by rw [cf_rowOf _ _ _ (by decide), Nat.zero_add]; exact hcD2) (by rw [cf_rowOf _ _ _ (by decide), Nat.zero_add]; exact hcD3) (hrd6.mod hB6 (by decide) m7).nlx
end Go.Proofs.YgvahwGreat
