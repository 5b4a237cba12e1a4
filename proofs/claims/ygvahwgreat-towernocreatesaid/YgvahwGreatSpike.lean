import Derived.Test.YgvahwGreatBlk
namespace Go.Proofs.YgvahwGreat
open Go.RowKit
attribute [local go_sem] wv_fold

set_option maxHeartbeats 1600000 in
theorem mSettle_push (g F sp sb pc takes step x : Nat) (c : Nat → Value) (w : World) (hB : Blk w g 27024 105 c) (hF0 : 1803 ≤ F) (hF : F + 65 ≤ 2258) (c6 : c (F + 6) = .int .u16 sp) (c5 : c (F + 5) = .int .u16 sb) (c4 : c (F + 4) = .int .u16 pc) (ht : takes ≤ sp) (hs : sp - takes < 64) (hb : sb + (sp - takes) < 448) (hpc : pc + step < 65536) (hsp : sp < 65536) (hsb : sb < 65536) :
    Calls Hvah.prog 268 #[.pointer (some ⟨g, 0, none⟩), .pointer (some ⟨g, F, none⟩), .int .u16 takes, .bool true, wv x, .int .u16 step] w fun e w' => e = .returned (.tuple #[]) ∧ Blk w' g 27024 105 (updv (updv (upd4 c (11 + (sb + (sp - takes)) * 4) x) (F + 6) (.int .u16 (sp - takes + 1 : Nat))) (F + 4) (.int .u16 (pc + step : Nat))) ∧ Mod (· = g) w w' := by
  have hlt := hB.lt
  have k6 := hB.cell (i := F + 6) (by omega)
  have k5 := hB.cell (i := F + 5) (by omega)
  have k4 := hB.cell (i := F + 4) (by omega)
  rw [c6] at k6
  rw [c5] at k5
  rw [c4] at k4
  have q0 := hB.cell (i := 11 + (sb + (sp - takes)) * 4) (by omega)
  have q1 := hB.cell (i := 11 + (sb + (sp - takes)) * 4 + 1) (by omega)
  have q2 := hB.cell (i := 11 + (sb + (sp - takes)) * 4 + 2) (by omega)
  have q3 := hB.cell (i := 11 + (sb + (sp - takes)) * 4 + 3) (by omega)
  have hfz := hB.fz
  go_enter Hvah.func268, Hvah.ntmps268
  go_wp2
  go_region
  refine w_gen (fun W => Blk W g 27024 105 (upd4 c (11 + (sb + (sp - takes)) * 4) x) ∧ Mod (· = g) w W) ⟨?_, ?_⟩ ?_
  · exact ((hB.set4 _ _).alloc _ _).drew
  · exact (((Mod.refl (· = g) w).set4 (Or.inl rfl) _ _ _ _ _).alloc _ _).drew
  rintro W ⟨hB1, hM1⟩
  clear k4 k5 k6 q0 q1 q2 q3 hfz hlt
  have k6 := hB1.cell (i := F + 6) (by omega)
  have k4 := hB1.cell (i := F + 4) (by omega)
  rw [upd4_out _ _ _ _ (by omega), c6] at k6
  rw [upd4_out _ _ _ _ (by omega), c4] at k4
  have hfz := hB1.fz
  go_wp2
  go_end0
  refine ⟨rfl, ?_, (hM1.setCell (Or.inl rfl) _).setCell (Or.inl rfl) _⟩
  have := (hB1.set (F + 6) (.int .u16 (sp - takes + 1 : Nat))).set (F + 4) (.int .u16 (pc + step : Nat))
  rw [show ((sp - takes + 1 : Nat) : Int) = (sp : Int) - takes + 1 by omega, show ((pc + step : Nat) : Int) = (pc : Int) + step by omega] at this ⊢
  exact this
end Go.Proofs.YgvahwGreat
