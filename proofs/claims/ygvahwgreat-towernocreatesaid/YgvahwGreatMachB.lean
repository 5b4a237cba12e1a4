import Derived.Test.YgvahwGreatMachA
import Derived.StillTactics
import Derived.Test.YgvahwGreatRowsC
namespace Go.Proofs.YgvahwGreat
open Go.RowKit
attribute [local go_sem] wv_fold

set_option maxRecDepth 100000 in
set_option maxHeartbeats 800000 in
theorem mRunning (g n : Nat) (c : Nat → Value) (w : World) (hB : Blk w g 27024 105 c) (hn : n < 7) (k0 : c 0 = .pointer (some ⟨g, 2435, none⟩)) (kt : c 2258 = .int .i8 (n : Int)) (kp : c 2404 = .int .u8 1) :
    Calls Hvah.prog 192 #[.pointer (some ⟨g, 0, none⟩)] w fun e w' => e = .returned (.pointer (some ⟨g, 1803 + n * 65, none⟩)) ∧ Ext w w' := by
  have hlt := hB.lt
  have c0 := hB.cell (i := 0) (by omega)
  have c1 := hB.cell (i := 2258) (by omega)
  have c2 := hB.cell (i := 2404) (by omega)
  rw [k0] at c0
  rw [kt] at c1
  rw [kp] at c2
  have i1 : ¬ (n : Int) < 0 := by omega
  have i2 : ¬ (6 : Int) < n := by omega
  go_enter Hvah.func192, Hvah.ntmps192
  go_wp2
  go_region
  go_wp2
  go_ret
  exact ⟨by first | rfl | (congr 3; omega), (Ext.refl _).drew⟩

set_option maxRecDepth 100000 in
set_option maxHeartbeats 800000 in
theorem mArgYes (g F sp sb i k x : Nat) (c : Nat → Value) (w : World) (hB : Blk w g 27024 105 c) (hF0 : 1803 ≤ F) (hF : F + 65 ≤ 2258) (c5 : c (F + 5) = .int .u16 sb) (c6 : c (F + 6) = .int .u16 sp) (hi : i < sp) (hsp : sp ≤ 64) (hk : k + i + 1 = sb + sp) (hk4 : k < 448) (hW : WAt c (11 + k * 4) x) (hx : x < P256) :
    Calls Hvah.prog 273 #[.pointer (some ⟨g, 0, none⟩), .pointer (some ⟨g, F, none⟩), .int .i64 i] w fun e w' => e = .returned (wv x) ∧ Ext w w' := by
  have hlt := hB.lt
  have q5 := hB.cell (i := F + 5) (by omega)
  have q6 := hB.cell (i := F + 6) (by omega)
  rw [c5] at q5
  rw [c6] at q6
  have r0 := hB.cell (i := 11 + k * 4) (by omega)
  have r1 := hB.cell (i := 11 + k * 4 + 1) (by omega)
  have r2 := hB.cell (i := 11 + k * 4 + 2) (by omega)
  have r3 := hB.cell (i := 11 + k * 4 + 3) (by omega)
  rw [hW.c0] at r0
  rw [hW.c1] at r1
  rw [hW.c2] at r2
  rw [hW.c3] at r3
  have e1 : (sb : Int) + sp - 1 - i = k := by omega
  have i1 : ¬ (sp : Int) ≤ i := by omega
  have i2 : ¬ (448 : Int) ≤ k := by omega
  have hsb : sb < 448 := by omega
  go_enter Hvah.func273, Hvah.ntmps273
  go_wp2
  go_region
  go_wp2
  exact post_word (a := lim x 0) (b := lim x 1) (c := lim x 2) (d := lim x 3) (x := x) (et := 79) (fz := (0, 0)) Hvah.results273 rfl (heap_new _ _) rfl (lim_lt _ _) (lim_lt _ _) (lim_lt _ _) (lim_lt _ _) (W4_lim x hx) ⟨rfl, ((Ext.refl _).alloc _ _).drew⟩

set_option maxRecDepth 100000 in
set_option maxHeartbeats 800000 in
theorem mArgNo (g F sp sb i : Nat) (c : Nat → Value) (w : World) (hB : Blk w g 27024 105 c) (hF0 : 1803 ≤ F) (hF : F + 65 ≤ 2258) (c5 : c (F + 5) = .int .u16 sb) (c6 : c (F + 6) = .int .u16 sp) (hi : sp ≤ i) (hi2 : i < 64) (hsp : sp ≤ 64) (hsb : sb < 448) :
    Calls Hvah.prog 273 #[.pointer (some ⟨g, 0, none⟩), .pointer (some ⟨g, F, none⟩), .int .i64 i] w fun e w' => e = .returned (wv 0) ∧ Ext w w' := by
  have hlt := hB.lt
  have q5 := hB.cell (i := F + 5) (by omega)
  have q6 := hB.cell (i := F + 6) (by omega)
  rw [c5] at q5
  rw [c6] at q6
  have i1 : (sp : Int) ≤ i := by omega
  go_enter Hvah.func273, Hvah.ntmps273
  go_wp2
  go_region
  go_wp2
  exact post_word (a := 0) (b := 0) (c := 0) (d := 0) (x := 0) (et := 79) (fz := (0, 0)) Hvah.results273 rfl (heap_new _ _) rfl (by decide) (by decide) (by decide) (by decide) (by simp [W4]) ⟨rfl, ((Ext.refl _).alloc _ _).drew⟩

set_option maxRecDepth 100000 in
set_option maxHeartbeats 800000 in
theorem mOpcode (O : Nat → Prop) (g n F pc : Nat) (c : Nat → Value) (l : List Nat) (w : World) (hB : Blk w g 27024 105 c) (hn : n < 7) (hF : F = 1803 + n * 65) (k0 : c 0 = .pointer (some ⟨g, 2435, none⟩)) (kt : c 2258 = .int .i8 (n : Int)) (kp : c 2404 = .int .u8 1)
    (c4 : c (F + 4) = .int .u16 pc) (hpc : pc ≤ 60000) (hc : NL O w (c (F + 53)) l) :
    Calls Hvah.prog 117 #[.pointer (some ⟨g, 0, none⟩)] w fun e w' => e = .returned (.int .u8 (l.getD pc 0 : Nat)) ∧ Ext w w' := by
  have HR := fun W (hW : Ext w W) => mRunning g n c W (hB.ext hW) hn k0 kt kp
  rw [← hF] at HR
  have hF2 : F + 65 ≤ 2258 := by omega
  clear hF kt k0 kp
  have hw1 : IntKind.i64.wrap (pc : Int) = pc := by rw [IntKind.wrap_i64]; omega
  have hlt := hB.lt
  obtain ⟨o, cap, hv, hcl, hcm, hbs⟩ := hc
  have HB : ∀ W, Ext w W → W.cell? ⟨g, F + 4, none⟩ = some (.int .u16 pc) ∧ W.cell? ⟨g, F + 53, none⟩ = some (.slice o l.length cap) := fun W hW => by
    have q4 := (hB.ext hW).cell (i := F + 4) (by omega)
    have q5 := (hB.ext hW).cell (i := F + 53) (by omega)
    rw [c4] at q4
    rw [hv] at q5
    exact ⟨q4, q5⟩
  by_cases hlt2 : pc < l.length
  · obtain ⟨b, off, rfl, _, hbl, hcell⟩ := hbs.spot (fun h => by rw [h] at hlt2; cases hlt2)
    have HC : ∀ W, Ext w W → W.cell? ⟨b, off + pc, none⟩ = some (.int .u8 (l[pc] : Nat)) := fun W hW => (hW.rc _ _ hbl).trans (hcell pc hlt2)
    have hd : l.getD pc 0 = l[pc] := by simp [List.getD, hlt2]
    rw [hd]
    have i1 : ¬ (l.length : Int) ≤ pc := by omega
    generalize l[pc] = x at *
    go_enter Hvah.func117, Hvah.ntmps117
    go_wp2_with (first | (go_at_call 192; refine (HR _ (Ext.refl _)).mono ?_; rintro e w1 ⟨rfl, he⟩; have hq := HB w1 he; have hq1 := hq.1; have hq2 := hq.2; have hq3 := HC w1 he; clear hq))
    refine rg_still (by kernel_rfl) fun W hW hcc => ?_
    rw [← hcc] at hq1 hq2 hq3
    replace he := he.trans hW
    clear hcc hW
    repeat (refine wpStill_step (fun K hK => ?_); go_simp; refine hK _ ?_; clear hK K)
    refine wpStill_nil ?_
    go_wp2
    refine rg_still (by kernel_rfl) fun W2 hW hcc => ?_
    rw [← hcc] at hq1 hq2 hq3
    replace he := he.trans hW
    clear hcc hW
    repeat (refine wpStill_step (fun K hK => ?_); go_simp; refine hK _ ?_; clear hK K)
    refine wpStill_nil ?_
    go_wp2
    go_ret
    exact ⟨rfl, he⟩
  · have i1 : (l.length : Int) ≤ pc := by omega
    have hd : l.getD pc 0 = 0 := by simp [List.getD, Nat.le_of_not_lt hlt2]
    rw [hd]
    go_enter Hvah.func117, Hvah.ntmps117
    go_wp2_with (first | (go_at_call 192; refine (HR _ (Ext.refl _)).mono ?_; rintro e w1 ⟨rfl, he⟩; have hq := HB w1 he; have hq1 := hq.1; have hq2 := hq.2; clear hq))
    refine rg_still (by kernel_rfl) fun W hW hcc => ?_
    rw [← hcc] at hq1 hq2
    replace he := he.trans hW
    clear hcc hW
    repeat (refine wpStill_step (fun K hK => ?_); go_simp; refine hK _ ?_; clear hK K)
    refine wpStill_nil ?_
    go_wp2
    go_ret
    exact ⟨rfl, he⟩
end Go.Proofs.YgvahwGreat
