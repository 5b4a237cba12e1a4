import Derived.Test.YgvahwGreatVaultU
namespace Go.Proofs.YgvahwGreat
open Go.RowKit
theorem results_tmp4 {fn : Func} {a b c d : Tmp} (h : fn.results = #[.tmp a, .tmp b, .tmp c, .tmp d]) (tmps : Array Value) (P : Program) (w : World) :
    (results fn tmps).run P w = .ok (.tuple #[tmps.getD a undef, tmps.getD b undef, tmps.getD c undef, tmps.getD d undef]) w := by
  simp [results, h]
section
variable {own : Nat → Nat} {w : World} {g : Nat} {c : Nat → Value} {V : EV}
set_option maxRecDepth 100000 in
theorem vLive (h : Blk w g 27024 105 c) (k : Nat) (i : Int) (hk : c 27014 = .int .i32 (k : Nat)) (hM : k ≤ 16384) :
    Calls Hvah.prog 364 #[.pointer (some ⟨g, 2435, none⟩), .int .i32 i] w fun e w' => e = .returned (.bool (decide (0 ≤ i ∧ i < k))) ∧ w' = w := by
  have k1 := h.cell (i := 27014) (by omega)
  rw [hk] at k1
  by_cases h0 : 0 ≤ i
  · by_cases h1 : i < k
    · have h2 : i < 16384 := by omega
      go_enter Hvah.func364, Hvah.ntmps364
      go_wp2
      go_ret
      exact ⟨by simp [h0, h1], rfl⟩
    · go_enter Hvah.func364, Hvah.ntmps364
      go_wp2
      go_ret
      exact ⟨by simp [h1], rfl⟩
  · go_enter Hvah.func364, Hvah.ntmps364
    go_wp2
    go_ret
    rw [decide_eq_false (fun q => by omega)]
    exact ⟨rfl, rfl⟩
theorem VRep.jrnLen (h : VRep own w g c V) : ∃ o cap, c 10629 = .slice o V.journal.length cap := by
  rcases h.jrn with ⟨q1, q2⟩ | ⟨b, cap, c3, q1, _⟩
  · have : V.journal.length = 0 := by rw [← List.length_reverse, q1]; rfl
    rw [this, q2]; exact ⟨none, 0, rfl⟩
  · rw [List.length_reverse] at q1; exact ⟨_, _, q1⟩
theorem VRep.acctsLen (h : VRep own w g c V) : ∃ o cap, c 2435 = .slice o V.accts.length cap := by
  rcases h.accts with ⟨q1, q2⟩ | ⟨b, cap, c3, q1, _⟩
  · rw [q1, q2]; exact ⟨none, 0, rfl⟩
  · exact ⟨_, _, q1⟩
set_option maxRecDepth 100000 in
set_option maxHeartbeats 800000 in
theorem vSizes (h : VRep own w g c V) :
    Calls Hvah.prog 101 #[.pointer (some ⟨g, 2435, none⟩)] w fun e w' => e = .returned (.tuple #[.int .i32 (V.accts.length : Nat), .int .i32 (V.slots.length : Nat), .int .i32 (V.journal.length : Nat), .int .i32 (V.marks.length : Nat)]) ∧ Ext w w' := by
  obtain ⟨o1, p1, hv1⟩ := h.acctsLen
  obtain ⟨o2, p2, hv2⟩ := h.slotsLen
  obtain ⟨o3, p3, hv3⟩ := h.jrnLen
  have k1 := h.blk.cell (i := 2435) (by omega)
  have k2 := h.blk.cell (i := 2436) (by omega)
  have k3 := h.blk.cell (i := 10629) (by omega)
  have k4 := h.blk.cell (i := 27014) (by omega)
  rw [hv1] at k1
  rw [hv2] at k2
  rw [hv3] at k3
  rw [h.nm] at k4
  have n1 := h.nA
  have n2 := h.nS
  have n3 := h.nJ
  generalize V.accts.length = a1 at *
  generalize V.slots.length = a2 at *
  generalize V.journal.length = a3 at *
  generalize V.marks.length = a4 at *
  have w1 : IntKind.i32.wrap (a1 : Int) = (a1 : Int) := by rw [IntKind.wrap_i32]; omega
  have w2 : IntKind.i32.wrap (a2 : Int) = (a2 : Int) := by rw [IntKind.wrap_i32]; omega
  have w3 : IntKind.i32.wrap (a3 : Int) = (a3 : Int) := by rw [IntKind.wrap_i32]; omega
  go_enter Hvah.func101, Hvah.ntmps101
  go_wp2
  go_quiet (fail)
  go_wp2
  refine bodyPost_ret (results_tmp4 Hvah.results101 _ _ _) rfl ⟨rfl, (Ext.refl _).drewN nq⟩
end
end Go.Proofs.YgvahwGreat
