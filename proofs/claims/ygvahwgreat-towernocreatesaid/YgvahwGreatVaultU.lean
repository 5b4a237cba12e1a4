import Derived.Test.YgvahwGreatVaultS
namespace Go.Proofs.YgvahwGreat
open Go.RowKit
section
variable {own : Nat → Nat} {w : World} {g : Nat} {c : Nat → Value} {V : EV}
/-- A snapshot is taken. -/
theorem snap_end (h : VRep own w g c V) (hM : V.marks.length < 16384) {w' : World} (hm : Mod (· = g) w w') (hB : Blk w' g 27024 105 (updv (updv c (10630 + V.marks.length) (.int .i32 (V.journal.length : Nat))) 27014 (.int .i32 (V.marks.length + 1 : Nat)))) :
    VRep own w' g (updv (updv c (10630 + V.marks.length) (.int .i32 (V.journal.length : Nat))) 27014 (.int .i32 (V.marks.length + 1 : Nat))) V.snap ∧ VStep own w c own w' (updv (updv c (10630 + V.marks.length) (.int .i32 (V.journal.length : Nat))) 27014 (.int .i32 (V.marks.length + 1 : Nat))) := by
  have K := Keep.here h hm
  have hcF : ∀ i, i ≠ 27014 → i ≠ 10630 + V.marks.length → updv (updv c (10630 + V.marks.length) (.int .i32 (V.journal.length : Nat))) 27014 (.int .i32 (V.marks.length + 1 : Nat)) i = c i := fun i h1 h2 => by rw [updv_ne _ _ h1, updv_ne _ _ h2]
  have hc1 : updv (updv c (10630 + V.marks.length) (.int .i32 (V.journal.length : Nat))) 27014 (.int .i32 (V.marks.length + 1 : Nat)) (10630 + V.marks.length) = .int .i32 (V.journal.length : Nat) := by rw [updv_ne _ _ (by omega), updv_same]
  have hc2 : updv (updv c (10630 + V.marks.length) (.int .i32 (V.journal.length : Nat))) 27014 (.int .i32 (V.marks.length + 1 : Nat)) 27014 = .int .i32 (V.marks.length + 1 : Nat) := updv_same _ _ _
  obtain ⟨cF, hcFe⟩ : ∃ cF, cF = updv (updv c (10630 + V.marks.length) (.int .i32 (V.journal.length : Nat))) 27014 (.int .i32 (V.marks.length + 1 : Nat)) := ⟨_, rfl⟩
  rw [← hcFe] at hB hcF hc1 hc2 ⊢
  refine ⟨⟨hB, h.tag, fun x hx => h.fresh x (Nat.le_trans hm.size hx), ⟨h.wf.a1, h.wf.s1, h.wf.t1, h.wf.sA, h.wf.tA⟩, ⟨fun e he => fits_more (h.jok.fits e he) (Nat.le_refl _) (Nat.le_refl _) (Nat.le_refl _), fun p hp => ?_, ?_⟩, h.nA, h.nS, h.nT, h.nJ, h.nL, ?_, ?_, ?_, ?_, ?_, ?_, ?_, ?_, ?_, ?_, ?_, ?_, h.rLt⟩, fun _ _ => rfl, fun i hi => hcF i (by omega) (by omega), hm.sub (fun x hx => by rw [hx, h.tag]; exact ⟨by decide, by decide⟩)⟩
  · rcases List.mem_cons.1 hp with rfl | hp
    · exact Nat.le_refl _
    · exact h.jok.marks p hp
  · exact List.pairwise_cons.2 ⟨fun y hy => h.jok.marks y hy, h.jok.fall⟩
  · show (V.journal.length :: V.marks).length ≤ 16384
    rw [List.length_cons]; omega
  · rw [hcF 2435 (by omega) (by omega)]; exact K.row h.accts (fun _ _ _ k => K.acct (fun _ _ => rfl) k) (by decide) (by decide)
  · rw [hcF 2436 (by omega) (by omega)]; exact K.row h.slots (fun _ _ _ k => k) (by decide) (by decide)
  · rw [hcF 27017 (by omega) (by omega)]; exact K.row h.temps (fun _ _ _ k => k) (by decide) (by decide)
  · rw [hcF 10629 (by omega) (by omega)]; exact K.row h.jrn (fun _ _ _ k => K.je (fun _ _ => rfl) k) (by decide) (by decide)
  · rw [hcF 27016 (by omega) (by omega)]; exact K.row h.logs (fun _ _ _ k => K.log (fun _ _ => rfl) k) (by decide) (by decide)
  · obtain ⟨t2, q1, q2⟩ := h.tA
    exact ⟨t2, fun p hp => by rw [hcF _ (by omega) (by omega)]; exact q1 p hp, q2⟩
  · obtain ⟨t2, q1, q2⟩ := h.tS
    exact ⟨t2, fun p hp => by rw [hcF _ (by omega) (by omega)]; exact q1 p hp, q2⟩
  · rw [hcF 27018 (by omega) (by omega)]
    rcases h.tT with q | ⟨t2, q1, q2⟩
    · exact Or.inl q
    · exact Or.inr ⟨t2, K.tab q1 (by decide), q2⟩
  · intro id hid
    have hid' : id < V.marks.length + 1 := hid
    rw [markAt_snap]
    by_cases q : id = V.marks.length
    · subst q; rw [if_pos rfl]; exact hc1
    · rw [if_neg q, hcF _ (by omega) (by omega)]; exact h.marks id (by omega)
  · rw [hc2]; rfl
  · rw [hcF 27015 (by omega) (by omega)]; exact h.ref
set_option maxRecDepth 100000 in
set_option maxHeartbeats 1600000 in
theorem vSnap (h : VRep own w g c V) (hM : V.marks.length < 16384) :
    Calls Hvah.prog 187 #[.pointer (some ⟨g, 2435, none⟩)] w fun e w' => e = .returned (.int .i32 (V.marks.length : Nat)) ∧ ∃ c', VRep own w' g c' V.snap ∧ VStep own w c own w' c' := by
  obtain ⟨o, cap, hv⟩ : ∃ o cap, c 10629 = .slice o V.journal.length cap := by
    rcases h.jrn with ⟨q1, q2⟩ | ⟨b, cap, c3, q1, _⟩
    · have : V.journal.length = 0 := by rw [← List.length_reverse, q1]; rfl
      rw [this, q2]; exact ⟨none, 0, rfl⟩
    · rw [List.length_reverse] at q1; exact ⟨_, _, q1⟩
  have HE := fun w' => snap_end (w' := w') h hM
  have hnJ := h.nJ
  have k0 := h.blk.cell (i := 10629) (by omega)
  have k1 := h.blk.cell (i := 27014) (by omega)
  have k2 := h.blk.cell (i := 10630 + V.marks.length) (by omega)
  have hB := h.blk
  rw [hv] at k0
  rw [h.nm] at k1
  have hf := h.blk.fz
  obtain ⟨k, hk⟩ : ∃ k, Hid (V.marks.length = k) := ⟨_, (rfl : V.marks.length = _)⟩
  obtain ⟨j, hj⟩ : ∃ j, Hid (V.journal.length = j) := ⟨_, (rfl : V.journal.length = _)⟩
  rw [hk.out] at hM k1 k2 HE ⊢
  rw [hj.out] at k0 hnJ HE
  have hki : (k : Int) < 16384 := by omega
  have hji : IntKind.i32.wrap (j : Int) = (j : Int) := by rw [IntKind.wrap_i32]; omega
  go_enter Hvah.func187, Hvah.ntmps187
  go_wp2
  go_region
  refine w_gen (fun X => Blk X g 27024 105 (updv c (10630 + k) (.int .i32 (j : Nat))) ∧ Mod (· = g) w X) ⟨(hB.set _ _).drew, ((Mod.refl (· = g) w).setCell (Or.inl rfl) _).drew⟩ ?_
  rintro X ⟨hBX, hMX⟩
  clear k0 k1 k2 hf
  have k1 := hBX.cell (i := 27014) (by omega)
  rw [updv_ne _ _ (by omega), h.nm, hk.out] at k1
  have hf := hBX.fz
  go_wp2
  go_ret
  have hR := HE (X.setCell ⟨g, 27014, none⟩ (.int .i32 (k + 1 : Nat))) (hMX.setCell (Or.inl rfl) _) (hBX.set _ _)
  rw [show ((k + 1 : Nat) : Int) = (k : Int) + 1 by omega] at hR
  refine ⟨?_, _, hR⟩
  congr 2
end
end Go.Proofs.YgvahwGreat
