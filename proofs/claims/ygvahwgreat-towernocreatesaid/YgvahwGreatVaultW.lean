import Derived.Test.YgvahwGreatVaultT
namespace Go.Proofs.YgvahwGreat
open Go.RowKit
attribute [local go_sem] wv_fold
theorem slot_putWarm {c : Nat → Value} {o : Nat} {x : ESlot} (q : Bool) (h : SlotC c o x) : SlotC (updv c (o + 13) (.bool q)) o { x with warm := q } := by
  have hc : ∀ j, j < 13 → updv c (o + 13) (.bool q) (o + j) = c (o + j) := fun j h2 => updv_ne _ _ (by omega)
  refine ⟨?_, h.aLt, ⟨?_, ?_, ?_, ?_⟩, h.kLt, ⟨?_, ?_, ?_, ?_⟩, h.vLt, ⟨?_, ?_, ?_, ?_⟩, h.oLt, updv_same _ _ _⟩
  · exact (hc 0 (by omega)).trans h.acct
  · rw [hc 1 (by omega)]; exact h.key.c0
  · rw [Nat.add_assoc, hc 2 (by omega)]; exact h.key.c1
  · rw [Nat.add_assoc, hc 3 (by omega)]; exact h.key.c2
  · rw [Nat.add_assoc, hc 4 (by omega)]; exact h.key.c3
  · rw [hc 5 (by omega)]; exact h.val.c0
  · rw [Nat.add_assoc, hc 6 (by omega)]; exact h.val.c1
  · rw [Nat.add_assoc, hc 7 (by omega)]; exact h.val.c2
  · rw [Nat.add_assoc, hc 8 (by omega)]; exact h.val.c3
  · rw [hc 9 (by omega)]; exact h.orig.c0
  · rw [Nat.add_assoc, hc 10 (by omega)]; exact h.orig.c1
  · rw [Nat.add_assoc, hc 11 (by omega)]; exact h.orig.c2
  · rw [Nat.add_assoc, hc 12 (by omega)]; exact h.orig.c3
section
variable {own : Nat → Nat} {w : World} {g bj p n : Nat} {t : TypeId} {c cj : Nat → Value} {V : EV}
theorem VRep.slotIx (h : VRep own w g c V) {i : Nat} (hi : i < V.slots.length) : ∃ b cap c2, c 2436 = .slice (some ⟨b, 0, none⟩) V.slots.length cap ∧ V.slots.length ≤ cap ∧ cap ≤ 9223372036854775807 ∧ Blk w b (cap * 14) 185 c2 ∧ own b = 2 ∧
    (∀ (i : Nat) (h : i < V.slots.length), SlotC c2 (i * 14) V.slots[i]) ∧ i * 14 + 14 ≤ cap * 14 := by
  rcases h.slots with ⟨h3, _⟩ | ⟨b, cap, c2, h3, h4, h5, h6, h7, h8⟩
  · rw [h3] at hi; simp at hi
  · exact ⟨b, cap, c2, h3, h4, h5, h6, h7, h8, by have : (i + 1) * 14 ≤ cap * 14 := Nat.mul_le_mul_right _ (by omega); omega⟩
set_option maxRecDepth 100000 in
set_option maxHeartbeats 1600000 in
theorem vUndo5 {i N W : Nat} {B : List Nat} {F : Bool} (h : VRep own w g c V) (hjb : Blk w bj n t cj) (hown : own bj = 3) (he : JEC (Mu own) w cj p ⟨5, i, N, W, B, F⟩) (hp : p + 9 ≤ n) (hi : i < V.slots.length) :
    Calls Hvah.prog 408 #[.pointer (some ⟨g, 2435, none⟩), .pointer (some ⟨bj, p, none⟩)] w fun e w' => e = .returned (.bool true) ∧ VRep own w' g c (V.modS i fun x => { x with warm := F }) ∧ VStep own w c own w' c := by
  obtain ⟨b, cap, c2, hv, hlc, hcm, hb, hob, hrows, hin⟩ := h.slotIx hi
  have e0 := hjb.cell (i := p) (by omega)
  rw [he.kind] at e0
  have e1 := hjb.cell (i := p + 1) (by omega)
  rw [he.at_] at e1
  have e2 := hjb.cell (i := p + 8) (by omega)
  rw [he.flag] at e2
  have t0 := hb.cell (i := i * 14 + 13) (by omega)
  have k0 := h.blk.cell (i := 2436) (by omega)
  rw [hv] at k0
  have hf := hb.fz
  have hii : (i : Int) < V.slots.length := by omega
  have hwi : IntKind.i64.wrap (i : Int) = (i : Int) := by rw [IntKind.wrap_i64]; have := h.nS; omega
  have hbj : b ≠ bj := fun q => by rw [q, hown] at hob; omega
  go_enter Hvah.func408, Hvah.ntmps408
  go_wp2
  go_quiet (fail)
  go_wp2
  go_region
  go_wp2
  go_ret
  refine ⟨rfl, modS_end (f := fun x => { x with warm := F }) (c3 := updv c2 (i * 14 + 13) (.bool F)) h hv hlc hcm hob hi hrows ((hb.drewN _).set _ _) (fun j hj => updv_ne _ _ (by omega)) (((Mod.refl (· = b) w).drewN _).setCell (Or.inl rfl) _) (fun _ => rfl) (slot_putWarm F (hrows i hi))⟩
set_option maxRecDepth 100000 in
set_option maxHeartbeats 1600000 in
theorem vUndo3 {i N W : Nat} {B : List Nat} {F : Bool} (h : VRep own w g c V) (hjb : Blk w bj n t cj) (hown : own bj = 3) (he : JEC (Mu own) w cj p ⟨3, i, N, W, B, F⟩) (hp : p + 9 ≤ n) (hi : i < V.slots.length) :
    Calls Hvah.prog 408 #[.pointer (some ⟨g, 2435, none⟩), .pointer (some ⟨bj, p, none⟩)] w fun e w' => e = .returned (.bool true) ∧ VRep own w' g c (V.modS i fun x => { x with val := W }) ∧ VStep own w c own w' c := by
  obtain ⟨b, cap, c2, hv, hlc, hcm, hb, hob, hrows, hin⟩ := h.slotIx hi
  have e0 := hjb.cell (i := p) (by omega)
  rw [he.kind] at e0
  have e1 := hjb.cell (i := p + 1) (by omega)
  rw [he.at_] at e1
  have e2 := hjb.cell (i := p + 3) (by omega)
  rw [he.wd.c0] at e2
  have e3 := hjb.cell (i := p + 4) (by omega)
  rw [he.wd.c1] at e3
  have e4 := hjb.cell (i := p + 5) (by omega)
  rw [he.wd.c2] at e4
  have e5 := hjb.cell (i := p + 6) (by omega)
  rw [he.wd.c3] at e5
  have t0 := hb.cell (i := i * 14 + 5) (by omega)
  have t1 := hb.cell (i := i * 14 + 6) (by omega)
  have t2 := hb.cell (i := i * 14 + 7) (by omega)
  have t3 := hb.cell (i := i * 14 + 8) (by omega)
  have k0 := h.blk.cell (i := 2436) (by omega)
  rw [hv] at k0
  have hf := hb.fz
  have hii : (i : Int) < V.slots.length := by omega
  have hwi : IntKind.i64.wrap (i : Int) = (i : Int) := by rw [IntKind.wrap_i64]; have := h.nS; omega
  have hbj : b ≠ bj := fun q => by rw [q, hown] at hob; omega
  go_enter Hvah.func408, Hvah.ntmps408
  go_wp2
  go_quiet (fail)
  go_wp2
  go_region
  go_wp2
  go_ret
  refine ⟨rfl, modS_end (f := fun x => { x with val := W }) (c3 := upd4 c2 (i * 14 + 5) W) h hv hlc hcm hob hi hrows ((hb.drewN _).set4 _ _) (fun j hj => upd4_out _ _ _ _ (by omega)) (((Mod.refl (· = b) w).drewN _).set4 (Or.inl rfl) _ _ _ _ _) (fun _ => rfl) (slot_setVal (hrows i hi) he.wLt)⟩
set_option maxRecDepth 100000 in
set_option maxHeartbeats 1600000 in
theorem vUndo6 {i N W : Nat} {B : List Nat} {F : Bool} (h : VRep own w g c V) (hjb : Blk w bj n t cj) (he : JEC (Mu own) w cj p ⟨6, i, N, W, B, F⟩) (hp : p + 9 ≤ n) :
    Calls Hvah.prog 408 #[.pointer (some ⟨g, 2435, none⟩), .pointer (some ⟨bj, p, none⟩)] w fun e w' => e = .returned (.bool true) ∧ ∃ c', VRep own w' g c' { V with ref := N } ∧ VStep own w c own w' c' := by
  have e0 := hjb.cell (i := p) (by omega)
  rw [he.kind] at e0
  have e2 := hjb.cell (i := p + 2) (by omega)
  rw [he.n] at e2
  have k0 := h.blk.cell (i := 27015) (by omega)
  have hf := h.blk.fz
  go_enter Hvah.func408, Hvah.ntmps408
  go_wp2
  go_ret
  exact ⟨rfl, _, ref_end h he.nLt⟩
end
end Go.Proofs.YgvahwGreat
