import Derived.Test.YgvahwGreatVaultX
import Derived.Test.YgvahwGreatVaultV
namespace Go.Proofs.YgvahwGreat
open Go.RowKit
section
variable {own : Nat → Nat} {w w' : World} {g bj p n : Nat} {t : TypeId} {c c' cj : Nat → Value} {V X : EV}
/-- The vault with other journal, logs, marks and refund. -/
theorem VRep.gen (h : VRep own w g c V) (hm : Mod (· = g) w w') (hB : Blk w' g 27024 105 c') (hA : X.accts = V.accts) (hS : X.slots = V.slots) (hT : X.temps = V.temps) (hc1 : ∀ i, 2435 ≤ i → i < 10629 → c' i = c i) (h17 : c' 27017 = c 27017) (h18 : c' 27018 = c 27018) (hjk : X.JOK0) (nJ : X.journal.length ≤ 65536) (nL : X.logs.length ≤ 2800) (nM : X.marks.length ≤ 16384) (hj : GRow 227 9 (JEC (Mu own) w') (Ow own 3) w' (c' 10629) X.journal.reverse) (hl : GRow 141 22 (LogC (Mu own) w') (Ow own 4) w' (c' 27016) X.logs) (hmk : ∀ id, id < X.marks.length → c' (10630 + id) = .int .i32 (X.markAt id : Nat)) (hnm : c' 27014 = .int .i32 (X.marks.length : Nat)) (hrf : c' 27015 = .int .u64 (X.ref : Nat)) (rLt : X.ref < 18446744073709551616) : VRep own w' g c' X := by
  have K := Keep.here h hm
  refine ⟨hB, h.tag, fun x hx => h.fresh x (Nat.le_trans hm.size hx), ⟨by rw [hA]; exact h.wf.a1, by rw [hS]; exact h.wf.s1, by rw [hT]; exact h.wf.t1, by rw [hS, hA]; exact h.wf.sA, by rw [hT, hA]; exact h.wf.tA⟩, hjk, by rw [hA]; exact h.nA, by rw [hS]; exact h.nS, by rw [hT]; exact h.nT, nJ, nL, nM, ?_, ?_, ?_, hj, hl, ?_, ?_, ?_, hmk, hnm, hrf, rLt⟩
  · rw [hc1 2435 (by omega) (by omega), hA]; exact K.row h.accts (fun _ _ _ k => K.acct (fun _ _ => rfl) k) (by decide) (by decide)
  · rw [hc1 2436 (by omega) (by omega), hS]; exact K.row h.slots (fun _ _ _ k => k) (by decide) (by decide)
  · rw [h17, hT]; exact K.row h.temps (fun _ _ _ k => k) (by decide) (by decide)
  · obtain ⟨t2, q1, q2⟩ := h.tA
    exact ⟨t2, fun p hp => by rw [hc1 _ (by omega) (by omega)]; exact q1 p hp, by rw [hA]; exact q2⟩
  · obtain ⟨t2, q1, q2⟩ := h.tS
    exact ⟨t2, fun p hp => by rw [hc1 _ (by omega) (by omega)]; exact q1 p hp, by rw [hS]; exact q2⟩
  · rw [h18, hT]
    rcases h.tT with q | ⟨t2, q1, q2⟩
    · exact Or.inl q
    · exact Or.inr ⟨t2, K.tab q1 (by decide), q2⟩
theorem VRep.jrnHere (h : VRep own w g c V) (hm : Mod (· = g) w w') : GRow 227 9 (JEC (Mu own) w') (Ow own 3) w' (c 10629) V.journal.reverse := (Keep.here h hm).row h.jrn (fun _ _ _ k => (Keep.here h hm).je (fun _ _ => rfl) k) (by decide) (by decide)
theorem VRep.logsHere (h : VRep own w g c V) (hm : Mod (· = g) w w') : GRow 141 22 (LogC (Mu own) w') (Ow own 4) w' (c 27016) V.logs := (Keep.here h hm).row h.logs (fun _ _ _ k => (Keep.here h hm).log (fun _ _ => rfl) k) (by decide) (by decide)
/-- A row without its last. -/
theorem GRow.pop {α : Type} {ty : TypeId} {sz : Nat} {R : (Nat → Value) → Nat → α → Prop} {T : Nat → Prop} {b cap : Nat} {l : List α} {k : Nat} (hk : k ≤ l.length) (h : GRow ty sz R T w (.slice (some ⟨b, 0, none⟩) l.length cap) l) : GRow ty sz R T w (.slice (some ⟨b, 0, none⟩) k cap) (l.take k) := by
  rcases h with ⟨_, q⟩ | ⟨b2, cap2, c2, h1, h2, h3, h4, h5, h6⟩
  · cases q
  · injection h1 with e1 e2 e3
    injection e1 with e1
    injection e1 with e4
    subst e4 e3
    refine Or.inr ⟨b, cap, c2, by rw [List.length_take, Nat.min_eq_left hk], by rw [List.length_take, Nat.min_eq_left hk]; omega, h3, h4, h5, fun i hi => ?_⟩
    rw [List.length_take, Nat.min_eq_left hk] at hi
    rw [List.getElem_take]
    exact h6 i (by omega)
theorem modT_end {i b cap : Nat} {c2 c3 : Nat → Value} {v : Nat} (h : VRep own w g c V) (hv : c 27017 = .slice (some ⟨b, 0, none⟩) V.temps.length cap) (hcap : V.temps.length ≤ cap) (hcm : cap ≤ 9223372036854775807) (hb : own b = 5) (hi : i < V.temps.length)
    (hRows : ∀ (i : Nat) (h : i < V.temps.length), TempC c2 (i * 9) V.temps[i]) (hB : Blk w' b (cap * 9) 439 c3) (hc : ∀ j, j < i * 9 ∨ (i + 1) * 9 ≤ j → c3 j = c2 j) (hm : Mod (· = b) w w')
    (hnew : TempC c3 (i * 9) { V.temps[i] with val := v }) : VRep own w' g c (V.modT i fun x => { x with val := v }) ∧ VStep own w c own w' c := by
  have K : Keep own own g 5 w w' := ⟨fun _ _ => rfl, hm.sub (fun x hx => Or.inr (by rw [hx]; exact hb)), h.tag, by decide⟩
  have hne : g ≠ b := fun q => by have := h.tag; rw [q, hb] at this; omega
  have hlen : (V.modT i fun x => { x with val := v }).temps.length = V.temps.length := by simp [EV.modT]
  have hset : (V.modT i fun x => { x with val := v }).temps = V.temps.set i { V.temps[i] with val := v } := by unfold EV.modT; exact modify_set _ _ _ hi
  refine ⟨⟨h.blk.mod hm hne, h.tag, fun x hx => h.fresh x (Nat.le_trans hm.size hx), WF_modT h.wf v, ⟨fun e he => fits_more (h.jok.fits e he) (Nat.le_refl _) (Nat.le_refl _) (by rw [hlen]; exact Nat.le_refl _), h.jok.marks, h.jok.fall⟩, h.nA, h.nS, by rw [hlen]; exact h.nT, h.nJ, h.nL, h.nM, K.row h.accts (fun _ _ _ k => K.acct (fun _ _ => rfl) k) (by decide) (by decide), K.row h.slots (fun _ _ _ k => k) (by decide) (by decide), ?_,
    K.row h.jrn (fun _ _ _ k => K.je (fun _ _ => rfl) k) (by decide) (by decide), K.row h.logs (fun _ _ _ k => K.log (fun _ _ => rfl) k) (by decide) (by decide), h.tA, h.tS, ?_, h.marks, h.nm, h.ref, h.rLt⟩, fun _ _ => rfl, fun _ _ => rfl, hm.sub (fun x hx => by rw [hx, hb]; exact ⟨by decide, by decide⟩)⟩
  · rw [hset]
    exact GRow.change (R := TempC) hv hcap hcm hB hb hRows i _ hc (fun c c' o y hc hy => temp_move hc hy) hnew
  · rcases h.tT with q | ⟨t2, q1, q2⟩
    · rw [q.1] at hi; simp at hi
    · refine Or.inr ⟨t2, K.tab q1 (by decide), ?_⟩
      rw [hlen]
      refine q2.congr (fun j hj => ?_)
      rw [hset]
      simp only [List.getD_eq_getElem?_getD, List.getElem?_set]
      split
      · rename_i q; subst q; simp [hi]
      · rfl
theorem temp_setVal {o m : Nat} {x : ETemp} (h : TempC c o x) (hm : m < P256) : TempC (upd4 c (o + 5) m) o { x with val := m } := by
  have hc : ∀ j, j < 5 → upd4 c (o + 5) m (o + j) = c (o + j) := fun j h2 => upd4_out _ _ _ _ (by omega)
  refine ⟨(hc 0 (by omega)).trans h.acct, h.aLt, ⟨?_, ?_, ?_, ?_⟩, h.kLt, upd4_at c (o + 5) m, hm⟩
  · rw [hc 1 (by omega)]; exact h.key.c0
  · rw [Nat.add_assoc, hc 2 (by omega)]; exact h.key.c1
  · rw [Nat.add_assoc, hc 3 (by omega)]; exact h.key.c2
  · rw [Nat.add_assoc, hc 4 (by omega)]; exact h.key.c3
theorem VRep.tempIx (h : VRep own w g c V) {i : Nat} (hi : i < V.temps.length) : ∃ b cap c2, c 27017 = .slice (some ⟨b, 0, none⟩) V.temps.length cap ∧ V.temps.length ≤ cap ∧ cap ≤ 9223372036854775807 ∧ Blk w b (cap * 9) 439 c2 ∧ own b = 5 ∧
    (∀ (i : Nat) (h : i < V.temps.length), TempC c2 (i * 9) V.temps[i]) ∧ i * 9 + 9 ≤ cap * 9 := by
  rcases h.temps with ⟨h3, _⟩ | ⟨b, cap, c2, h3, h4, h5, h6, h7, h8⟩
  · rw [h3] at hi; simp at hi
  · exact ⟨b, cap, c2, h3, h4, h5, h6, h7, h8, by have : (i + 1) * 9 ≤ cap * 9 := Nat.mul_le_mul_right _ (by omega); omega⟩
set_option maxRecDepth 100000 in
set_option maxHeartbeats 1600000 in
theorem vUndo8 {i N W : Nat} {B : List Nat} {F : Bool} (h : VRep own w g c V) (hjb : Blk w bj n t cj) (hown : own bj = 3) (he : JEC (Mu own) w cj p ⟨8, i, N, W, B, F⟩) (hp : p + 9 ≤ n) (hi : i < V.temps.length) :
    Calls Hvah.prog 408 #[.pointer (some ⟨g, 2435, none⟩), .pointer (some ⟨bj, p, none⟩)] w fun e w' => e = .returned (.bool true) ∧ VRep own w' g c (V.modT i fun x => { x with val := W }) ∧ VStep own w c own w' c := by
  obtain ⟨b, cap, c2, hv, hlc, hcm, hb, hob, hrows, hin⟩ := h.tempIx hi
  have e0 := hjb.cell (i := p) (by omega)
  rw [he.kind] at e0
  have e1 := hjb.cell (i := p + 1) (by omega)
  rw [he.at_] at e1
  have e2 := hjb.cell (i := p + 3) (by omega)
  rw [he.wd.c0] at e2
  have e3 := hjb.cell (i := p + 4) (by omega)
  rw [he.wd.c1] at e3
  have e4 := hjb.cell (i := p + 5) (by omega)
  rw [he.wd.c2] at e4
  have e5 := hjb.cell (i := p + 6) (by omega)
  rw [he.wd.c3] at e5
  have t0 := hb.cell (i := i * 9 + 5) (by omega)
  have t1 := hb.cell (i := i * 9 + 6) (by omega)
  have t2 := hb.cell (i := i * 9 + 7) (by omega)
  have t3 := hb.cell (i := i * 9 + 8) (by omega)
  have k0 := h.blk.cell (i := 27017) (by omega)
  rw [hv] at k0
  have hf := hb.fz
  have hii : (i : Int) < V.temps.length := by omega
  have hwi : IntKind.i64.wrap (i : Int) = (i : Int) := by rw [IntKind.wrap_i64]; have := h.nT; omega
  have hbj : b ≠ bj := fun q => by rw [q, hown] at hob; omega
  go_enter Hvah.func408, Hvah.ntmps408
  go_wp2
  go_quiet (fail)
  go_wp2
  go_region
  go_wp2
  go_ret
  refine ⟨rfl, modT_end (c3 := upd4 c2 (i * 9 + 5) W) h hv hlc hcm hob hi hrows ((hb.drewN _).set4 _ _) (fun j hj => upd4_out _ _ _ _ (by omega)) (((Mod.refl (· = b) w).drewN _).set4 (Or.inl rfl) _ _ _ _ _) (temp_setVal (hrows i hi) he.wLt)⟩
set_option maxRecDepth 100000 in
set_option maxHeartbeats 1600000 in
theorem vUndo7 {i N W : Nat} {B : List Nat} {F : Bool} (h : VRep own w g c V) (hjb : Blk w bj n t cj) (he : JEC (Mu own) w cj p ⟨7, i, N, W, B, F⟩) (hp : p + 9 ≤ n) (hl : V.logs ≠ []) :
    Calls Hvah.prog 408 #[.pointer (some ⟨g, 2435, none⟩), .pointer (some ⟨bj, p, none⟩)] w fun e w' => e = .returned (.bool true) ∧ ∃ c', VRep own w' g c' { V with logs := V.logs.dropLast } ∧ VStep own w c own w' c' := by
  have e0 := hjb.cell (i := p) (by omega)
  rw [he.kind] at e0
  obtain ⟨b, cap, cl, hv, hlc, hcm, hb, hob, hrows⟩ : ∃ b cap cl, c 27016 = .slice (some ⟨b, 0, none⟩) V.logs.length cap ∧ V.logs.length ≤ cap ∧ cap ≤ 9223372036854775807 ∧ Blk w b (cap * 22) 141 cl ∧ own b = 4 ∧ ∀ (i : Nat) (h : i < V.logs.length), LogC (Mu own) w cl (i * 22) V.logs[i] := by
    rcases h.logs with ⟨q, _⟩ | q
    · exact absurd q hl
    · exact q
  have k0 := h.blk.cell (i := 27016) (by omega)
  rw [hv] at k0
  have hf := h.blk.fz
  have hpos : 0 < V.logs.length := List.length_pos_iff.2 hl
  obtain ⟨k, hk⟩ : ∃ k, V.logs.length = k + 1 := ⟨V.logs.length - 1, by omega⟩
  have hnl := h.nL
  have hlog := h.logs
  rw [hk] at k0 hv hlc
  have z1 : ((k : Int) + 1 == 0) = false := by simp; omega
  go_enter Hvah.func408, Hvah.ntmps408
  go_wp2
  go_region
  go_wp2
  go_ret
  have hm : Mod (· = g) w ((w.setCell ⟨g, 27016, none⟩ (.slice (some ⟨b, 0, none⟩) k cap)).drew) := ((Mod.refl (· = g) w).setCell (Or.inl rfl) _).drew
  have hB : Blk ((w.setCell ⟨g, 27016, none⟩ (.slice (some ⟨b, 0, none⟩) k cap)).drew) g 27024 105 (updv c 27016 (.slice (some ⟨b, 0, none⟩) k cap)) := (h.blk.set _ _).ext (Ext.refl _).drew
  refine ⟨rfl, updv c 27016 (.slice (some ⟨b, 0, none⟩) k cap), h.gen hm hB rfl rfl rfl (fun i h1 h2 => updv_ne _ _ (by omega)) (updv_ne _ _ (by omega)) (updv_ne _ _ (by omega)) ⟨fun e he => fits_more (h.jok.fits e he) (Nat.le_refl _) (Nat.le_refl _) (Nat.le_refl _), h.jok.marks, h.jok.fall⟩ h.nJ (by show V.logs.dropLast.length ≤ 2800; rw [List.length_dropLast]; omega) h.nM (by rw [updv_ne _ _ (by omega)]; exact h.jrnHere hm) ?_ (fun id hid => by have := h.nM; have hid' : id < V.marks.length := hid; rw [updv_ne _ _ (by omega)]; exact h.marks id hid) (by rw [updv_ne _ _ (by omega)]; exact h.nm) (by rw [updv_ne _ _ (by omega)]; exact h.ref) h.rLt, fun _ _ => rfl, fun i hi => updv_ne _ _ (by omega), hm.sub (fun x hx => by rw [hx, h.tag]; exact ⟨by decide, by decide⟩)⟩
  rw [updv_same]
  show GRow 141 22 _ _ _ _ V.logs.dropLast
  rw [List.dropLast_eq_take, hk, Nat.add_sub_cancel]
  have := h.logsHere hm
  rw [hv, ← hk] at this
  exact this.pop (by omega)
/-- undo. -/
theorem vUndo {e : JE} (h : VRep own w g c V) (hjb : Blk w bj n t cj) (hown : own bj = 3) (he : JEC (Mu own) w cj p e) (hp : p + 9 ≤ n) (hf : V.fits e) (hl : e.kind = 7 → V.logs ≠ []) :
    Calls Hvah.prog 408 #[.pointer (some ⟨g, 2435, none⟩), .pointer (some ⟨bj, p, none⟩)] w fun r w' => r = .returned (.bool true) ∧ ∃ c', VRep own w' g c' (V.undo e) ∧ VStep own w c own w' c' := by
  obtain ⟨kind, i, N, W, B, F⟩ := e
  obtain ⟨f1, f2, f3, f4⟩ := hf
  simp only at f1 f2 f3 f4 hl
  have lift : ∀ {Y : EV}, Calls Hvah.prog 408 #[.pointer (some ⟨g, 2435, none⟩), .pointer (some ⟨bj, p, none⟩)] w (fun e w' => e = .returned (.bool true) ∧ VRep own w' g c Y ∧ VStep own w c own w' c) → Calls Hvah.prog 408 #[.pointer (some ⟨g, 2435, none⟩), .pointer (some ⟨bj, p, none⟩)] w (fun r w' => r = .returned (.bool true) ∧ ∃ c', VRep own w' g c' Y ∧ VStep own w c own w' c') := fun H => H.mono (fun e w1 q => ⟨q.1, c, q.2.1, q.2.2⟩)
  have hk : kind = 0 ∨ kind = 1 ∨ kind = 2 ∨ kind = 3 ∨ kind = 4 ∨ kind = 5 ∨ kind = 6 ∨ kind = 7 ∨ kind = 8 ∨ kind = 9 ∨ kind = 10 := by omega
  rcases hk with rfl | rfl | rfl | rfl | rfl | rfl | rfl | rfl | rfl | rfl | rfl
  · exact lift (vUndo0 h hjb hown he hp (f1 (by decide)))
  · exact lift (vUndo1 h hjb hown he hp (f1 (by decide)))
  · exact lift (vUndo2 h hjb hown he hp (f1 (by decide)))
  · exact lift (vUndo3 h hjb hown he hp (f2 (by decide)))
  · exact lift (vUndo4 h hjb hown he hp (f1 (by decide)))
  · exact lift (vUndo5 h hjb hown he hp (f2 (by decide)))
  · exact vUndo6 h hjb he hp
  · exact vUndo7 h hjb he hp (hl rfl)
  · exact lift (vUndo8 h hjb hown he hp (f3 rfl))
  · exact lift (vUndo9 h hjb hown he hp (f1 (by decide)))
  · exact lift (vUndo10 h hjb hown he hp (f1 (by decide)))
end
end Go.Proofs.YgvahwGreat
