import Derived.Test.YgvahwGreatEw4
import Derived.Test.YgvahwGreatBg4
import Derived.Test.YgvahwGreatEp
import Derived.Test.YgvahwGreatFi
import Derived.Test.YgvahwGreatRs
import Derived.Test.YgvahwGreatVe1
import Derived.Test.YgvahwGreatNx1
import Derived.Test.YgvahwGreatYr
import Derived.Test.YgvahwGreatRw0
namespace Go.Proofs.YgvahwGreat
open Go.RowKit
set_option linter.unusedVariables false
/-- The engine behind a transaction. -/
structure ERc (g n0 : Nat) (o0 : Nat → Nat) (stE : ASt) (P : Nat → Prop) (q : Array Value) (N : Nat) (w : World) (own : Nat → Nat) (c : Nat → Value) (V : EV) : Prop where
  x : XR own w g c (V.accts.map EAcct.rest) (V.slots.map (ESlot.rest V.accts))
  wf : V.WF
  abs : V.abs = stE.paid
  rc : RecC (Mu own) w (cf q) stE.receipt
  tag : own g = 8
  sub : ∀ b, EP own b → P b
  zero : ∀ b, n0 ≤ b → b < N → own b = 0 → P b
  le : N ≤ w.heap.size
  lt : ∀ b, P b → b < w.heap.size
  old : ∀ b, b < n0 → own b = o0 b
def ER (g n0 : Nat) (o0 : Nat → Nat) (stE : ASt) (P : Nat → Prop) (q : Array Value) (N : Nat) (w : World) : Prop :=
  ∃ own c V, ERc g n0 o0 stE P q N w own c V
section
variable {g n0 N : Nat} {o0 : Nat → Nat} {stE : ASt} {P : Nat → Prop} {q : Array Value} {w w' : World}
theorem ERc.keep {own : Nat → Nat} {c : Nat → Value} {V : EV} (h : ERc g n0 o0 stE P q N w own c V) {S : Nat → Prop} (m : Mod S w w') (hs : ∀ b, S b → own b = 9) : ERc g n0 o0 stE P q N w' own c V := by
  have ne : ∀ {k b : Nat}, own b = k → k ≠ 9 → ¬ S b := fun e1 e2 e3 => e2 (e1.symm.trans (hs _ e3))
  exact ⟨h.x.keep m (fun b e => ne e (by decide)) (fun b e => ne e (by decide)) (fun b e => ne e (by decide)) (h.x.blk.mod m (ne h.tag (by decide))) rfl rfl, h.wf, h.abs, h.rc.keepW m (fun b hb e => hb (by unfold Mu; rw [hs b e]; decide)), h.tag, h.sub, h.zero, Nat.le_trans h.le m.size, fun b hb => Nat.lt_of_lt_of_le (h.lt b hb) m.size, h.old⟩
theorem ER.stable {B : Nat} (h : ER g n0 o0 stE P q N w) (hB : ¬ P B) (hn : n0 ≤ B) (hN : B < N) (m : Mod (· = B) w w') : ER g n0 o0 stE P q N w' := by
  obtain ⟨own, c, V, hX⟩ := h
  have h0 : own B ≠ 0 := fun e => hB (hX.zero B hn hN e)
  have h9 : own B = 9 := Classical.byContradiction fun e => hB (hX.sub B ⟨h0, e⟩)
  exact ⟨own, c, V, hX.keep m (fun b e => by have e2 : b = B := e; rw [e2]; exact h9)⟩
/-- The engine between payment and rest. -/
def EA (g n0 : Nat) (o0 : Nat → Nat) (stE : ASt) (P : Nat → Prop) (q : Array Value) (w : World) : Prop :=
  ∃ W1 own c V stale, MRep own W1 g c V { stE with now := stE.paid } [] stale ∧ RecC (Mu own) W1 (cf q) stE.receipt ∧ PW n0 o0 own P W1 ∧ Ext W1 w
set_option maxHeartbeats 1000000 in
theorem eFinishGo {T A0 S0 B : Nat} (h : EN T A0 S0 B g n0 o0 stE 0 P w) (hE : EndOK stE) : Calls Hvah.prog 26 #[.pointer (some ⟨g, 0, none⟩)] w fun r w' => ∃ P' q, r = .returned (.agg q) ∧ q.size = 25 ∧ Ones q ∧ ER g n0 o0 stE P' q w.heap.size w' ∧ Kept P P' w w' := by
  obtain ⟨own, c, V, stale, hR, hA, hV, hP, hf, hp⟩ := h.last
  refine eFinishW (P0 := P) (g := g) (fun b hb q => by have := hp.lt b q; omega) (fun P' q N W => EA g n0 o0 stE P' q W ∧ N ≤ W.heap.size) (fun P' q N W => ER g n0 o0 stE P' q N W) ?_ ?_ ?_ ?_ ?_ ?_ ?_
  · rintro P' q N W W' ⟨⟨W1, own1, c1, V1, st1, h1, h2, h3, h4⟩, hN⟩ e
    exact ⟨⟨W1, own1, c1, V1, st1, h1, h2, h3, h4.trans e⟩, Nat.le_trans hN e.size⟩
  · rintro P' q N W ⟨⟨W1, own1, c1, V1, st1, h1, h2, h3, h4⟩, hN⟩ b hb hq
    have := h3.lt b hq
    have := h4.size
    omega
  · rintro P' q N W ⟨⟨W1, own1, c1, V1, st1, h1, h2, h3, h4⟩, hN⟩
    rw [(h1.v.blk.ext h4).cell (by decide), h1.built]
  · intro P' q N W W' B2 hr hB hn hN m
    exact hr.stable hB (Nat.le_trans hp.le hn) hN m
  · rintro P' q N M W ⟨own1, c1, V1, hx⟩ hM
    exact ⟨own1, c1, V1, { hx with zero := fun b h1 h2 h3 => hx.zero b h1 (by omega) h3, le := Nat.le_trans hM hx.le }⟩
  · intro W eW
    obtain ⟨own9, h9, p9, o9, _⟩ := hR.marked hp eW
    refine (ePay h9 hf hE.ph hE.left hE.lim hE.fee (hV.room.le (by decide)) hE.ref hE.p1 hE.p2 hE.few (Nat.lt_trans hE.status (by decide))).mono ?_
    rintro r w' ⟨q, rfl, hq1, hq2, own', c', hR', hS, hrec⟩
    obtain ⟨p1, p2⟩ := p9.step hS hR'.v.fresh
    exact ⟨_, q, rfl, hq1, hq2, hrec.verdict, ⟨⟨w', own', c', _, stale, hR', hrec, p1, Ext.refl _⟩, hS.mod.size⟩, p2⟩
  · rintro P' q N W ⟨⟨W1, own1, c1, V1, st1, h1, h2, h3, h4⟩, hN⟩
    obtain ⟨own9, h9, p9, o9, _⟩ := h1.marked h3 h4
    have hrec : RecC (Mu own9) W (cf q) stE.receipt := (h2.reoW (O' := Mu own9) (fun b hb k => by unfold Mu at *; rw [← o9 b hb]; exact k)).ext h4
    refine (eRestW h9.v.blk h9.m.ptr (fun c' w' => XR own9 w' g c' (V1.accts.map EAcct.rest) (V1.slots.map (ESlot.rest V1.accts)) ∧ Mod (fun b => (own9 b ≠ 0 ∧ own9 b ≠ 9) ∧ own9 b ≠ 7) W w') ?_).mono ?_
    · refine (vEndTx h9.v).mono ?_
      rintro r w' ⟨rfl, c', hx, _, hm⟩
      exact ⟨rfl, c', hx.blk, hx, hm⟩
    · rintro r w2 ⟨rfl, c', w1, c2, ⟨hx, hm⟩, hb2, hc2, hm2⟩
      have hg8 : own9 g = 8 := h9.v.tag
      have hS : MStep own9 W own9 w2 := ⟨fun _ _ => rfl, (hm.sub (fun b hb => hb.1)).trans (hm2.sub (fun b hb => by have hb2 : b = g := hb; rw [hb2, hg8]; decide))⟩
      obtain ⟨p1, p2⟩ := p9.step hS (fun b hb => h9.v.fresh b (Nat.le_trans hS.mod.size hb))
      have ne : ∀ {k b : Nat}, own9 b = k → k ≠ 8 → ¬ b = g := fun e1 e2 e3 => by rw [e3, hg8] at e1; exact e2 e1.symm
      refine ⟨_, rfl, ⟨own9, c2, V1, hx.keep hm2 (fun b e => ne e (by decide)) (fun b e => ne e (by decide)) (fun b e => ne e (by decide)) hb2 (hc2 _ (by decide)) (hc2 _ (by decide)), h9.v.wf, h9.abs, hrec.keepW hS.mod (fun b hb e => hb e.1), hg8, p1.sub, fun b k1 k2 k3 => p1.zero b k1 (by have := hS.mod.size; omega) k3, Nat.le_trans hN hS.mod.size, p1.lt, p1.old⟩, p2⟩
end
end Go.Proofs.YgvahwGreat
