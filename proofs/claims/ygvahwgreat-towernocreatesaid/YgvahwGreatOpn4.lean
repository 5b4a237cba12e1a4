import Derived.Test.YgvahwGreatOpn3
namespace Go.Proofs.YgvahwGreat
open Go.RowKit
section
variable {own own' : Nat → Nat} {w w' : World} {g : Nat} {c c' d : Nat → Value} {V V' : EV} {st st' : ASt} {stale : List Nat} {t : ATx}
theorem NLx.vstep (k : VStep own w c own' w' c') {v : Value} {l : List Nat} (h : NLx (Mu own) w v l) : NLx (Mu own') w' v l := by
  obtain ⟨o, n, h1, h2, h3, h4, h5⟩ := h
  refine ⟨o, n, h1, h2, h3, h4, fun hl => ?_⟩
  obtain ⟨b, off, q1, q2, q3, q4⟩ := h5 hl
  have h0 : own b = 0 := Classical.byContradiction (fun q => q2 q)
  exact ⟨b, off, q1, fun q => q (by rw [k.keep b q3]; exact h0), Nat.lt_of_lt_of_le q3 k.mod.size, fun i hi => k.cell0 q3 h0 (q4 i hi)⟩
theorem TxC.vstep (k : VStep own w c own' w' c') (h : TxC (Mu own) w d t) : TxC (Mu own') w' d t :=
  { h with data := h.data.vstep k, access := k.el h.access (fun _ _ _ q => ⟨q.addr, q.aLt, k.kl q.keys⟩) }
/-- The machine, the transaction's box and the target's while Open works. -/
structure OS (own : Nat → Nat) (w : World) (g : Nat) (c : Nat → Value) (V : EV) (st : ASt) (stale : List Nat) (BT B8 : Nat) (r : Array Value) (t : ATx) (c8 : Nat → Value) : Prop where
  h : MRep own w g c V st [] stale
  bT : Blk w BT 174 40 (cf r)
  oT : own BT = 0
  hT : TxC (Mu own) w (cf r) t
  b8 : Blk w B8 20 31 c8
  o8 : own B8 = 0
variable {BT B8 : Nat} {r : Array Value} {c8 : Nat → Value}
theorem OS.step (o : OS own w g c V st stale BT B8 r t c8) (h' : MRep own' w' g c' V' st' [] stale) (k : VStep own w c own' w' c') : OS own' w' g c' V' st' stale BT B8 r t c8 :=
  ⟨h', o.bT.mod k.mod (fun q => q.1.1 o.oT), (k.keep _ o.bT.lt).trans o.oT, o.hT.vstep k, o.b8.mod k.mod (fun q => q.1.1 o.o8), (k.keep _ o.b8.lt).trans o.o8⟩
theorem OS.ext (o : OS own w g c V st stale BT B8 r t c8) (e : Ext w w') : OS own w' g c V st stale BT B8 r t c8 := o.step (o.h.ext e) (VStep.ext e)
end
end Go.Proofs.YgvahwGreat
