import Derived.Test.YgvahwGreatYm0
import Derived.Test.YgvahwGreatRowsG
namespace Go.Proofs.YgvahwGreat
open Go.RowKit
section
variable {kk : Nat → Value} {O TM TL S : Nat → Prop} {w w' : World} {Y F q n B : Nat} {tF : TypeId} {c d d' dB : Nat → Value} {W : YW} {start : List (Nat × Nat × Nat)} {st : ASt} {f f' g g' : AFrame}
/-- Blocks beside the state change. -/
theorem YX.keepS (h : YX kk O TM TL w Y F q n tF c d W start st f) (m : Mod S w w') (hs : ∀ b, ¬ O b → ¬ S b) (hY : ¬ S Y) (hF : ¬ S F) (ht : ∀ b, TM b → ¬ S b) (htl : ∀ b, TL b → ¬ S b) : YX kk O TM TL w' Y F q n tF c d W start st f :=
  ⟨h.bY.mod m hY, h.bF.mod m hF, h.hq, h.wc.keep m hs, h.lim, TmpL.keep h.st8 m hs, h.sl, h.fc.keep m hs ht, h.ok, h.small.mod m, h.ret.keep m hs, h.env.keep m hs, h.price.keep m hs, h.pLt, h.origin, h.oLt, h.now, h.orig, h.oY, h.oF, h.ne, h.hi, h.tm, h.tl,
    h.lg.imp (fun k => LogL.keep k m hs htl) (fun k => ⟨LogL.keep k.1 m hs (fun b hb => hs b hb), k.2⟩)⟩
/-- The state and a new frame in a box. -/
structure YB (kk : Nat → Value) (O TM TL : Nat → Prop) (w : World) (Y F q n : Nat) (c d : Nat → Value) (W : YW) (start : List (Nat × Nat × Nat)) (st : ASt) (f : AFrame) (B : Nat) (dB : Nat → Value) (g : AFrame) : Prop where
  x : YX kk (Wd O B) TM TL w Y F q n 156 c d W start st f
  b : Blk w B 60 156 dB
  fc : YFC (Wd O B) (fun _ => False) w dB 0 g
  hs : g.self < 2 ^ 160
  hc : g.caller < 2 ^ 160
  nY : B ≠ Y
  nF : B ≠ F
  nM : ¬ TM B
  nL : ¬ TL B
  one : ∀ j, j < 60 → (dB j).oneCell' = true
theorem YB.ext (h : YB kk O TM TL w Y F q n c d W start st f B dB g) (e : Ext w w') : YB kk O TM TL w' Y F q n c d W start st f B dB g :=
  ⟨h.x.ext e, h.b.ext e, h.fc.ext e, h.hs, h.hc, h.nY, h.nF, h.nM, h.nL, h.one⟩
theorem YB.keepB (h : YB kk O TM TL w Y F q n c d W start st f B dB g) (m : Mod (· = B) w w') : YX kk (Wd O B) TM TL w' Y F q n 156 c d W start st f :=
  h.x.keepS m (fun _ hb q => hb (Or.inr q)) (fun q => h.nY q.symm) (fun q => h.nF q.symm) (fun _ hb q => h.nM (q ▸ hb)) (fun _ hb q => h.nL (q ▸ hb))
/-- A cell of the box is written. -/
theorem YB.put (h : YB kk O TM TL w Y F q n c d W start st f B dB g) {i : Nat} {v : Value} (h1 : v.oneCell' = true) (m : Mod (· = B) w w') (hB : Blk w' B 60 156 (updv dB i v)) (hf : YFC (Wd O B) (fun _ => False) w (updv dB i v) 0 g') (hs : g'.self < 2 ^ 160) (hc : g'.caller < 2 ^ 160) :
    YB kk O TM TL w' Y F q n c d W start st f B (updv dB i v) g' :=
  ⟨h.keepB m, hB, hf.keep m (fun _ hb q => hb (Or.inr q)) (fun _ q => q.elim), hs, hc, h.nY, h.nF, h.nM, h.nL, fun j hj => by
    by_cases e : j = i
    · subst e; rw [updv_same]; exact h1
    · rw [updv_ne _ _ e]; exact h.one j hj⟩
/-- An address of the box is written. -/
theorem YB.putA (h : YB kk O TM TL w Y F q n c d W start st f B dB g) {i a : Nat} (ha : a < 2 ^ 160) (m : Mod (· = B) w w') (hB : Blk w' B 60 156 (layv dB i (av a))) (hf : YFC (Wd O B) (fun _ => False) w (layv dB i (av a)) 0 g') (hs : g'.self < 2 ^ 160) (hc : g'.caller < 2 ^ 160) :
    YB kk O TM TL w' Y F q n c d W start st f B (layv dB i (av a)) g' :=
  ⟨h.keepB m, hB, hf.keep m (fun _ hb q => hb (Or.inr q)) (fun _ q => q.elim), hs, hc, h.nY, h.nF, h.nM, h.nL, fun j hj => by
    by_cases e : i ≤ j ∧ j < i + 20
    · have := layv_in dB i (av a) (j := j - i) (by rw [av_size ha]; omega)
      rw [show i + (j - i) = j by omega] at this
      rw [this]; exact Ones.get (r := av a) (av_one a) (by rw [av_size ha]; omega)
    · rw [layv_out _ _ _ (by rw [av_size ha]; omega)]; exact h.one j hj⟩
/-- The frame below is written. -/
theorem YB.frame (h : YB kk O TM TL w Y F q n c d W start st f B dB g) (hX : YX kk (Wd O B) TM TL w' Y F q n 156 c d' W start st f') (m : Mod (· = F) w w') : YB kk O TM TL w' Y F q n c d' W start st f' B dB g :=
  ⟨hX, h.b.mod m h.nF, h.fc.keep m (fun _ hb e => hb (e ▸ h.x.oF)) (fun _ q => q.elim), h.hs, h.hc, h.nY, h.nF, h.nM, h.nL, h.one⟩
theorem YB.ones (h : YB kk O TM TL w Y F q n c d W start st f B dB g) : Ones (rowOf dB 0 60) := ones_of (fun i hi => by
  rw [rowOf_size] at hi
  rw [cf_rowOf _ _ _ hi, Nat.zero_add]; exact h.one i hi)
theorem YB.row (h : YB kk O TM TL w Y F q n c d W start st f B dB g) : YFC (Wd O B) (fun _ => False) w (cf (rowOf dB 0 60)) 0 g :=
  h.fc.same h.hs h.hc (fun j hj => by rw [Nat.zero_add, cf_rowOf _ _ _ (by omega), Nat.zero_add])
/-- The box is new. -/
theorem YB.new (h : YX kk O TM TL w Y F q n 156 c d W start st f) (e : Ext w w') (hg : w.heap.size ≤ B) (hB : Blk w' B 60 156 dB) (hf : YFC (Wd O B) (fun _ => False) w' dB 0 g) (hs : g.self < 2 ^ 160) (hc : g.caller < 2 ^ 160) (h1 : ∀ j, j < 60 → (dB j).oneCell' = true) : YB kk O TM TL w' Y F q n c d W start st f B dB g := by
  have hY := h.bY.lt
  have hF := h.bF.lt
  exact ⟨h.widen0 hg e hB.lt, hB, hf, hs, hc, by omega, by omega, fun t => by have := h.small B (h.tm B t).1; omega, fun t => by have := h.small B (h.tl B t).1; omega, h1⟩
end
end Go.Proofs.YgvahwGreat
