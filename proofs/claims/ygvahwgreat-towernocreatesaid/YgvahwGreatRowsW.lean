import Derived.Test.YgvahwGreatRowsV
namespace Go.Proofs.YgvahwGreat
open Go.RowKit
section
variable {own : Nat → Nat} {w w' : World} {g : Nat} {c : Nat → Value} {V : EV} {st : ASt} {sn stale : List Nat}
/-- Blocks of one's own are kept apart. -/
theorem MRep.reserveP (P : Nat → Prop) [DecidablePred P] (h : MRep own w g c V st sn stale) (e : Ext w w') (hP : ∀ b, P b → w.heap.size ≤ b ∧ b < w'.heap.size) : ∃ own7, (∀ b, P b → own7 b = 7) ∧ (∀ b, b < w.heap.size → own7 b = own b) ∧ (∀ b, ¬ P b → own7 b = own b) ∧ MRep own7 w' g c V st sn stale := by
  have hne : ∀ b, b < w.heap.size → ¬ P b := fun b hb q => by have := (hP b q).1; omega
  refine ⟨fun b => if P b then 7 else own b, fun b hb => if_pos hb, fun b hb => if_neg (hne b hb), fun b hb => if_neg hb, ?_⟩
  have K : Keep own (fun b => if P b then 7 else own b) g 7 w w' := ⟨fun b hb => if_neg (hne b hb), e.mod _, h.v.tag, by decide⟩
  have hl7 : st.frames.length ≤ 7 := by have := h.m.mem.few; simpa using this
  have hm := h.m.mem
  refine h.gen K (fun b hb => ?_) (h.v.blk.ext e) rfl (fun _ _ => rfl) ⟨hm.top, hm.base, hm.buf.mono (fun _ _ _ q => q) (fun b hb q => ?_) (fun b m t cc q _ => q.ext e), hm.few, hm.size, hm.stl⟩ (FrL.same (fun _ _ _ => rfl) K.nl7 hl7 h.m.frs) h.m.top (K.nl h.m.ret) h.m.left h.snl h.snr h.saved
  · show (if P b then 7 else own b) = 0
    rw [if_neg (fun q => by have := (hP b q).2; omega)]; exact h.v.fresh b (Nat.le_trans e.size hb)
  · unfold Ow at *
    exact (K.tags b hb).trans q
end
end Go.Proofs.YgvahwGreat
