import Derived.Test.YgvahwGreatYi0
import Derived.Test.YgvahwGreatYr
import Derived.Test.YgvahwGreatYS
import Derived.Test.YgvahwGreatNx1
import Derived.Test.YgvahwGreatIa
namespace Go.Proofs.YgvahwGreat
open Go.RowKit
section
variable {O O' S : Nat → Prop} {w w' : World} {Y : Nat} {c : Nat → Value} {W : YW} {st : ASt} {tot : Nat} {x : Array Value} {t : ATx}
theorem Mod.below (m : Mod S w w') : Mod (fun b => S b ∧ b < w.heap.size) w w' := (Mod.refl _ _).trans' m (fun b q => by
  rcases Nat.lt_or_ge b w.heap.size with k | k
  · exact Or.inl ⟨q, k⟩
  · exact Or.inr k)
theorem YI.reoE (h : YI O w Y c W st tot) (e : Ext w w') (hr : ∀ b, b < w.heap.size → O' b → O b) (hY : O' Y) (hs : Small O' w') : YI O' w' Y c W st tot :=
  ⟨h.bY.ext e, (h.wc.reo hr).ext e, h.lim, h.wf, hs, h.phase, h.ph, h.status, h.applied, (h.total.reo hr).ext e, (h.env.reo hr).ext e, h.now, hY, h.lg0, h.lgs⟩
theorem YI.keepE (h : YI O w Y c W st tot) (m : Mod S w w') (hs : ∀ b, ¬ O b → b < w.heap.size → ¬ S b) (hY : ¬ S Y) : YI O w' Y c W st tot := by
  have m2 := m.below
  have hs2 : ∀ b, ¬ O b → ¬ (S b ∧ b < w.heap.size) := fun b hb q => hs b hb q.2 q.1
  exact ⟨h.bY.mod m hY, h.wc.keep m2 hs2, h.lim, h.wf, h.small.mod m, h.phase, h.ph, h.status, h.applied, h.total.keep m2 hs2, h.env.keep m2 hs2, h.now, h.oY, h.lg0, h.lgs⟩
theorem TxC.reoE (h : TxC O w (cf x) t) (e : Ext w w') (hr : ∀ b, b < w.heap.size → O' b → O b) : TxC O' w' (cf x) t :=
  TxC.ext (w := w) { h with data := h.data.reoS hr, access := h.access.reoS hr (fun _ _ _ k => ⟨k.addr, k.aLt, k.keys.reo hr⟩) } e
theorem TxC.keepE (h : TxC O w (cf x) t) (m : Mod S w w') (hs : ∀ b, ¬ O b → b < w.heap.size → ¬ S b) : TxC O w' (cf x) t := by
  have m2 := m.below
  have hs2 : ∀ b, ¬ O b → ¬ (S b ∧ b < w.heap.size) := fun b hb q => hs b hb q.2 q.1
  exact { h with data := h.data.keepS m2 hs2, access := h.access.keepS m2 hs2 (fun _ _ _ k => ⟨k.addr, k.aLt, k.keys.keep m2 hs2⟩) }
end
end Go.Proofs.YgvahwGreat
