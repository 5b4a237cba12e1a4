import Derived.Test.YgvahwGreatRowsG
import Derived.Test.YgvahwGreatYS
namespace Go.Proofs.YgvahwGreat
open Go.RowKit
section
variable {O O' : Nat → Prop} {w : World} {v : Value}
theorem NL.reo {l : List Nat} (h : NL O w v l) (hO : ∀ b, b < w.heap.size → O' b → O b) : NL O' w v l := by
  obtain ⟨o, c, h1, h2, h3, h4⟩ := h
  refine ⟨o, c, h1, h2, h3, h4.lt, fun hl => ?_⟩
  obtain ⟨b, off, k1, k2, k3, k4⟩ := h4.spot hl
  exact ⟨b, off, k1, fun q => k2 (hO b k3 q), k3, k4⟩
theorem NV.reo {x : Nat} (h : NV O w v x) (hO : ∀ b, b < w.heap.size → O' b → O b) : NV O' w v x := by
  obtain ⟨l, h1, h2⟩ := h; exact ⟨l, h1.reo hO, h2⟩
theorem WL.reo {l : List Nat} (h : WL O w v l) (hO : ∀ b, b < w.heap.size → O' b → O b) : WL O' w v l := by
  rcases h with h | ⟨b, off, cap, h1, h2, h3, h4, h5, h6⟩
  · exact Or.inl h
  · exact Or.inr ⟨b, off, cap, h1, h2, h3, fun q => h4 (hO b h5 q), h5, h6⟩
theorem GRow.reo {α : Type} {ty : TypeId} {sz : Nat} {R R' : (Nat → Value) → Nat → α → Prop} {l : List α} (h : GRow ty sz R (fun b => ¬ O b) w v l) (hO : ∀ b, b < w.heap.size → O' b → O b) (hR : ∀ c o x, R c o x → R' c o x) : GRow ty sz R' (fun b => ¬ O' b) w v l :=
  h.mono hR (fun b hb k q => k (hO b hb q)) (fun _ _ _ _ k _ => k)
theorem LgC.reo {c : Nat → Value} {o : Nat} {x : ALog} (h : LgC O w c o x) (hO : ∀ b, b < w.heap.size → O' b → O b) : LgC O' w c o x := ⟨h.addr, h.aLt, h.topics.reo hO, h.few, h.data.reo hO⟩
theorem NumS.reo {l : List Nat} (h : NumS O w v l) (hO : ∀ b, b < w.heap.size → O' b → O b) : NumS O' w v l := by
  obtain ⟨base, cap, h1, h2, h3, h4⟩ := h
  refine ⟨base, cap, h1, h2, h3, fun hl => ?_⟩
  obtain ⟨b, m, c, k1, k2, k3, k4, k5⟩ := h4 hl
  exact ⟨b, m, c, k1, k2, k3, fun q => k4 (hO b k2.lt q), fun i hi => (k5 i hi).reo hO⟩
theorem AcP.reo {x : YA} {u1 u2 u3 u4 : Value} (h : AcP O w x u1 u2 u3 u4) (hO : ∀ b, b < w.heap.size → O' b → O b) : AcP O' w x u1 u2 u3 u4 :=
  ⟨h.aLt, h.nonce.reo hO, h.bal.reo hO, h.code.reo hO, GRow.reo h.slots hO (fun _ _ _ k => ⟨k.key.reo hO, k.val.reo hO⟩)⟩
theorem YWC.reo {c : Nat → Value} {q : Nat} {W : YW} (h : YWC O w c q W) (hO : ∀ b, b < w.heap.size → O' b → O b) : YWC O' w c q W :=
  ⟨GRow.reo h.accts hO (fun _ _ _ k => ⟨k.addr, k.parts.reo hO⟩), GRow.reo h.warmA hO (fun _ _ _ k => k), GRow.reo h.warmS hO (fun _ _ _ k => ⟨k.addr, k.aLt, k.key.reo hO⟩), h.refund.reo hO, GRow.reo h.temps hO (fun _ _ _ k => ⟨k.addr, k.aLt, k.key.reo hO, k.val.reo hO⟩), GRow.reo h.made hO (fun _ _ _ k => k), GRow.reo h.gone hO (fun _ _ _ k => k)⟩
theorem YFC.reo {TM : Nat → Prop} {d : Nat → Value} {q : Nat} {f : AFrame} (h : YFC O TM w d q f) (hO : ∀ b, b < w.heap.size → O' b → O b) : YFC O' TM w d q f :=
  ⟨h.kind, h.pre, h.static, h.pc.reo hO, h.gas.reo hO, h.value.reo hO, h.outOff.reo hO, h.outLen.reo hO, NumS.reo h.stack hO, h.mem, h.code.reo hO, h.input.reo hO, h.self, h.caller, h.mcap⟩
theorem EnvC.reo {c : Nat → Value} {o : Nat} {e : AEnv} (h : EnvC O w c o e) (hO : ∀ b, b < w.heap.size → O' b → O b) : EnvC O' w c o e := h.same (fun _ _ _ => rfl) (fun _ _ q => q.reo hO)
end
end Go.Proofs.YgvahwGreat
