import Derived.Test.YgvahwGreatRowsH
namespace Go.Proofs.YgvahwGreat
open Go.RowKit
set_option linter.unusedSimpArgs false
/-- The frames' slice: its block is all of its room, or it has no room. -/
def FV (w : World) (e : TypeId) (sz : Nat) (v : Value) (k F n : Nat) (c : Nat → Value) : Prop :=
  (k = 0 ∧ v = .slice none 0 0) ∨ ∃ cap, v = .slice (some ⟨F, 0, none⟩) k cap ∧ k ≤ cap ∧ cap ≤ 9223372036854775807 ∧ Blk w F n e c ∧ (cap * sz = n ∨ (cap = k ∧ k * sz ≤ n))
section
variable {w : World}
set_option maxRecDepth 100000 in
theorem run_appendV (t ty e : TypeId) (i : TypeInfo) (z : Value) (sz : Nat) (ht : Hvah.prog.underlying t = some (.slice e)) (hi : Hvah.prog.info? e = some i) (hz : i.zero = some z) (hsz : i.size = sz) (hzs : z.cells.size = sz)
    (hby : i.bytes ≤ 4096) (v : Value) (k F n : Nat) (c : Nat → Value) (hV : FV w e sz v k F n c) (hn : k ≤ 1048576)
    (ad : Addr) (c1 : Nat) (news : List Value) (hl : news.length = sz) (hnews : ∀ j u, news[j]? = some u → w.cell? (ad.add j) = some u) (h1 : ∀ u ∈ news, u.oneCell' = true) :
    ∃ v' W b' c', (Builtin.append_ #[t, t] ty #[v, .slice (some ad) 1 c1]).run Hvah.prog w = .ok v' W ∧ Grown w e sz v k F c news v' W b' c' := by
  rcases hV with ⟨h0, hv⟩ | ⟨cap, hv, h2, h3, h4, h5 | ⟨h5, h6⟩⟩
  · exact run_append1 t ty e i z sz ht hi hz hsz hzs hby v k F c (Or.inl ⟨h0, hv⟩) hn ad c1 news hl hnews h1
  · subst h5
    exact run_append1 t ty e i z sz ht hi hz hsz hzs hby v k F c (Or.inr ⟨cap, hv, h2, h3, h4⟩) hn ad c1 news hl hnews h1
  · subst h5
    subst hv
    obtain ⟨v', W, b', c', hr, hG, hE, hb⟩ := run_appendF (w := w) t ty e i z sz ht hi hz hsz hzs hby (some ⟨F, 0, none⟩) cap c (run_firstCells_some w.drew sz cap ⟨F, 0, none⟩ cap cap _ (by simp) ((Blk.drew h4).range (cap * sz) h6)) hn ad c1 news hl hnews h1
    exact ⟨v', W, b', c', hr, hG.arn, hG.old, hG.new, Or.inr ⟨hb, hE⟩, hG.some⟩
end
section
variable {ops : Array Oper} {o : Oper} {a : Act} {w : World} {K : Act → World → Prop} {Q : Exit → Act → World → Prop} {E : Prop}
/-- append of one element, as one step of a region that draws. -/
theorem step_appendV (hg : o.guard = none) (s x : Operand) (t : TypeId) (hop : o.op = Op.call { callee := Callee.builtin Builtin.append, args := #[s, x], argTypes := #[t, t] })
    (e : TypeId) (i : TypeInfo) (z : Value) (sz : Nat) (ht : Hvah.prog.underlying t = some (.slice e)) (hi : Hvah.prog.info? e = some i) (hz : i.zero = some z) (hsz : i.size = sz) (hzs : z.cells.size = sz)
    (hby : i.bytes ≤ 4096) (v : Value) (k F n : Nat) (c : Nat → Value) (hV : FV w e sz v k F n c) (hn : k ≤ 1048576)
    (ad : Addr) (c1 : Nat) (news : List Value) (hl : news.length = sz) (hnews : ∀ j u, news[j]? = some u → w.cell? (ad.add j) = some u) (h1 : ∀ u ∈ news, u.oneCell' = true)
    (hs : a.eval s = v) (hx : a.eval x = .slice (some ad) 1 c1)
    (hK : ∀ v' W b' c', Grown w e sz v k F c news v' W b' c' → K (a.put o.dst v') W) :
    if Region.wanted o (yielded ops a.tmps) = true then Oper.wp Hvah.prog o a w K Q else E := by
  obtain ⟨v', W, b', c', hr, hG⟩ := run_appendV t o.type e i z sz ht hi hz hsz hzs hby v k F n c hV hn ad c1 news hl hnews h1
  have hw : Region.wanted o (yielded ops a.tmps) = true := by simp [Region.wanted, hg]
  rw [if_pos hw]
  unfold Oper.wp
  simp [execOp, hop, resolve, invoke, builtin, hs, hx, hr, Result.andThen]
  exact hK _ _ _ _ hG
end
end Go.Proofs.YgvahwGreat
