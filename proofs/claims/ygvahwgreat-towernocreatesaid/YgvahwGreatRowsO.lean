import Derived.Test.YgvahwGreatTr
namespace Go.Proofs.YgvahwGreat
open Go.RowKit
section
variable {ops : Array Oper} {rest : List Oper} {a : Act} {Q : Exit → Act → World → Prop} {w : World} {dst : Option Tmp} {ty : TypeId} {pos : String} {aft : Array Edge} {K : Act → World → Prop} {ob : Oper}
/-- copy from cells that are known. -/
theorem op_copyS {d s : Operand} {dT sT e tt : TypeId} {sz b o n1 c1 b2 o2 n2 c2 N k : Nat} {c : Nat → Value} {r : Array Value} (hop : ob.op = .call ⟨.builtin .copy, #[d, s], #[dT, sT]⟩) (ht : Hvah.prog.underlying dT = some (.slice e)) (hs : (Hvah.prog.info? e).map (·.size) = some sz)
    (hd : a.eval d = .slice (some ⟨b, o, none⟩) n1 c1) (hsr : a.eval s = .slice (some ⟨b2, o2, none⟩) n2 c2) (hB : Blk w b N tt c) (hr : RowIn w b2 o2 r) (hk : min n2 n1 = k) (hn : r.size = k * sz) (h1 : o + k * sz ≤ N) (hon : Ones r)
    (h : ∀ W, Blk W b N tt (layv c o r) → Mod (· = b) w W → K (a.put ob.dst (.int .i64 k)) W) : Oper.wp Hvah.prog ob a w K Q := by
  have hlen : r.toList.length = k * sz := by simp [hn]
  have hth := hB.there h1
  have hq := run_copyR w dT sT ob.type e sz b o n1 c1 ⟨b2, o2, none⟩ n2 c2 r.toList ht hs (by rw [hlen, ← hk]) (fun j v hv => by
    have := hr j v (by simpa using hv)
    simp only [Addr.add]
    split
    · rename_i h0; subst h0; simpa using this
    · simpa using this) (fun j hj => (hth j (by omega)).1) (fun j hj => (hth j (by omega)).2) hon
  have hk' : Nat.min n2 n1 = k := hk
  rw [hk'] at hq
  have := h _ (hB.lay (o := o) (r := r) (by rw [hn]; exact h1)) (setCells_mod (S := (· = b)) (Or.inl rfl) _ o w (Mod.refl _ _))
  unfold Oper.wp
  simp [execOp, hop, resolve, invoke, builtin, hd, hsr, hq, Result.andThen, goInt]
  exact this
set_option maxRecDepth 100000 in
theorem wl_copyS {d s : Operand} {dT sT e tt : TypeId} {sz b o n1 c1 b2 o2 n2 c2 N k : Nat} {c : Nat → Value} {r : Array Value} (ht : Hvah.prog.underlying dT = some (.slice e)) (hs : (Hvah.prog.info? e).map (·.size) = some sz)
    (hd : a.eval d = .slice (some ⟨b, o, none⟩) n1 c1) (hsr : a.eval s = .slice (some ⟨b2, o2, none⟩) n2 c2) (hB : Blk w b N tt c) (hr : RowIn w b2 o2 r) (hk : min n2 n1 = k) (hn : r.size = k * sz) (h1 : o + k * sz ≤ N) (hon : Ones r)
    (h : ∀ W, Blk W b N tt (layv c o r) → Mod (· = b) w W → wpList Hvah.prog ops Q rest (a.put dst (.int .i64 k)) W) : Veil (wpList Hvah.prog ops Q (⟨dst, .call ⟨.builtin .copy, #[d, s], #[dT, sT]⟩, ty, pos, aft, none⟩ :: rest) a w) :=
  Veil.mk (wl_any rfl (op_copyS rfl ht hs hd hsr hB hr hk hn h1 hon h))
end
theorem BS.rowIn {O : Nat → Prop} {w : World} {o : Option Addr} {l : List Nat} (h : BS O w o l) (hl : l ≠ []) : ∃ b off, o = some ⟨b, off, none⟩ ∧ b < w.heap.size ∧ ∀ q, RowIn w b (off + q) (bcells (l.drop q)).toArray := by
  obtain ⟨b, off, h1, _, h3, h4⟩ := h.spot hl
  refine ⟨b, off, h1, h3, fun q i v hv => ?_⟩
  simp only [bcells, List.getElem?_toArray, List.getElem?_map, List.getElem?_drop, Option.map_eq_some_iff] at hv
  obtain ⟨x, hx, rfl⟩ := hv
  obtain ⟨hj, rfl⟩ := List.getElem?_eq_some_iff.1 hx
  have := h4 (q + i) hj
  rwa [← Nat.add_assoc] at this
theorem bcells_ones (l : List Nat) : Ones (bcells l).toArray := fun v hv => by
  simp [bcells] at hv
  obtain ⟨x, _, rfl⟩ := hv
  rfl
end Go.Proofs.YgvahwGreat
