import Derived.Test.YgvahwGreatRowsJ
import Derived.Laws.IdiomCopy
namespace Go.Proofs.YgvahwGreat
open Go.RowKit
/-- An element's type: sz cells, its zero z. -/
structure ElT (e : TypeId) (sz : Nat) (z : Array Value) : Prop where
  ex : ∃ i zv, Hvah.prog.info? e = some i ∧ i.zero = some zv ∧ zv.cells = z ∧ i.size = sz ∧ i.bytes ≤ 100000
  size : z.size = sz
  pos : 0 < sz
theorem made_get (z : Array Value) (n : Nat) (hz : 0 < z.size) {i : Nat} (hi : i < n) : cf (madeCells z n) i = cf z (i % z.size) := by
  have hm := Nat.mod_lt i hz
  refine cf_get ?_
  simp [madeCells, hi, cf, Array.getD_eq_getD_getElem?, hm]
theorem run_copyR (w : World) (dT sT ty elem : TypeId) (sz b o dLen dCap : Nat) (a : Addr) (sLen sCap : Nat) (cs : List Value)
    (hu : Hvah.prog.underlying dT = some (.slice elem)) (hs : (Hvah.prog.info? elem).map (·.size) = some sz) (hn : cs.length = Nat.min sLen dLen * sz)
    (hsrc : ∀ j v, cs[j]? = some v → w.cell? (a.add j) = some v) (hc : ∀ j, j < cs.length → (w.cell? ⟨b, o + j, none⟩).isSome = true) (hf : ∀ j, j < cs.length → w.frozen? ⟨b, o + j, none⟩ = false) (h1 : ∀ v ∈ cs, v.oneCell' = true) :
    (Builtin.copy_ #[dT, sT] ty #[.slice (some ⟨b, o, none⟩) dLen dCap, .slice (some a) sLen sCap]).run Hvah.prog w = .ok (goInt (Nat.min sLen dLen)) (w.setCells b o cs) := by
  have hl := run_loadCells_list (P := Hvah.prog) w a cs hsrc
  have hst := run_storeCells_cells (P := Hvah.prog) b o cs 0 w (by simpa using hc) (by simpa using hf) h1
  rw [hn] at hl
  cases hq : Hvah.prog.info? elem with
  | none => simp [hq] at hs
  | some i =>
    have hi : i.size = sz := by simpa [hq] using hs
    simp only [Nat.add_zero] at hst
    simp [Builtin.copy_, run_underlying hu, Builtin.lenOf, Builtin.firstCells, sizeOf, typeInfo, hq, hi, hl, hst]
theorem run_copyR0 (w : World) (dT sT ty elem : TypeId) (d a : Option Addr) (dLen dCap sLen sCap : Nat) (hu : Hvah.prog.underlying dT = some (.slice elem)) (hs : ∃ sz, (Hvah.prog.info? elem).map (·.size) = some sz) (hn : Nat.min sLen dLen = 0) :
    (Builtin.copy_ #[dT, sT] ty #[.slice d dLen dCap, .slice a sLen sCap]).run Hvah.prog w = .ok (goInt 0) w := by
  obtain ⟨sz, hs⟩ := hs
  cases hq : Hvah.prog.info? elem with
  | none => simp [hq] at hs
  | some i =>
    have hl : ∀ (x : Addr), (loadCells x 0).run Hvah.prog w = .ok #[] w := fun x => by simpa using run_loadCells_list (P := Hvah.prog) w x [] (by simp)
    cases d <;> cases a <;> simp [Builtin.copy_, run_underlying hu, Builtin.lenOf, Builtin.firstCells, sizeOf, typeInfo, hq, hn, storeCells, hl]
section
variable {ops : Array Oper} {rest : List Oper} {a : Act} {Q : Exit → Act → World → Prop} {w : World} {dst : Option Tmp} {ty : TypeId} {pos : String} {aft : Array Edge} {K : Act → World → Prop} {ob : Oper}
theorem op_makeR {t e : TypeId} {sz : Nat} {z : Array Value} {l c : Operand} (hop : ob.op = .makeSlice t l c) (ht : Hvah.prog.underlying t = some (.slice e)) (el : ElT e sz z) (n : Nat) (hl : a.eval l = .int .i64 (n : Int)) (hc : a.eval c = .int .i64 (n : Int)) (hn : n ≤ 1000000)
    (h : ∀ B W, Ext w W → Blk W B (n * sz) e (fun i => cf z (i % sz)) → w.heap.size ≤ B → K (a.put ob.dst (.slice (some ⟨B, 0, none⟩) n n)) W) : Oper.wp Hvah.prog ob a w K Q := by
  obtain ⟨i, zv, h1, h2, h3, h4, h5⟩ := el.ex
  have hb : (i.bytes : Int) * n ≤ 281474976710656 := by
    have : i.bytes * n ≤ 100000 * 1000000 := Nat.mul_le_mul h5 hn
    omega
  have hr := run_make (P := Hvah.prog) w t e i zv ht h1 h2 .i64 .i64 n n (by omega) (Int.le_refl _) hb (by omega)
  rw [h3, h4] at hr
  simp only [Int.toNat_natCast] at hr
  have hB := (Blk.new w (madeCells z (n * sz)) e)
  rw [size_madeCells] at hB
  have := h w.heap.size _ ((Ext.refl w).alloc _ _) (hB.same (fun i hi => by rw [made_get z _ (by rw [el.size]; exact el.pos) hi, el.size])) (Nat.le_refl _)
  unfold Oper.wp
  simp [execOp, hop, hl, hc, hr, Result.andThen]
  exact this
theorem op_copyR {d s : Operand} {dT sT e tt t2 : TypeId} {sz b o n1 c1 b2 o2 n2 c2 N N2 k : Nat} {c cs : Nat → Value} (hop : ob.op = .call ⟨.builtin .copy, #[d, s], #[dT, sT]⟩) (ht : Hvah.prog.underlying dT = some (.slice e)) (hs : (Hvah.prog.info? e).map (·.size) = some sz)
    (hd : a.eval d = .slice (some ⟨b, o, none⟩) n1 c1) (hsr : a.eval s = .slice (some ⟨b2, o2, none⟩) n2 c2) (hB : Blk w b N tt c) (hB2 : Blk w b2 N2 t2 cs) (hk : min n2 n1 = k) (h1 : o + k * sz ≤ N) (h2 : o2 + k * sz ≤ N2) (hon : ∀ j, j < k * sz → (cs (o2 + j)).oneCell' = true)
    (h : ∀ W, Blk W b N tt (layv c o (rowOf cs o2 (k * sz))) → Mod (· = b) w W → K (a.put ob.dst (.int .i64 k)) W) : Oper.wp Hvah.prog ob a w K Q := by
  have hlen : (rowOf cs o2 (k * sz)).toList.length = k * sz := by simp [rowOf_size]
  have hth := hB.there h1
  have hr := run_copyR w dT sT ob.type e sz b o n1 c1 ⟨b2, o2, none⟩ n2 c2 (rowOf cs o2 (k * sz)).toList ht hs (by rw [hlen, ← hk]) (fun j v hv => by
    have hv' : (rowOf cs o2 (k * sz))[j]? = some v := by simpa using hv
    have := hB2.rowIn h2 j v hv'
    simp only [Addr.add]
    split
    · rename_i h0; subst h0; simpa using this
    · simpa using this) (fun j hj => (hth j (by omega)).1) (fun j hj => (hth j (by omega)).2) (ones_of (fun i hi => by rw [rowOf_size] at hi; rw [cf_rowOf _ _ _ hi]; exact hon i hi))
  have hk' : Nat.min n2 n1 = k := hk
  rw [hk'] at hr
  have := h _ (hB.lay (o := o) (r := rowOf cs o2 (k * sz)) (by rw [rowOf_size]; exact h1)) (setCells_mod (S := (· = b)) (Or.inl rfl) _ o w (Mod.refl _ _))
  unfold Oper.wp
  simp [execOp, hop, resolve, invoke, builtin, hd, hsr, hr, Result.andThen, goInt]
  exact this
set_option maxRecDepth 100000 in
theorem wl_makeR {t e : TypeId} {sz : Nat} {z : Array Value} {l c : Operand} (ht : Hvah.prog.underlying t = some (.slice e)) (el : ElT e sz z) (n : Nat) (hl : a.eval l = .int .i64 (n : Int)) (hc : a.eval c = .int .i64 (n : Int)) (hn : n ≤ 1000000)
    (h : ∀ B W, Ext w W → Blk W B (n * sz) e (fun i => cf z (i % sz)) → w.heap.size ≤ B → wpList Hvah.prog ops Q rest (a.put dst (.slice (some ⟨B, 0, none⟩) n n)) W) : Veil (wpList Hvah.prog ops Q (⟨dst, .makeSlice t l c, ty, pos, aft, none⟩ :: rest) a w) :=
  Veil.mk (wl_any rfl (op_makeR rfl ht el n hl hc hn h))
set_option maxRecDepth 100000 in
theorem wl_copyR {d s : Operand} {dT sT e tt t2 : TypeId} {sz b o n1 c1 b2 o2 n2 c2 N N2 k : Nat} {c cs : Nat → Value} (ht : Hvah.prog.underlying dT = some (.slice e)) (hs : (Hvah.prog.info? e).map (·.size) = some sz)
    (hd : a.eval d = .slice (some ⟨b, o, none⟩) n1 c1) (hsr : a.eval s = .slice (some ⟨b2, o2, none⟩) n2 c2) (hB : Blk w b N tt c) (hB2 : Blk w b2 N2 t2 cs) (hk : min n2 n1 = k) (h1 : o + k * sz ≤ N) (h2 : o2 + k * sz ≤ N2) (hon : ∀ j, j < k * sz → (cs (o2 + j)).oneCell' = true)
    (h : ∀ W, Blk W b N tt (layv c o (rowOf cs o2 (k * sz))) → Mod (· = b) w W → wpList Hvah.prog ops Q rest (a.put dst (.int .i64 k)) W) : Veil (wpList Hvah.prog ops Q (⟨dst, .call ⟨.builtin .copy, #[d, s], #[dT, sT]⟩, ty, pos, aft, none⟩ :: rest) a w) :=
  Veil.mk (wl_any rfl (op_copyR rfl ht hs hd hsr hB hB2 hk h1 h2 hon h))
theorem wl_copyR0 {d s : Operand} {dT sT e : TypeId} {o1 o2 : Option Addr} {n1 c1 n2 c2 : Nat} (ht : Hvah.prog.underlying dT = some (.slice e)) (hs : ∃ sz, (Hvah.prog.info? e).map (·.size) = some sz)
    (hd : a.eval d = .slice o1 n1 c1) (hsr : a.eval s = .slice o2 n2 c2) (hk : min n2 n1 = 0)
    (h : wpList Hvah.prog ops Q rest (a.put dst (.int .i64 0)) w) : Veil (wpList Hvah.prog ops Q (⟨dst, .call ⟨.builtin .copy, #[d, s], #[dT, sT]⟩, ty, pos, aft, none⟩ :: rest) a w) := by
  refine Veil.mk ?_
  refine wl_any rfl ?_
  have hr := run_copyR0 w dT sT ty e o1 o2 n1 c1 n2 c2 ht hs hk
  unfold Oper.wp
  simp [execOp, resolve, invoke, builtin, hd, hsr, hr, Result.andThen, goInt]
  exact h
end
end Go.Proofs.YgvahwGreat
