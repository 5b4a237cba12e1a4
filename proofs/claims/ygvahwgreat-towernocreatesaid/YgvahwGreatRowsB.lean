import Derived.Test.YgvahwGreatArn
import Derived.Test.YgvahwGreatLay
import Derived.Test.YgvahwGreatGRow
import Derived.Test.YgvahwGreatVaultB
namespace Go.Proofs.YgvahwGreat
open Go.RowKit

/-- The type t has n cells and is a row or a struct. -/
structure RowT (t : TypeId) (n : Nat) : Prop where
  desc : ∃ d, Hvah.prog.underlying t = some d ∧ d.isRow = true
  size : (Hvah.prog.info? t).map (·.size) = some n
theorem RowIn.alloc {w : World} {b o : Nat} {r : Array Value} (h : RowIn w b o r) (hb : b < w.heap.size) (ob : Obj) : RowIn (w.alloc ob) b o r := fun i v hv => by
  rw [World.cell?_alloc_old _ _ _ (Nat.ne_of_lt hb)]; exact h i v hv
theorem alloc_setRow (w : World) (zs r : Array Value) (t : TypeId) : (w.alloc (.cells zs t)).setRow w.heap.size r = w.alloc (.cells r t) := by
  simp only [World.setRow, World.alloc]
  congr 1
  apply Array.ext_getElem?
  intro k
  rw [Array.getElem?_modify, Array.getElem?_push, Array.getElem?_push]
  by_cases h : k = w.heap.size
  · subst h; simp
  · simp [h, Ne.symm h]
theorem alloc_set (w : World) (zs r : Array Value) (t : TypeId) (h : r.size = zs.size) : (w.alloc (.cells zs t)).setCells w.heap.size 0 r.toList = w.alloc (.cells r t) := by
  rw [setCells_row (t := t) (fz := (0, 0)) w.heap.size r.toList 0 _ zs.toList (by simpa using heap_new w (.cells zs t)) (by simp; omega), lay_whole _ _ (by simp; omega)]
  exact alloc_setRow w zs r t
section
variable {ops : Array Oper} {rest : List Oper} {a : Act} {Q : Exit → Act → World → Prop} {w : World} {dst : Option Tmp} {ty : TypeId} {pos : String} {aft : Array Edge}
theorem wl_loadR {x : Operand} {t : TypeId} {n : Nat} (ht : RowT t n) (b o : Nat) (r : Array Value) (hn : r.size = n) (hx : a.eval x = .pointer (some ⟨b, o, none⟩)) (hr : RowIn w b o r)
    (h : wpList Hvah.prog ops Q rest (a.put dst (.agg r)) w) : Veil (wpList Hvah.prog ops Q (⟨dst, .load t x, ty, pos, aft, none⟩ :: rest) a w) := by
  refine Veil.mk ?_
  obtain ⟨d, h1, h2⟩ := ht.desc
  exact wpList_load_mid rfl t x rfl b o hx r.toList d (fun j v hv => hr j v (by simpa using hv)) h1 h2 (by rw [ht.size]; simp [hn]) (by simpa using h)
theorem wl_storeR {x y : Operand} {t : TypeId} {n : Nat} (ht : RowT t n) (b o : Nat) (r : Array Value) (hn : r.size = n) (hx : a.eval x = .pointer (some ⟨b, o, none⟩)) (hy : a.eval y = .agg r)
    (hth : w.there b o n) (h1 : ∀ v ∈ r.toList, v.oneCell' = true) (h : wpList Hvah.prog ops Q rest (a.put dst undef) (w.setCells b o r.toList)) : Veil (wpList Hvah.prog ops Q (⟨dst, .store t x y, ty, pos, aft, none⟩ :: rest) a w) :=
  Veil.mk (wpList_store_mid rfl t x y rfl b o r hx hy (by rw [hn]; exact hth) (by rw [ht.size, hn]) (by have := all_oneCell_toArray h1; simpa using this) h)
/-- append of one element. -/
theorem wl_append1 {s x : Operand} {t : TypeId}
    (e : TypeId) (i : TypeInfo) (z : Value) (sz : Nat) (ht : Hvah.prog.underlying t = some (.slice e)) (hi : Hvah.prog.info? e = some i) (hz : i.zero = some z) (hsz : i.size = sz) (hzs : z.cells.size = sz)
    (hby : i.bytes ≤ 4096) (v : Value) (n b : Nat) (c : Nat → Value) (hA : Arn w e sz v n b c) (hn : n ≤ 1048576)
    (ad : Addr) (c1 : Nat) (news : List Value) (hl : news.length = sz) (hnews : ∀ j u, news[j]? = some u → w.cell? (ad.add j) = some u) (h1 : ∀ u ∈ news, u.oneCell' = true)
    (hs : a.eval s = v) (hx : a.eval x = .slice (some ad) 1 c1)
    (hK : ∀ v' W b' c', Grown w e sz v n b c news v' W b' c' → wpList Hvah.prog ops Q rest (a.put dst v') W) : Veil (wpList Hvah.prog ops Q (⟨dst, .call { callee := Callee.builtin Builtin.append, args := #[s, x], argTypes := #[t, t] }, ty, pos, aft, none⟩ :: rest) a w) := by
  refine Veil.mk ?_
  refine wpList_plain rfl fun K hKK => ?_
  obtain ⟨v', W, b', c', hr, hG⟩ := run_append1 (w := w) t ty e i z sz ht hi hz hsz hzs hby v n b c hA hn ad c1 news hl hnews h1
  unfold Oper.wp
  simp [execOp, resolve, invoke, builtin, hs, hx, hr, Result.andThen]
  exact hKK _ _ (hK _ _ _ _ hG)
/-- A slice of one element. -/
theorem wl_build1 {y : Operand} {t : TypeId} (e : TypeId) (i : TypeInfo) (z : Value) (n : Nat) (ht : Hvah.prog.underlying t = some (.slice e)) (hi : Hvah.prog.info? e = some i) (hz : i.zero = some z) (hsz : i.size = n) (hzs : z.cells.size = n) (h0 : 0 < n) (hbig : n ≤ 1000)
    (r : Array Value) (hr : r.size = n) (hy : a.eval y = .agg r)
    (h : wpList Hvah.prog ops Q rest (a.put dst (.slice (some ⟨w.heap.size, 0, none⟩) 1 1)) (w.alloc (.cells r e))) :
    wpList Hvah.prog ops Q (⟨dst, .buildSlice t 1 #[(0, y)], ty, pos, aft, none⟩ :: rest) a w := by
  refine wpList_plain rfl fun K hK => ?_
  have hf : ∀ zs : Array Value, zs.size = n → Instr.fill (fun i => some (i * n, n)) zs [(0, .agg r)] = some r := fun zs hzz => by
    simp [Instr.fill, Value.cells, hr, hzz]
    rw [lay0_fold zs r n hr]
    exact layA_full zs r (by omega)
  have hrun : (Instr.buildSlice t 1 #[(0, .agg r)]).run Hvah.prog w = .ok (.slice (some ⟨w.heap.size, 0, none⟩) 1 1) (w.alloc (.cells r e)) := by
    unfold Instr.buildSlice
    have hne : ¬ (1 * n = 0) := by omega
    have hle : ¬ (1 * n > 2 ^ 24) := by omega
    have hf2 := hf ((Array.range n).map (z.cells[· % z.cells.size]!)) (by simp)
    simp [Sem.run_bind, run_underlying ht, sizeOf, typeInfo, hi, hsz, zeroValue, hz, Nat.ne_of_gt h0, newRow, newObj, hf2, Nat.not_lt.2 (Nat.le_trans hbig (by decide : 1000 ≤ 16777216))]
    rfl
  unfold Oper.wp
  simp [execOp, hy, hrun, Result.andThen]
  exact hK _ _ h
end
end Go.Proofs.YgvahwGreat
