import Derived.Test.YgvahwGreatKk
import Derived.Test.YgvahwGreatRowsK
import Derived.Test.YgvahwGreatOm
namespace Go.Proofs.YgvahwGreat
set_option linter.unusedVariables false
open Go.RowKit
set_option linter.unusedSimpArgs false

section
variable {ops : Array Oper} {rest : List Oper} {a : Act} {Q : Exit → Act → World → Prop} {w : World} {dst : Option Tmp} {ty : TypeId} {pos : String} {aft : Array Edge} {K : Act → World → Prop} {ob : Oper}
set_option maxRecDepth 100000 in
theorem wl_makeC {t e : TypeId} {sz : Nat} {z : Array Value} {l c : Operand} (ht : Hvah.prog.underlying t = some (.slice e)) (el : ElT e sz z) (n m : Nat) (hl : a.eval l = .int .i64 (n : Int)) (hc : a.eval c = .int .i64 (m : Int)) (hnm : n ≤ m) (hm : m ≤ 100000000)
    (h : ∀ B W, Ext w W → Blk W B (m * sz) e (fun i => cf z (i % sz)) → w.heap.size ≤ B → wpList Hvah.prog ops Q rest (a.put dst (.slice (some ⟨B, 0, none⟩) n m)) W) : Veil (wpList Hvah.prog ops Q (⟨dst, .makeSlice t l c, ty, pos, aft, none⟩ :: rest) a w) := by
  refine Veil.mk ?_
  refine wl_any rfl ?_
  obtain ⟨i, zv, h1, h2, h3, h4, h5⟩ := el.ex
  have hb : (i.bytes : Int) * m ≤ 281474976710656 := by
    have : i.bytes * m ≤ 100000 * 100000000 := Nat.mul_le_mul h5 hm
    omega
  have hr := run_make (P := Hvah.prog) w t e i zv ht h1 h2 .i64 .i64 n m (by omega) (by omega) hb (by omega)
  rw [h3, h4] at hr
  simp only [Int.toNat_natCast] at hr
  have hB := (Blk.new w (madeCells z (m * sz)) e)
  rw [size_madeCells] at hB
  have := h w.heap.size _ ((Ext.refl w).alloc _ _) (hB.same (fun i hi => by rw [made_get z _ (by rw [el.size]; exact el.pos) hi, el.size])) (Nat.le_refl _)
  unfold Oper.wp
  simp [execOp, hl, hc, hr, Result.andThen]
  exact this
set_option maxRecDepth 100000 in
theorem wl_build1c {y : Operand} {t : TypeId} (e : TypeId) (i : TypeInfo) (z v : Value) (ht : Hvah.prog.underlying t = some (.slice e)) (hi : Hvah.prog.info? e = some i) (hz : i.zero = some z) (hsz : i.size = 1) (hzs : z.cells.size = 1) (hy : a.eval y = v) (h1 : v.oneCell' = true)
    (h : ∀ B W, Ext w W → W.cell? ⟨B, 0, none⟩ = some v → w.heap.size ≤ B → wpList Hvah.prog ops Q rest (a.put dst (.slice (some ⟨B, 0, none⟩) 1 1)) W) : Veil (wpList Hvah.prog ops Q (⟨dst, .buildSlice t 1 #[(0, y)], ty, pos, aft, none⟩ :: rest) a w) := by
  refine Veil.mk ?_
  refine wl_any rfl ?_
  have hcs := one_cells h1
  have hf : Instr.fill (fun i => some (i * 1, 1)) ((Array.range 1).map (z.cells[· % z.cells.size]!)) [(0, v)] = some #[v] := by
    simp [Instr.fill, hcs]
    refine Array.ext (by simp) (fun i h1 h2 => ?_)
    have : i = 0 := by simpa using h2
    subst this
    simp
  have hrun : (Instr.buildSlice t 1 #[(0, v)]).run Hvah.prog w = .ok (.slice (some ⟨w.heap.size, 0, none⟩) 1 1) (w.alloc (.cells #[v] e)) := by
    unfold Instr.buildSlice
    simp [Sem.run_bind, run_underlying ht, sizeOf, typeInfo, hi, hsz, zeroValue, hz, newRow, newObj]
    simp at hf
    simp [hf]
    rfl
  unfold Oper.wp
  simp [execOp, hy, hrun, Result.andThen]
  exact h _ _ ((Ext.refl w).alloc _ _) (row_new w #[v] e 0 v rfl) (Nat.le_refl _)
set_option maxRecDepth 100000 in
theorem wl_appendIn {s x : Operand} {t e : TypeId} {i : TypeInfo} {n cap b B c1 : Nat} {c : Nat → Value} {v : Value} (ht : Hvah.prog.underlying t = some (.slice e)) (hi : Hvah.prog.info? e = some i) (hsz : i.size = 1) (hs : a.eval s = .slice (some ⟨b, 0, none⟩) n cap) (hx : a.eval x = .slice (some ⟨B, 0, none⟩) 1 c1) (hB : Blk w b cap e c) (hn : n < cap) (hc : w.cell? ⟨B, 0, none⟩ = some v) (h1 : v.oneCell' = true)
    (h : ∀ W, Blk W b cap e (updv c n v) → Mod (· = b) w W → wpList Hvah.prog ops Q rest (a.put dst (.slice (some ⟨b, 0, none⟩) (n + 1 : Nat) cap)) W) : Veil (wpList Hvah.prog ops Q (⟨dst, .call { callee := Callee.builtin Builtin.append, args := #[s, x], argTypes := #[t, t] }, ty, pos, aft, none⟩ :: rest) a w) := by
  refine Veil.mk ?_
  have hS : Src Hvah.prog i.size t (.slice (some ⟨B, 0, none⟩) 1 c1) 1 [v] w := Src.ofSlice w ht ⟨B, 0, none⟩ 1 c1 [v] (by simp [hsz]) (fun j u hu => by
    cases j with
    | zero => simp at hu; subst hu; rw [Addr.add_mid]; exact hc
    | succ j => simp at hu) (by simp [h1])
  have hr := run_append_room_src (P := Hvah.prog) w t t ty e i ht hi b 0 n cap _ 1 [v] hS (by omega) (fun j hj => by rw [hsz]; simp at hj; subst hj; rw [hB.cell (by omega)]; rfl) (fun j _ => hB.fz _)
  rw [Nat.zero_add, hsz, Nat.mul_one] at hr
  refine Lib.wpList_append_run w rfl s x t t rfl _ _ hs hx _ _ hr (h _ ?_ ?_)
  · have := hB.set n v
    exact this
  · exact (Mod.refl (fun x => x = b) w).setCell (p := ⟨b, n, none⟩) (Or.inl rfl) v
end
end Go.Proofs.YgvahwGreat
