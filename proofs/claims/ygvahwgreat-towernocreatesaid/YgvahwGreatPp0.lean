import Derived.Test.YgvahwGreatPo
import Derived.Test.YgvahwGreatPl
import Derived.Test.YgvahwGreatRowsX
namespace Go.Proofs.YgvahwGreat
open Go.RowKit
set_option linter.unusedSimpArgs false

section
variable {ops : Array Oper} {rest : List Oper} {a : Act} {Q : Exit → Act → World → Prop} {w : World} {dst : Option Tmp} {ty : TypeId} {pos : String} {aft : Array Edge}
set_option maxRecDepth 100000 in
theorem wl_build1K {y : Operand} {t : TypeId} (d : Nat) (ht : Hvah.prog.underlying t = some (.slice 5)) (hy : a.eval y = .int .u8 (d : Nat))
    (h : ∀ B W, Ext w W → Blk W B 1 5 (fun _ => .int .u8 (d : Nat)) → w.heap.size ≤ B → wpList Hvah.prog ops Q rest (a.put dst (.slice (some ⟨B, 0, none⟩) 1 1)) W) : Veil (wpList Hvah.prog ops Q (⟨dst, .buildSlice t 1 #[(0, y)], ty, pos, aft, none⟩ :: rest) a w) := by
  refine Veil.mk ?_
  refine wl_any rfl ?_
  have hcs : (Value.int .u8 (d : Int)).cells = #[.int .u8 (d : Int)] := rfl
  have hf : Instr.fill (fun i => some (i * 1, 1)) ((Array.range 1).map ((Value.int .u8 0).cells[· % (Value.int .u8 0).cells.size]!)) [(0, .int .u8 (d : Int))] = some #[.int .u8 (d : Int)] := by
    simp [Instr.fill, hcs]
    refine Array.ext (by simp) (fun i h1 h2 => ?_)
    have : i = 0 := by simpa using h2
    subst this
    simp
  have hrun : (Instr.buildSlice t 1 #[(0, .int .u8 (d : Int))]).run Hvah.prog w = .ok (.slice (some ⟨w.heap.size, 0, none⟩) 1 1) (w.alloc (.cells #[.int .u8 (d : Int)] 5)) := by
    unfold Instr.buildSlice
    simp [Sem.run_bind, run_underlying ht, sizeOf, typeInfo, u8info, u8size, zeroValue, u8zero, newRow, newObj]
    simp at hf
    simp [hf]
    rfl
  unfold Oper.wp
  simp [execOp, hy, hrun, Result.andThen]
  exact h _ _ ((Ext.refl w).alloc _ _) ((Blk.new w #[.int .u8 (d : Int)] 5).same (one_fun _)) (Nat.le_refl _)
set_option maxRecDepth 100000 in
theorem wl_build2G {y z : Operand} {t : TypeId} (d e : Nat) (hd : d < 256) (he : e < 256) (ht : Hvah.prog.underlying t = some (.slice 5)) (hy : a.eval y = .int .u8 (d : Nat)) (hz : a.eval z = .int .u8 (e : Nat))
    (h : ∀ B W, Ext w W → GRow 5 1 ByC (fun b => w.heap.size ≤ b) W (.slice (some ⟨B, 0, none⟩) 2 2) [d, e] → wpList Hvah.prog ops Q rest (a.put dst (.slice (some ⟨B, 0, none⟩) 2 2)) W) : Veil (wpList Hvah.prog ops Q (⟨dst, .buildSlice t 2 #[(0, y), (1, z)], ty, pos, aft, none⟩ :: rest) a w) := by
  refine Veil.mk ?_
  refine wl_any rfl ?_
  have hcs : ∀ d : Int, (Value.int .u8 d).cells = #[.int .u8 d] := fun _ => rfl
  have hf : Instr.fill (fun i => some (i * 1, 1)) ((Array.range 2).map ((Value.int .u8 0).cells[· % (Value.int .u8 0).cells.size]!)) [(0, .int .u8 (d : Int)), (1, .int .u8 (e : Int))] = some #[.int .u8 (d : Int), .int .u8 (e : Int)] := by
    simp [Instr.fill, hcs]
    refine Array.ext (by simp) (fun i h1 h2 => ?_)
    rcases (show i = 0 ∨ i = 1 by simp at h2; omega) with rfl | rfl <;> simp
  have hrun : (Instr.buildSlice t 2 #[(0, .int .u8 (d : Int)), (1, .int .u8 (e : Int))]).run Hvah.prog w = .ok (.slice (some ⟨w.heap.size, 0, none⟩) 2 2) (w.alloc (.cells #[.int .u8 (d : Int), .int .u8 (e : Int)] 5)) := by
    unfold Instr.buildSlice
    simp [Sem.run_bind, run_underlying ht, sizeOf, typeInfo, u8info, u8size, zeroValue, u8zero, newRow, newObj]
    simp at hf
    simp [hf]
    rfl
  unfold Oper.wp
  simp [execOp, hy, hz, hrun, Result.andThen]
  refine h _ _ ((Ext.refl w).alloc _ _) (Or.inr ⟨w.heap.size, 2, cf #[.int .u8 (d : Int), .int .u8 (e : Int)], rfl, Nat.le_refl _, by decide, Blk.new w #[.int .u8 (d : Int), .int .u8 (e : Int)] 5, Nat.le_refl _, fun i hi => ?_⟩)
  rcases (show i = 0 ∨ i = 1 by simp at hi; omega) with rfl | rfl
  · exact ⟨rfl, hd⟩
  · exact ⟨rfl, he⟩
end
theorem dig_getD {l : List Nat} (h : Digits l) (i : Nat) : l.getD i 0 < 256 := by
  rw [List.getD_eq_getElem?_getD]
  by_cases hi : i < l.length
  · rw [List.getElem?_eq_getElem hi]; exact h _ (List.getElem_mem hi)
  · rw [List.getElem?_eq_none (by omega)]; decide
theorem digs_one {n : Nat} (h0 : n ≠ 0) (h : n < 256) : digs n = [n] := by
  have h1 := val_digs n
  have h2 : (digs n).length ≤ 1 := (digs_length_le n 1).2 (by simpa using h)
  match hd : digs n with
  | [] => rw [hd] at h1; exact absurd h1.symm h0
  | [d] => rw [hd] at h1; simp [val] at h1; rw [h1]
  | _ :: _ :: _ => rw [hd] at h2; simp at h2
theorem blk_in {w : World} {B n m : Nat} {t : TypeId} {c : Nat → Value} {l : List Nat} (hB : Blk w B n t c) (hl : l.length = m) (hm : m ≤ n) (hc : ∀ i, i < m → c i = .int .u8 ((l.getD i 0 : Nat) : Int)) : RowIn w B 0 (bcells l).toArray := fun i v hv => by
  have hi := (Array.getElem?_eq_some_iff.1 hv).1
  have hi2 : i < l.length := by simpa [bcells_length] using hi
  rw [Nat.zero_add, hB.cell (by omega), hc i (by omega)]
  rw [← hv]
  simp [bcells, hi2, List.getD_eq_getElem?_getD]
end Go.Proofs.YgvahwGreat
