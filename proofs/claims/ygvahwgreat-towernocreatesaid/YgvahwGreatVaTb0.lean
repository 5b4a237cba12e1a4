import Derived.Test.YgvahwGreatRowsK
import Derived.Test.YgvahwGreatRowsE
namespace Go.Proofs.YgvahwGreat
open Go.RowKit
set_option linter.unusedSimpArgs false
/-- A slice of one element, as an operation. -/
theorem op_build1 {o : Oper} {a : Act} {w : World} {K : Act → World → Prop} {Q : Exit → Act → World → Prop} {y : Operand} {t : TypeId} (e : TypeId) (i : TypeInfo) (z : Value) (n : Nat) (hop : o.op = .buildSlice t 1 #[(0, y)]) (ht : Hvah.prog.underlying t = some (.slice e)) (hi : Hvah.prog.info? e = some i) (hz : i.zero = some z) (hsz : i.size = n) (hzs : z.cells.size = n) (h0 : 0 < n) (hbig : n ≤ 1000)
    (r : Array Value) (hr : r.size = n) (hy : a.eval y = .agg r)
    (h : ∀ B W, Ext w W → (∀ j u, r.toList[j]? = some u → W.cell? ((⟨B, 0, none⟩ : Addr).add j) = some u) → w.heap.size ≤ B → K (a.put o.dst (.slice (some ⟨B, 0, none⟩) 1 1)) W) : Oper.wp Hvah.prog o a w K Q := by
  have hf : ∀ zs : Array Value, zs.size = n → Instr.fill (fun i => some (i * n, n)) zs [(0, .agg r)] = some r := fun zs hzz => by
    simp [Instr.fill, Value.cells, hr, hzz]
    rw [lay0_fold zs r n hr]
    exact layA_full zs r (by omega)
  have hrun : (Instr.buildSlice t 1 #[(0, .agg r)]).run Hvah.prog w = .ok (.slice (some ⟨w.heap.size, 0, none⟩) 1 1) (w.alloc (.cells r e)) := by
    unfold Instr.buildSlice
    have hne : ¬ (1 * n = 0) := by omega
    have hle : ¬ (1 * n > 2 ^ 24) := by omega
    have hf2 := hf ((Array.range n).map (z.cells[· % z.cells.size]!)) (by simp)
    simp [Sem.run_bind, run_underlying ht, sizeOf, typeInfo, hi, hsz, zeroValue, hz, Nat.ne_of_gt h0, newRow, newObj, hf2, Nat.not_lt.2 (Nat.le_trans hbig (by decide : 1000 ≤ 16777216))]
    rfl
  unfold Oper.wp
  simp [execOp, hop, hy, hrun, Result.andThen]
  exact h _ _ ((Ext.refl w).alloc _ _) (fun j u hu => by rw [Addr.add_mid]; exact row_new w r e j u (by simpa using hu)) (Nat.le_refl _)
end Go.Proofs.YgvahwGreat
