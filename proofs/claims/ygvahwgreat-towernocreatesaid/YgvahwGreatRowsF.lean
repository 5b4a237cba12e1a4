import Derived.Test.YgvahwGreatYpM
import Derived.Test.YgvahwGreatMemD
namespace Go.Proofs.YgvahwGreat
open Go.RowKit
/-- A type of one cell. -/
structure OneT (t : TypeId) : Prop where
  desc : ∃ d, Hvah.prog.underlying t = some d ∧ d.isRow = false
  size : (Hvah.prog.info? t).map (·.size) = some 1
theorem oneT_of {t : TypeId} (h : (Hvah.prog.underlying t).map TypeDesc.isRow = some false) (hs : (Hvah.prog.info? t).map (·.size) = some 1) : OneT t := by
  refine ⟨?_, hs⟩
  cases hu : Hvah.prog.underlying t with
  | none => rw [hu] at h; cases h
  | some d => rw [hu] at h; exact ⟨d, rfl, by simpa using h⟩
theorem run_loadVar_one {w : World} {b o : Nat} {t : TypeId} {v : Value} (ht : OneT t) (hc : w.cell? ⟨b, o, none⟩ = some v) : (loadVar t ⟨b, o, none⟩).run Hvah.prog w = .ok v w := by
  obtain ⟨d, hu, hd⟩ := ht.desc
  have hagg : (isAgg t).run Hvah.prog w = .ok false w := by
    unfold isAgg
    rw [Sem.run_bind, run_underlying hu w]
    cases d <;> simp_all [TypeDesc.isRow]
  simp [loadVar, Sem.run_bind, hagg, hc, go_sem]
theorem run_storeVar_one {w : World} {b o : Nat} {t : TypeId} {v : Value} (ht : OneT t) (h1 : v.oneCell' = true) (hc : (w.cell? ⟨b, o, none⟩).isSome = true) (hf : w.frozen? ⟨b, o, none⟩ = false) : (storeVar t ⟨b, o, none⟩ v).run Hvah.prog w = .ok () (w.setCell ⟨b, o, none⟩ v) := by
  have hs := ht.size
  have hcs : v.cells = #[v] := by cases v <;> first | rfl | simp [Value.oneCell'] at h1
  have := run_storeCells_cells (P := Hvah.prog) b o [v] 0 w (fun j hj => by
    have : j = 0 := by simpa using hj
    subst this; simpa using hc) (fun j hj => by
    have : j = 0 := by simpa using hj
    subst this; simpa using hf) (fun u hu => by
    have : u = v := by simpa using hu
    subst this; exact h1)
  cases hq : Hvah.prog.info? t with
  | none => simp [hq] at hs
  | some i =>
    have hi : i.size = 1 := by simpa [hq] using hs
    simp only [Nat.add_zero] at this
    simp [storeVar, sizeOf, typeInfo, hq, hcs, hi, this, World.setCells]
section
variable {ops : Array Oper} {rest : List Oper} {a : Act} {Q : Exit → Act → World → Prop} {w : World} {dst : Option Tmp} {ty : TypeId} {pos : String} {aft : Array Edge}
/-- A load of one cell. -/
theorem wl_load1 {x : Operand} {t tt : TypeId} {b o n : Nat} {c : Nat → Value} (ht : OneT t) (hx : a.eval x = .pointer (some ⟨b, o, none⟩)) (hB : Blk w b n tt c) (ho : o < n)
    (h : wpList Hvah.prog ops Q rest (a.put dst (c o)) w) : Veil (wpList Hvah.prog ops Q (⟨dst, .load t x, ty, pos, aft, none⟩ :: rest) a w) := by
  refine Veil.mk ?_
  refine wpList_plain rfl fun K hK => ?_
  unfold Oper.wp execOp
  simp only [hx, Instr.loadAt, Instr.sureAddr, Sem.run_bind, Sem.run_pure, Result.andThen_ok, run_loadVar_one ht (hB.cell ho)]
  exact hK _ _ h
/-- .. behind a guard that lets it by. -/
theorem wl_load1G {x : Operand} {t tt : TypeId} {b o n : Nat} {c : Nat → Value} {gd : Option (Nat × Bool)} (ht : OneT t) (hw : Region.wanted ⟨dst, .load t x, ty, pos, aft, gd⟩ (yielded ops a.tmps) = true) (hx : a.eval x = .pointer (some ⟨b, o, none⟩)) (hB : Blk w b n tt c) (ho : o < n)
    (h : wpList Hvah.prog ops Q rest (a.put dst (c o)) w) :
    wpList Hvah.prog ops Q (⟨dst, .load t x, ty, pos, aft, gd⟩ :: rest) a w := by
  rw [wpList, if_pos hw]
  refine Or.inl ?_
  unfold Oper.wp execOp
  simp only [hx, Instr.loadAt, Instr.sureAddr, Sem.run_bind, Sem.run_pure, Result.andThen_ok, run_loadVar_one ht (hB.cell ho)]
  exact h
/-- A store of one cell. -/
theorem wl_store1 {x y : Operand} {t tt : TypeId} {b o n : Nat} {c : Nat → Value} {v : Value} (ht : OneT t) (hx : a.eval x = .pointer (some ⟨b, o, none⟩)) (hy : a.eval y = v) (h1 : v.oneCell' = true) (hB : Blk w b n tt c) (ho : o < n)
    (h : ∀ W, Blk W b n tt (updv c o v) → Mod (· = b) w W → wpList Hvah.prog ops Q rest (a.put dst undef) W) : Veil (wpList Hvah.prog ops Q (⟨dst, .store t x y, ty, pos, aft, none⟩ :: rest) a w) := by
  refine Veil.mk ?_
  refine wpList_plain rfl fun K hK => ?_
  have hc : (w.cell? ⟨b, o, none⟩).isSome = true := by rw [hB.cell ho]; rfl
  unfold Oper.wp execOp
  simp only [hx, hy, Instr.storeAt, Instr.sureAddr, Sem.run_bind, Sem.run_pure, Result.andThen_ok, run_storeVar_one ht h1 hc (hB.fz o)]
  exact hK _ _ (h _ (hB.set o v) ((Mod.refl (fun x => x = b) w).setCell (p := ⟨b, o, none⟩) (Or.inl rfl) v))
/-- An address in a block. -/
theorem wl_loadA {x : Operand} {tt : TypeId} {b o n s : Nat} {c : Nat → Value} (hx : a.eval x = .pointer (some ⟨b, o, none⟩)) (hB : Blk w b n tt c) (hA : AAt c o s) (hs : s < 2 ^ 160) (ho : o + 20 ≤ n)
    (h : wpList Hvah.prog ops Q rest (a.put dst (.agg (av s))) w) : Veil (wpList Hvah.prog ops Q (⟨dst, .load 31 x, ty, pos, aft, none⟩ :: rest) a w) :=
  wl_loadR rt25 b o (av s) (av_size hs) hx (hA.row hs hB ho) h
end
theorem NV.cast {O : Nat → Prop} {w : World} {v : Value} {x y : Nat} (h : NV O w v x) (e : x = y) : NV O w v y := e ▸ h
end Go.Proofs.YgvahwGreat
