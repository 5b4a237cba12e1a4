import Derived.Test.YgvahwGreatMemB
import Derived.Laws.IdiomCopy
namespace Go.Proofs.YgvahwGreat
open Go.RowKit
section
variable {ops : Array Oper} {rest : List Oper} {a : Act} {Q : Exit → Act → World → Prop} {w : World} {dst : Option Tmp} {ty : TypeId} {pos : String} {aft : Array Edge}
/-- copy of bytes anywhere. -/
theorem wl_copyC {d s : Operand} {dT sT : TypeId} (hu : Hvah.prog.underlying dT = some (.slice 5)) (b o n1 c1 : Nat) (sa : Addr) (n2 c2 : Nat) (hd : a.eval d = .slice (some ⟨b, o, none⟩) n1 c1) (hs : a.eval s = .slice (some sa) n2 c2)
    (l : List Nat) (hl : l.length = min n2 n1) (hsrc : ∀ j v, (bcells l)[j]? = some v → w.cell? (sa.add j) = some v) (hth : w.there b o l.length)
    (h : wpList Hvah.prog ops Q rest (a.put dst (.int .i64 l.length)) (w.setCells b o (bcells l))) : Veil (wpList Hvah.prog ops Q (⟨dst, .call ⟨.builtin .copy, #[d, s], #[dT, sT]⟩, ty, pos, aft, none⟩ :: rest) a w) := by
  refine Veil.mk ?_
  refine wpList_plain rfl fun K hK => ?_
  have hr := run_copy_cells (P := Hvah.prog) w dT sT ty 5 b o n1 c1 sa n2 c2 (bcells l) hu u8map (by rw [bcells_length, hl]) hsrc (fun j hj => (hth j (by rwa [bcells_length] at hj)).1) (fun j hj => (hth j (by rwa [bcells_length] at hj)).2) (fun v hv => by
    simp only [bcells, List.mem_map] at hv
    obtain ⟨x, _, rfl⟩ := hv
    rfl)
  unfold Oper.wp
  simp [execOp, resolve, invoke, builtin, hd, hs, hr, Result.andThen, goInt, bcells_length]
  exact hK _ _ h
theorem wl_copy0 {d s : Operand} {dT sT : TypeId} (hu : Hvah.prog.underlying dT = some (.slice 5)) (o1 o2 : Option Addr) (n1 c1 n2 c2 : Nat) (hd : a.eval d = .slice o1 n1 c1) (hs : a.eval s = .slice o2 n2 c2) (hl : min n2 n1 = 0)
    (h : wpList Hvah.prog ops Q rest (a.put dst (.int .i64 0)) w) : Veil (wpList Hvah.prog ops Q (⟨dst, .call ⟨.builtin .copy, #[d, s], #[dT, sT]⟩, ty, pos, aft, none⟩ :: rest) a w) := by
  refine Veil.mk ?_
  refine wpList_plain rfl fun K hK => ?_
  have hr := run_copy_none (P := Hvah.prog) w dT sT ty 5 o1 o2 n1 c1 n2 c2 hu u8map hl
  unfold Oper.wp
  simp [execOp, resolve, invoke, builtin, hd, hs, hr, Result.andThen, goInt]
  exact hK _ _ h
/-- clear of bytes. -/
theorem wl_clearC {d : Operand} {dT : TypeId} (hu : Hvah.prog.underlying dT = some (.slice 5)) (b o n1 c1 : Nat) (hd : a.eval d = .slice (some ⟨b, o, none⟩) n1 c1) (hn : 0 < n1) (hth : w.there b o n1)
    (h : wpList Hvah.prog ops Q rest (a.put dst (.tuple #[])) (w.setCells b o (bcells (List.replicate n1 0)))) : Veil (wpList Hvah.prog ops Q (⟨dst, .call ⟨.builtin .clear, #[d], #[dT]⟩, ty, pos, aft, none⟩ :: rest) a w) := by
  refine Veil.mk ?_
  refine wpList_plain rfl fun K hK => ?_
  have hz : (Builtin.zeroCells (Value.int .u8 0).cells n1).toList = bcells (List.replicate n1 0) := by
    apply List.ext_getElem?
    intro i
    simp only [Builtin.zeroCells, Value.cells, bcells, List.map_replicate, Array.toList_map, Array.toList_range, List.getElem?_map, List.getElem?_replicate]
    by_cases hi : i < n1
    · simp [hi, Nat.mod_one]
    · simp [hi]
  have hst := run_storeCells_cells (P := Hvah.prog) b o (bcells (List.replicate n1 0)) 0 w (fun j hj => by simpa using (hth j (by simpa [bcells_length] using hj)).1) (fun j hj => by simpa using (hth j (by simpa [bcells_length] using hj)).2) (fun v hv => by
    simp only [bcells, List.mem_map] at hv
    obtain ⟨x, _, rfl⟩ := hv
    rfl)
  have hr : (Builtin.clear_ #[dT] ty #[.slice (some ⟨b, o, none⟩) n1 c1]).run Hvah.prog w = .ok (.tuple #[]) (w.setCells b o (bcells (List.replicate n1 0))) := by
    obtain ⟨m, rfl⟩ : ∃ m, n1 = m + 1 := ⟨n1 - 1, by omega⟩
    simp only [Nat.add_zero] at hst
    simp [Builtin.clear_, run_underlying hu, zeroValue, typeInfo, u8info, u8zero, hz, hst]
  unfold Oper.wp
  simp [execOp, resolve, invoke, builtin, hd, hr, Result.andThen]
  exact hK _ _ h
theorem wl_clear0 {d : Operand} {dT : TypeId} (hu : Hvah.prog.underlying dT = some (.slice 5)) (o : Option Addr) (c1 : Nat) (hd : a.eval d = .slice o 0 c1)
    (h : wpList Hvah.prog ops Q rest (a.put dst (.tuple #[])) w) : Veil (wpList Hvah.prog ops Q (⟨dst, .call ⟨.builtin .clear, #[d], #[dT]⟩, ty, pos, aft, none⟩ :: rest) a w) := by
  refine Veil.mk ?_
  refine wpList_plain rfl fun K hK => ?_
  have hr : (Builtin.clear_ #[dT] ty #[.slice o 0 c1]).run Hvah.prog w = .ok (.tuple #[]) w := by
    cases o <;> simp [Builtin.clear_, run_underlying hu]
  unfold Oper.wp
  simp [execOp, resolve, invoke, builtin, hd, hr, Result.andThen]
  exact hK _ _ h
end
/-- One result in a cell. -/
theorem post_row {fn : Func} {R : Ending → World → Prop} {ac : Act} {w : World} {t : Tmp} {ty : TypeId} {n b o : Nat} (rt : RowT ty n) (r : Array Value) (hn : r.size = n) (hf : fn.results = #[.cell t ty]) (ht : ac.tmps.getD t undef = .pointer (some ⟨b, o, none⟩)) (hr : RowIn w b o r) (hdf : ac.defers = [])
    (h : R (.returned (.agg r)) w) : bodyPost Hvah.prog fn R .ret ac w := by
  refine bodyPost_ret (v := .agg r) ?_ hdf h
  obtain ⟨d, h1, h2⟩ := rt.desc
  have r1 := run_loadVar_mid (P := Hvah.prog) w b o ty r.toList d (fun j v hv => hr j v (by simpa using hv)) h1 h2 (by rw [rt.size]; simp [hn])
  rw [Array.getD_eq_getD_getElem?] at ht
  simp [results, hf, ht, asAddr, r1]
/-- One in a cell, one beside it. -/
theorem post_row2 {fn : Func} {R : Ending → World → Prop} {ac : Act} {w : World} {t u : Tmp} {ty : TypeId} {n b o : Nat} {v2 : Value} (rt : RowT ty n) (r : Array Value) (hn : r.size = n) (hf : fn.results = #[.cell t ty, .tmp u]) (ht : ac.tmps.getD t undef = .pointer (some ⟨b, o, none⟩)) (hu : ac.tmps.getD u undef = v2) (hr : RowIn w b o r) (hdf : ac.defers = [])
    (h : R (.returned (.tuple #[.agg r, v2])) w) : bodyPost Hvah.prog fn R .ret ac w := by
  refine bodyPost_ret (v := .tuple #[.agg r, v2]) ?_ hdf h
  obtain ⟨d, h1, h2⟩ := rt.desc
  have r1 := run_loadVar_mid (P := Hvah.prog) w b o ty r.toList d (fun j v hv => hr j v (by simpa using hv)) h1 h2 (by rw [rt.size]; simp [hn])
  rw [Array.getD_eq_getD_getElem?] at ht hu
  simp [results, hf, ht, hu, asAddr, r1, Result.andThen]
end Go.Proofs.YgvahwGreat
