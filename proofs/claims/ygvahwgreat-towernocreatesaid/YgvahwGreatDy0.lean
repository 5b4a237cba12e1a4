import Derived.Test.YgvahwGreatDt
import Derived.Test.YgvahwGreatDp
namespace Go.Proofs.YgvahwGreat
open Go.RowKit
set_option linter.unusedSimpArgs false

theorem u64info : Hvah.prog.info? 24 = some Hvah.t24 := by kernel_rfl
theorem u64zero : Hvah.t24.zero = some (.int .u64 0) := by kernel_rfl
theorem ucells_rep (n : Nat) : ucells (List.replicate n 0) = List.replicate n (Value.int .u64 0) := by simp [ucells]
theorem layv_all {w : World} {g n : Nat} {t : TypeId} {c : Nat → Value} {l : List Nat} (h : Blk w g n t (layv c 0 (ucells l).toArray)) (hl : l.length = n) : UB w g t l := h.toUB hl (fun i hi => by
  unfold layv
  rw [if_pos ⟨Nat.zero_le _, by simp [ucells]; omega⟩]
  simp [ucells, List.getD_eq_getElem?_getD, Array.getD_eq_getD_getElem?, show i < l.length by omega])
section
variable {ops : Array Oper} {rest : List Oper} {a : Act} {Q : Exit → Act → World → Prop} {w : World} {dst : Option Tmp} {ty : TypeId} {pos : String} {aft : Array Edge}
/-- clear of a whole block of limbs. -/
theorem wl_clear64 {d : Operand} {dT tt : TypeId} {b n1 c1 : Nat} {c : Nat → Value} (hu : Hvah.prog.underlying dT = some (.slice 24)) (hd : a.eval d = .slice (some ⟨b, 0, none⟩) n1 c1) (hn : 0 < n1) (hB : Blk w b n1 tt c)
    (h : ∀ W, UB W b tt (List.replicate n1 0) → Mod (· = b) w W → wpList Hvah.prog ops Q rest (a.put dst (.tuple #[])) W) : Veil (wpList Hvah.prog ops Q (⟨dst, .call ⟨.builtin .clear, #[d], #[dT]⟩, ty, pos, aft, none⟩ :: rest) a w) := by
  refine Veil.mk ?_
  refine wl_any rfl ?_
  have hth : w.there b 0 n1 := hB.there (by omega)
  have hz : (Builtin.zeroCells (Value.int .u64 0).cells n1).toList = ucells (List.replicate n1 0) := by
    rw [ucells_rep]
    apply List.ext_getElem?
    intro i
    simp only [Builtin.zeroCells, Value.cells, Array.toList_map, Array.toList_range, List.getElem?_map, List.getElem?_replicate]
    by_cases hi : i < n1
    · simp [hi, Nat.mod_one]
    · simp [hi]
  have hlen : (ucells (List.replicate n1 0)).length = n1 := by simp [ucells]
  have hst := run_storeCells_cells (P := Hvah.prog) b 0 (ucells (List.replicate n1 0)) 0 w (fun j hj => by simpa using (hth j (by rw [hlen] at hj; exact hj)).1) (fun j hj => by simpa using (hth j (by rw [hlen] at hj; exact hj)).2) (fun v hv => by
    simp only [ucells, List.mem_map] at hv
    obtain ⟨x, _, rfl⟩ := hv
    rfl)
  have hr : (Builtin.clear_ #[dT] ty #[.slice (some ⟨b, 0, none⟩) n1 c1]).run Hvah.prog w = .ok (.tuple #[]) (w.setCells b 0 (ucells (List.replicate n1 0))) := by
    obtain ⟨m, rfl⟩ : ∃ m, n1 = m + 1 := ⟨n1 - 1, by omega⟩
    simp only [Nat.add_zero] at hst
    simp [Builtin.clear_, run_underlying hu, zeroValue, typeInfo, u64info, u64zero, hz, hst]
  have hl := hB.lay (r := (ucells (List.replicate n1 0)).toArray) (o := 0) (by simp [ucells])
  have := h _ (layv_all (by simpa using hl) (by simp)) (setCells_mod (S := (· = b)) (Or.inl rfl) (ucells (List.replicate n1 0)) 0 w (Mod.refl _ _))
  unfold Oper.wp
  simp [execOp, resolve, invoke, builtin, hd, hr, Result.andThen]
  exact this
end
theorem under69 : Hvah.prog.underlying 82 = some (.array 8 24) := by kernel_rfl
theorem under66d : Hvah.prog.underlying 79 = some (.array 4 24) := by kernel_rfl
theorem z66f : ∃ i, Hvah.prog.info? 79 = some i ∧ i.zero = some (.agg (Array.replicate 4 (.int .u64 0))) := ⟨Hvah.t79, by kernel_rfl, by kernel_rfl⟩
theorem z469 : ∃ i, Hvah.prog.info? 477 = some i ∧ i.zero = some (.agg (Array.replicate 9 (.int .u64 0))) := ⟨Hvah.t477, by kernel_rfl, by kernel_rfl⟩
theorem wv_lv {l : List Nat} (h : l.length = 4) (d : L64 l) : (ucells l).toArray = wvA (lv l) := by
  obtain ⟨a, b, c, e, rfl⟩ := four h
  obtain ⟨e0, e1, e2, e3⟩ := lim_lv4 a b c e (d a (by simp)) (d b (by simp)) (d c (by simp)) (d e (by simp))
  have : wvA (lv [a, b, c, e]) = #[.int .u64 (lim (lv [a, b, c, e]) 0 : Nat), .int .u64 (lim (lv [a, b, c, e]) 1 : Nat), .int .u64 (lim (lv [a, b, c, e]) 2 : Nat), .int .u64 (lim (lv [a, b, c, e]) 3 : Nat)] := rfl
  rw [this, e0, e1, e2, e3]
  rfl
theorem lv_limbs {b : Nat} (hb : b < 2 ^ 256) : lv (limbs b) = b := by
  unfold limbs lim
  have e : (18446744073709551616 : Nat) ^ 3 = 18446744073709551616 * 18446744073709551616 * 18446744073709551616 := by decide
  have e2 : (18446744073709551616 : Nat) ^ 2 = 18446744073709551616 * 18446744073709551616 := by decide
  rw [Nat.pow_zero, Nat.div_one, Nat.pow_one, e, e2, ← Nat.div_div_eq_div_mul, ← Nat.div_div_eq_div_mul, ← Nat.div_div_eq_div_mul]
  have h4 : b / 18446744073709551616 / 18446744073709551616 / 18446744073709551616 < 18446744073709551616 := by
    rw [Nat.div_div_eq_div_mul, Nat.div_div_eq_div_mul]
    exact Nat.div_lt_of_lt_mul (by rw [show 18446744073709551616 * 18446744073709551616 * 18446744073709551616 * 18446744073709551616 = 2 ^ 256 by decide]; exact hb)
  simp only [lv]
  omega
theorem limbs_l64 (b : Nat) : L64 (limbs b) := fun d hd => by
  simp only [limbs, List.mem_cons, List.not_mem_nil, or_false] at hd
  rcases hd with rfl | rfl | rfl | rfl <;> exact lim_lt _ _
theorem lv_set0 (l : List Nat) (q Q : Nat) (hq : q < l.length) (h0 : l.getD q 0 = 0) : lv (l.set q Q) = lv l + Bn q * Q := by
  have e1 := lv_take_drop l q (by omega)
  have e2 := lv_take_drop (l.set q Q) q (by simp; omega)
  have h1 : (l.set q Q).take q = l.take q := by rw [List.take_set_of_le (by omega)]
  have h2 : (l.set q Q).drop q = Q :: l.drop (q + 1) := by
    rw [List.drop_eq_getElem_cons (by simp; exact hq)]
    simp [List.drop_set]
  have h3 : l.drop q = 0 :: l.drop (q + 1) := by
    rw [List.drop_eq_getElem_cons hq]
    congr 1
    simpa [List.getD_eq_getElem?_getD, hq] using h0
  rw [h1, h2] at e2
  rw [h3] at e1
  simp only [lv, Nat.zero_add] at e1 e2
  rw [e2, e1, Nat.mul_add]
  omega
theorem L64.set {l : List Nat} (h : L64 l) {q Q : Nat} (hQ : Q < 18446744073709551616) : L64 (l.set q Q) := fun d hd => by
  rcases List.mem_or_eq_of_mem_set hd with h1 | h1
  · exact h d h1
  · rw [h1]; exact hQ
theorem wat_ub {w : World} {B b : Nat} {c : Nat → Value} (h : Blk w B 4 79 c) (hW : WAt c 0 b) : UB w B 79 (limbs b) := h.toUB rfl (fun i hi => by
  rcases (show i = 0 ∨ i = 1 ∨ i = 2 ∨ i = 3 by omega) with rfl | rfl | rfl | rfl
  · exact hW.c0
  · exact hW.c1
  · exact hW.c2
  · exact hW.c3)
theorem ones_c4 : Ones (rowOf (fun _ => Value.int .u64 0) 0 4) := ones_of (fun q hq => by rw [rowOf_size] at hq; rw [cf_rowOf _ _ _ hq]; rfl)
theorem ones_u4 (r : Nat) : Ones (rowOf (updv (fun _ => Value.int .u64 0) 0 (.int .u64 (r : Nat))) 0 4) := ones_of (fun q hq => by rw [rowOf_size] at hq; rw [cf_rowOf _ _ _ hq, Nat.zero_add]; unfold updv; split <;> rfl)
theorem Mod.fresh {S : Nat → Prop} {w W W' : World} {R : Nat} (h : Mod S w W) (m : Mod (· = R) W W') (g : w.heap.size ≤ R) : Mod S w W' := h.trans' m (fun i hi => by have hi2 : i = R := hi; rw [hi2]; exact Or.inr g)
theorem rep_zero (n : Nat) : lv (List.replicate n 0) = 0 := lv_zero _ (fun i hi => by rw [List.getD_eq_getElem?_getD, List.getElem?_replicate]; split <;> rfl)
theorem rep_l64 (n : Nat) : L64 (List.replicate n 0) := fun d hd => by rw [List.eq_of_mem_replicate hd]; decide
end Go.Proofs.YgvahwGreat
