import Derived.Test.YgvahwGreatRowsK
import Derived.Test.YgvahwGreatTl
namespace Go.Proofs.YgvahwGreat
open Go.RowKit
theorem ext_cf {r s : Array Value} (hs : r.size = s.size) (h : ∀ i, i < r.size → cf r i = cf s i) : r = s := by
  apply Array.ext_getElem?
  intro i
  by_cases hi : i < r.size
  · rw [get_cf hi, get_cf (by omega), h i hi]
  · rw [Array.getElem?_eq_none (by omega), Array.getElem?_eq_none (by omega)]
theorem cf_append (r s : Array Value) (i : Nat) : cf (r ++ s) i = if i < r.size then cf r i else cf s (i - r.size) := by
  by_cases hi : i < r.size
  · rw [if_pos hi]; simp [cf, Array.getD_eq_getD_getElem?, Array.getElem?_append_left hi]
  · rw [if_neg hi]; simp [cf, Array.getD_eq_getD_getElem?, Array.getElem?_append_right (by omega : r.size ≤ i)]
section
variable {ops : Array Oper} {rest : List Oper} {a : Act} {Q : Exit → Act → World → Prop} {w : World} {dst : Option Tmp} {ty : TypeId} {pos : String} {aft : Array Edge} {gd : Option (Nat × Bool)} {K : Act → World → Prop} {o : Oper}
theorem op_buildV {t : TypeId} {parts : Array (Nat × Operand)} {ps : List (Nat × Value)} {r : Array Value} (hop : o.op = .build t parts) (hb : ∀ w, (Instr.build t ps.toArray).run Hvah.prog w = .ok (.agg r) w) (he : (parts.map fun (i, x) => (i, a.eval x)) = ps.toArray) (h : K (a.put o.dst (.agg r)) w) : Oper.wp Hvah.prog o a w K Q := by
  have hr := hb w
  rw [← he] at hr
  unfold Oper.wp
  simp only [execOp, hop, Sem.run_bind, hr, Result.andThen_ok, Sem.run_pure]
  exact h
set_option maxRecDepth 100000 in
theorem wl_buildV {t : TypeId} {parts : Array (Nat × Operand)} {ps : List (Nat × Value)} {r : Array Value} (hb : ∀ w, (Instr.build t ps.toArray).run Hvah.prog w = .ok (.agg r) w) (he : (parts.map fun (i, x) => (i, a.eval x)) = ps.toArray) (h : wpList Hvah.prog ops Q rest (a.put dst (.agg r)) w) : Veil (wpList Hvah.prog ops Q (⟨dst, .build t parts, ty, pos, aft, none⟩ :: rest) a w) :=
  Veil.mk (wl_any rfl (op_buildV rfl hb he h))
theorem yields_build {S : World → Prop} {t : TypeId} {parts : Array (Nat × Operand)} {ps : List (Nat × Value)} {r : Array Value} (hw : Region.wanted o (yielded ops a.tmps) = true) (hop : o.op = .build t parts) (hb : ∀ w, (Instr.build t ps.toArray).run Hvah.prog w = .ok (.agg r) w) (he : (parts.map fun (i, x) => (i, a.eval x)) = ps.toArray) : YieldsIf Hvah.prog ops S o (.agg r) a :=
  .inl ⟨hw, fun w _ => by
    have hr := hb w
    rw [← he] at hr
    simp only [execOp, hop, Sem.run_bind, hr, Result.andThen_ok, Sem.run_pure]⟩
end
theorem b233 {a : Nat} (ha : a < 2 ^ 160) {u1 : Value} (hu1 : u1.oneCell' = true) : ∀ w, (Instr.build 241 ([(0, .agg (av a)), (1, u1)] : List (Nat × Value)).toArray).run Hvah.prog w = .ok (.agg (mkR a u1)) w := fun w => by
  rw [run_build_gen (pl := [(0, 20), (20, 1)]) (z := #[.int .u8 0, .int .u8 0, .int .u8 0, .int .u8 0, .int .u8 0, .int .u8 0, .int .u8 0, .int .u8 0, .int .u8 0, .int .u8 0, .int .u8 0, .int .u8 0, .int .u8 0, .int .u8 0, .int .u8 0, .int .u8 0, .int .u8 0, .int .u8 0, .int .u8 0, .int .u8 0, .slice none 0 0]) (by kernel_rfl) (by kernel_rfl) ([(0, .agg (av a)), (1, u1)] : List (Nat × Value)) ⟨0, 20, rfl, av_size ha, by decide, 20, 1, rfl, by rw [one_cells hu1]; rfl, by decide, trivial⟩ w]
  congr 2
  refine ext_cf (by rw [bld_size, mkR_size ha]; rfl) (fun i hi => ?_)
  rw [bld_size] at hi
  have hi : i < 21 := hi
  rw [bld_get _ _ _ hi]
  simp only [partsA, List.map_cons, List.map_nil, List.getD_cons_zero, List.getD_cons_succ, bldc, one_cells hu1, layv_one, one_agg]
  have hsz := av_size ha
  unfold mkR
  rw [cf_append, hsz]
  by_cases h20 : i < 20
  · rw [if_pos h20]
    rw [updv_ne _ _ (by omega)]
    have := layv_in (cf #[.int .u8 0, .int .u8 0, .int .u8 0, .int .u8 0, .int .u8 0, .int .u8 0, .int .u8 0, .int .u8 0, .int .u8 0, .int .u8 0, .int .u8 0, .int .u8 0, .int .u8 0, .int .u8 0, .int .u8 0, .int .u8 0, .int .u8 0, .int .u8 0, .int .u8 0, .int .u8 0, .slice none 0 0]) 0 (av a) (j := i) (by omega)
    rwa [Nat.zero_add] at this
  · rw [if_neg h20]
    obtain ⟨k, rfl⟩ : ∃ k, i = 20 + k := ⟨i - 20, by omega⟩
    rw [Nat.add_sub_cancel_left]
    have hk : k < 1 := by omega
    match k, hk with
    | 0, _ => rw [updv_same]; rfl
theorem b296 {a : Nat} (ha : a < 2 ^ 160) {u1 u2 : Value} (hu1 : u1.oneCell' = true) (hu2 : u2.oneCell' = true) : ∀ w, (Instr.build 304 ([(0, .agg (av a)), (1, u1), (2, u2)] : List (Nat × Value)).toArray).run Hvah.prog w = .ok (.agg (tmR a u1 u2)) w := fun w => by
  rw [run_build_gen (pl := [(0, 20), (20, 1), (21, 1)]) (z := #[.int .u8 0, .int .u8 0, .int .u8 0, .int .u8 0, .int .u8 0, .int .u8 0, .int .u8 0, .int .u8 0, .int .u8 0, .int .u8 0, .int .u8 0, .int .u8 0, .int .u8 0, .int .u8 0, .int .u8 0, .int .u8 0, .int .u8 0, .int .u8 0, .int .u8 0, .int .u8 0, .slice none 0 0, .slice none 0 0]) (by kernel_rfl) (by kernel_rfl) ([(0, .agg (av a)), (1, u1), (2, u2)] : List (Nat × Value)) ⟨0, 20, rfl, av_size ha, by decide, 20, 1, rfl, by rw [one_cells hu1]; rfl, by decide, 21, 1, rfl, by rw [one_cells hu2]; rfl, by decide, trivial⟩ w]
  congr 2
  refine ext_cf (by rw [bld_size, tmR_size ha]; rfl) (fun i hi => ?_)
  rw [bld_size] at hi
  have hi : i < 22 := hi
  rw [bld_get _ _ _ hi]
  simp only [partsA, List.map_cons, List.map_nil, List.getD_cons_zero, List.getD_cons_succ, bldc, one_cells hu1, one_cells hu2, layv_one, one_agg]
  have hsz := av_size ha
  unfold tmR
  rw [cf_append, hsz]
  by_cases h20 : i < 20
  · rw [if_pos h20]
    rw [updv_ne _ _ (by omega)]
    rw [updv_ne _ _ (by omega)]
    have := layv_in (cf #[.int .u8 0, .int .u8 0, .int .u8 0, .int .u8 0, .int .u8 0, .int .u8 0, .int .u8 0, .int .u8 0, .int .u8 0, .int .u8 0, .int .u8 0, .int .u8 0, .int .u8 0, .int .u8 0, .int .u8 0, .int .u8 0, .int .u8 0, .int .u8 0, .int .u8 0, .int .u8 0, .slice none 0 0, .slice none 0 0]) 0 (av a) (j := i) (by omega)
    rwa [Nat.zero_add] at this
  · rw [if_neg h20]
    obtain ⟨k, rfl⟩ : ∃ k, i = 20 + k := ⟨i - 20, by omega⟩
    rw [Nat.add_sub_cancel_left]
    have hk : k < 2 := by omega
    match k, hk with
    | 0, _ => rw [updv_ne _ _ (by decide)]; rw [updv_same]; rfl
    | 1, _ => rw [updv_same]; rfl
theorem b140 {a : Nat} (ha : a < 2 ^ 160) {u1 u2 : Value} (hu1 : u1.oneCell' = true) (hu2 : u2.oneCell' = true) : ∀ w, (Instr.build 149 ([(0, .agg (av a)), (1, u1), (2, u2)] : List (Nat × Value)).toArray).run Hvah.prog w = .ok (.agg (tmR a u1 u2)) w := fun w => by
  rw [run_build_gen (pl := [(0, 20), (20, 1), (21, 1)]) (z := #[.int .u8 0, .int .u8 0, .int .u8 0, .int .u8 0, .int .u8 0, .int .u8 0, .int .u8 0, .int .u8 0, .int .u8 0, .int .u8 0, .int .u8 0, .int .u8 0, .int .u8 0, .int .u8 0, .int .u8 0, .int .u8 0, .int .u8 0, .int .u8 0, .int .u8 0, .int .u8 0, .slice none 0 0, .slice none 0 0]) (by kernel_rfl) (by kernel_rfl) ([(0, .agg (av a)), (1, u1), (2, u2)] : List (Nat × Value)) ⟨0, 20, rfl, av_size ha, by decide, 20, 1, rfl, by rw [one_cells hu1]; rfl, by decide, 21, 1, rfl, by rw [one_cells hu2]; rfl, by decide, trivial⟩ w]
  congr 2
  refine ext_cf (by rw [bld_size, tmR_size ha]; rfl) (fun i hi => ?_)
  rw [bld_size] at hi
  have hi : i < 22 := hi
  rw [bld_get _ _ _ hi]
  simp only [partsA, List.map_cons, List.map_nil, List.getD_cons_zero, List.getD_cons_succ, bldc, one_cells hu1, one_cells hu2, layv_one, one_agg]
  have hsz := av_size ha
  unfold tmR
  rw [cf_append, hsz]
  by_cases h20 : i < 20
  · rw [if_pos h20]
    rw [updv_ne _ _ (by omega)]
    rw [updv_ne _ _ (by omega)]
    have := layv_in (cf #[.int .u8 0, .int .u8 0, .int .u8 0, .int .u8 0, .int .u8 0, .int .u8 0, .int .u8 0, .int .u8 0, .int .u8 0, .int .u8 0, .int .u8 0, .int .u8 0, .int .u8 0, .int .u8 0, .int .u8 0, .int .u8 0, .int .u8 0, .int .u8 0, .int .u8 0, .int .u8 0, .slice none 0 0, .slice none 0 0]) 0 (av a) (j := i) (by omega)
    rwa [Nat.zero_add] at this
  · rw [if_neg h20]
    obtain ⟨k, rfl⟩ : ∃ k, i = 20 + k := ⟨i - 20, by omega⟩
    rw [Nat.add_sub_cancel_left]
    have hk : k < 2 := by omega
    match k, hk with
    | 0, _ => rw [updv_ne _ _ (by decide)]; rw [updv_same]; rfl
    | 1, _ => rw [updv_same]; rfl
theorem b108 {a : Nat} (ha : a < 2 ^ 160) {u1 u2 u3 : Value} (hu1 : u1.oneCell' = true) (hu2 : u2.oneCell' = true) (hu3 : u3.oneCell' = true) : ∀ w, (Instr.build 121 ([(0, .agg (av a)), (1, u1), (2, u2), (3, u3)] : List (Nat × Value)).toArray).run Hvah.prog w = .ok (.agg (acR a u1 u2 u3 (.slice none 0 0))) w := fun w => by
  rw [run_build_gen (pl := [(0, 20), (20, 1), (21, 1), (22, 1), (23, 1)]) (z := #[.int .u8 0, .int .u8 0, .int .u8 0, .int .u8 0, .int .u8 0, .int .u8 0, .int .u8 0, .int .u8 0, .int .u8 0, .int .u8 0, .int .u8 0, .int .u8 0, .int .u8 0, .int .u8 0, .int .u8 0, .int .u8 0, .int .u8 0, .int .u8 0, .int .u8 0, .int .u8 0, .slice none 0 0, .slice none 0 0, .slice none 0 0, .slice none 0 0]) (by kernel_rfl) (by kernel_rfl) ([(0, .agg (av a)), (1, u1), (2, u2), (3, u3)] : List (Nat × Value)) ⟨0, 20, rfl, av_size ha, by decide, 20, 1, rfl, by rw [one_cells hu1]; rfl, by decide, 21, 1, rfl, by rw [one_cells hu2]; rfl, by decide, 22, 1, rfl, by rw [one_cells hu3]; rfl, by decide, trivial⟩ w]
  congr 2
  refine ext_cf (by rw [bld_size, acR_size ha]; rfl) (fun i hi => ?_)
  rw [bld_size] at hi
  have hi : i < 24 := hi
  rw [bld_get _ _ _ hi]
  simp only [partsA, List.map_cons, List.map_nil, List.getD_cons_zero, List.getD_cons_succ, bldc, one_cells hu1, one_cells hu2, one_cells hu3, layv_one, one_agg]
  have hsz := av_size ha
  unfold acR
  rw [cf_append, hsz]
  by_cases h20 : i < 20
  · rw [if_pos h20]
    rw [updv_ne _ _ (by omega)]
    rw [updv_ne _ _ (by omega)]
    rw [updv_ne _ _ (by omega)]
    have := layv_in (cf #[.int .u8 0, .int .u8 0, .int .u8 0, .int .u8 0, .int .u8 0, .int .u8 0, .int .u8 0, .int .u8 0, .int .u8 0, .int .u8 0, .int .u8 0, .int .u8 0, .int .u8 0, .int .u8 0, .int .u8 0, .int .u8 0, .int .u8 0, .int .u8 0, .int .u8 0, .int .u8 0, .slice none 0 0, .slice none 0 0, .slice none 0 0, .slice none 0 0]) 0 (av a) (j := i) (by omega)
    rwa [Nat.zero_add] at this
  · rw [if_neg h20]
    obtain ⟨k, rfl⟩ : ∃ k, i = 20 + k := ⟨i - 20, by omega⟩
    rw [Nat.add_sub_cancel_left]
    have hk : k < 4 := by omega
    match k, hk with
    | 0, _ => rw [updv_ne _ _ (by decide)]; rw [updv_ne _ _ (by decide)]; rw [updv_same]; rfl
    | 1, _ => rw [updv_ne _ _ (by decide)]; rw [updv_same]; rfl
    | 2, _ => rw [updv_same]; rfl
    | 3, _ => rw [updv_ne _ _ (by decide)]; rw [updv_ne _ _ (by decide)]; rw [updv_ne _ _ (by decide)]; rw [layv_out _ _ _ (by rw [hsz]; omega)]; rfl
theorem b116 {u v : Value} (hu : u.oneCell' = true) (hv : v.oneCell' = true) : ∀ w, (Instr.build 125 ([(0, u), (1, v)] : List (Nat × Value)).toArray).run Hvah.prog w = .ok (.agg #[u, v]) w := fun w => by
  rw [run_build_gen (pl := [(0, 1), (1, 1)]) (z := #[.slice none 0 0, .slice none 0 0]) (by kernel_rfl) (by kernel_rfl) ([(0, u), (1, v)] : List (Nat × Value)) ⟨0, 1, rfl, by rw [one_cells hu]; rfl, by decide, 1, 1, rfl, by rw [one_cells hv]; rfl, by decide, trivial⟩ w]
  congr 2
  refine ext_cf (by rw [bld_size]; rfl) (fun i hi => ?_)
  rw [bld_size] at hi
  have hi : i < 2 := hi
  rw [bld_get _ _ _ hi]
  simp only [partsA, List.map_cons, List.map_nil, List.getD_cons_zero, List.getD_cons_succ, bldc, one_cells hu, one_cells hv, layv_one]
  match i, hi with
  | 0, _ => rw [updv_ne _ _ (by decide), updv_same]; rfl
  | 1, _ => rw [updv_same]; rfl
end Go.Proofs.YgvahwGreat
