import Derived.Test.YgvahwGreatOj
import Derived.Test.YgvahwGreatRowsI
import Derived.Lib.AppendZerosOnto
import Derived.Lib.AppendZeros
namespace Go.Proofs.YgvahwGreat
open Go.RowKit
theorem under3 : Hvah.prog.underlying 3 = some (.int .i64) := by kernel_rfl
theorem zc5 (k : Nat) : (Builtin.zeroCells (Value.int .u8 0).cells k).toList = bcells (List.replicate k 0) := by
  have h1 : (Value.int IntKind.u8 0).cells = #[.int .u8 0] := rfl
  rw [h1]
  unfold Builtin.zeroCells bcells
  apply List.ext_getElem
  · simp
  · intro i h1 h2
    have : i % 1 = 0 := Nat.mod_one i
    simp [this]
section
variable {own : Nat → Nat} {w : World}
set_option maxRecDepth 100000 in
/-- append of zeros in the room that is there. -/
theorem run_append_room0 (ty : TypeId) (b sLen sCap k : Nat) (h0 : 0 < k) (hroom : sLen + k ≤ sCap) (hk : k ≤ 5020960) (hc : ∀ j, j < k → (w.cell? ⟨b, sLen + j, none⟩).isSome = true) (hf : ∀ j, j < k → w.frozen? ⟨b, sLen + j, none⟩ = false) :
    (Builtin.append_ #[23, 3] ty #[.slice (some ⟨b, 0, none⟩) sLen sCap, .int .i64 k]).run Hvah.prog w = .ok (.slice (some ⟨b, 0, none⟩) (sLen + k) sCap) (w.setCells b sLen (bcells (List.replicate k 0))) := by
  have hst := run_storeCells_cells (P := Hvah.prog) b sLen (bcells (List.replicate k 0)) 0 w (by simpa [bcells_length] using hc) (by simpa [bcells_length] using hf) (fun u hu => by
    simp only [bcells, List.mem_map] at hu
    obtain ⟨x, _, rfl⟩ := hu
    rfl)
  simp only [Nat.add_zero] at hst
  have hw : IntKind.i64.wrap (k : Int) = k := by rw [IntKind.wrap_i64]; omega
  have hneg : ¬ ((k : Int) < 0) := by omega
  have h48i : ¬ (281474976710656 < (k : Int) * (Hvah.t5.bytes : Int)) := by rw [u8bytes]; omega
  have hns : ¬ (k * Hvah.t5.size = 0) := by rw [u8size]; omega
  have hz := zc5 k
  simp [Builtin.append_, run_underlying Hvah.underlying23, run_underlying under3, sizeOf, typeInfo, zeroValue, u8info, u8zero, u8size, asInt, asIntOf, hw, hneg, h48i, hroom, Addr.add_lit, hz, hst, show ¬ k = 0 by omega]
set_option maxRecDepth 100000 in
/-- append of zeros to the memories' buffer. -/
theorem run_append0 (ty : TypeId) {l : List Nat} {v : Value} (hG : GRow 5 1 BC (Ow own 7) w v l) (hfr : ∀ b, w.heap.size ≤ b → own b = 0) (hl : l.length ≤ 5020960) (k : Nat) (h0 : 0 < k) (hk : k ≤ 5020960) :
    ∃ v' W own', (Builtin.append_ #[23, 3] ty #[v, .int .i64 k]).run Hvah.prog w = .ok v' W ∧ GRow 5 1 BC (Ow own' 7) W v' (l ++ List.replicate k 0) ∧ (∀ b, b < w.heap.size → own' b = own b) ∧ (∀ b, W.heap.size ≤ b → own' b = 0) ∧ Mod (fun b => own b = 7) w W ∧ v'.oneCell' = true := by
  have hzl : (bcells (List.replicate k 0)).length = k := by rw [bcells_length, List.length_replicate]
  have grow : ∀ (base : Option Addr) (sCap : Nat) (c : Nat → Value), v = .slice base l.length sCap → (Builtin.firstCells 1 l.length (.slice base l.length sCap)).run Hvah.prog w.drew = .ok ((List.range (l.length * 1)).map c).toArray w.drew → (∀ (i : Nat) (h : i < l.length), BC c i l[i]) → sCap < l.length + k →
      ∃ v' W own', (Builtin.append_ #[23, 3] ty #[v, .int .i64 k]).run Hvah.prog w = .ok v' W ∧ GRow 5 1 BC (Ow own' 7) W v' (l ++ List.replicate k 0) ∧ (∀ b, b < w.heap.size → own' b = own b) ∧ (∀ b, W.heap.size ≤ b → own' b = 0) ∧ Mod (fun b => own b = 7) w W ∧ v'.oneCell' = true := fun base sCap c hv hold hrow hlt => by
    have fits : Builtin.nextslicecap (l.length + k) sCap * Hvah.t5.bytes ≤ 281474976710656 := growslice_fits_wide hlt (by rw [u8bytes]; omega)
    have hr := Lib.run_append_grow_zeros (P := Hvah.prog) w 23 3 ty 5 Hvah.t5 (.int .u8 0) .i64 .i64 Hvah.underlying23 under3 u8info u8zero base l.length sCap _ hold k h0 (by rw [u8size]; decide) hlt (by omega) (by rw [u8bytes]; omega) fits
    have hge := grownCap_ge w (l.length + k) sCap 5
    have hle := grownCap_le_maxLen w (l.length + k) sCap 5 (by unfold maxLen; omega)
    obtain ⟨cap, hcap⟩ : ∃ cap, grownCap w (l.length + k) sCap 5 = cap := ⟨_, rfl⟩
    rw [hcap] at hr hge hle
    obtain ⟨C, hC⟩ : ∃ C, C = ((List.range (l.length * 1)).map c).toArray ++ Builtin.zeroCells (Value.int .u8 0).cells k ++ Builtin.zeroCells (Value.int .u8 0).cells (cap - (l.length + k)) := ⟨_, rfl⟩
    rw [← hC] at hr
    have hz1 : Builtin.zeroCells (Value.int .u8 0).cells k = (bcells (List.replicate k 0)).toArray := by rw [← zc5]
    have hCs : C.size = cap * 1 := by
      rw [hC, Array.size_append, Array.size_append, size_zeroCells, size_zeroCells, List.size_toArray, List.length_map, List.length_range]
      simp [Value.cells]; omega
    have hB := blk_new w.drew C 5 (.int .u8 0)
    rw [hCs] at hB
    refine ⟨_, _, fun b => if b = w.heap.size then 7 else own b, by rw [hv]; exact hr, Or.inr ⟨w.heap.size, cap, fun j => C.getD j (.int .u8 0), by rw [List.length_append, List.length_replicate], by rw [List.length_append, List.length_replicate]; exact hge, by unfold maxLen at hle; omega, hB, if_pos rfl, fun i hi => ?_⟩, fun b hb => if_neg (by omega), fun b hb => ?_, (((Ext.refl w).drew).alloc _ _).mod _, rfl⟩
    · rw [List.length_append, List.length_replicate] at hi
      show C.getD (i * 1) (.int .u8 0) = _ ∧ _
      rw [Nat.mul_one, hC, Array.getD_eq_getD_getElem?, Array.getElem?_append_left (by rw [Array.size_append, size_zeroCells, List.size_toArray]; simp [Value.cells]; omega), hz1]
      rw [List.append_toArray, List.getElem?_toArray]
      by_cases h3 : i < l.length
      · rw [List.getElem?_append_left (by simp; omega), List.getElem_append_left h3]
        have := hrow i h3
        simp only [List.getElem?_map, List.getElem?_range (show i < l.length * 1 by omega), Option.map_some, Option.getD_some]
        exact this
      · rw [List.getElem?_append_right (by simp; omega), List.getElem_append_right (by omega)]
        have hj : i - l.length < k := by omega
        simp [bcells, hj]
    · show (if b = w.heap.size then 7 else own b) = 0
      have hs : ((w.drew).alloc (.cells C 5)).heap.size = w.heap.size + 1 := by simp
      rw [hs] at hb
      rw [if_neg (by omega)]; exact hfr b (by omega)
  rcases hG with ⟨rfl, rfl⟩ | ⟨b, cap, c, rfl, h2, h3, hB, hT, hrow⟩
  · exact grow none 0 (fun _ => undef) rfl (by simpa using run_firstCells_none (P := Hvah.prog) w.drew 1 0 0 0) (fun i hi => by cases hi) (by simpa using h0)
  · have hrow1 : ∀ (i : Nat) (h : i < l.length), BC c i l[i] := fun i hi => by
      have := hrow i hi
      rwa [Nat.mul_one] at this
    by_cases hroom : l.length + k ≤ cap
    · have hr := run_append_room0 (w := w) ty b l.length cap k h0 hroom hk (fun j hj => by rw [hB.cell (by omega)]; rfl) (fun j _ => hB.fz _)
      have hB' := setCells_blk (bcells (List.replicate k 0)) l.length w c hB (by rw [hzl]; omega)
      have hT7 : own b = 7 := hT
      refine ⟨_, _, own, hr, Or.inr ⟨b, cap, _, by rw [List.length_append, List.length_replicate], by rw [List.length_append, List.length_replicate]; exact hroom, h3, hB', hT, fun i hi => ?_⟩, fun _ _ => rfl, fun b' hb' => hfr b' (Nat.le_trans (setCells_mod (S := (· = b)) (Or.inl rfl) _ _ _ (Mod.refl _ _)).size hb'), setCells_mod (S := fun x => own x = 7) (Or.inl hT7) _ _ _ (Mod.refl _ _), rfl⟩
      rw [List.length_append, List.length_replicate] at hi
      show (if l.length ≤ i * 1 then _ else _) = _ ∧ _
      rw [Nat.mul_one]
      by_cases h4 : i < l.length
      · rw [if_neg (by omega), List.getElem_append_left h4]
        exact hrow1 i h4
      · rw [if_pos (by omega), List.getElem_append_right (by omega)]
        have hj : i - l.length < k := by omega
        simp [bcells, List.getD, hj]
    · refine grow (some ⟨b, 0, none⟩) cap c rfl ?_ hrow1 (by omega)
      refine run_firstCells_some w.drew 1 l.length ⟨b, 0, none⟩ l.length cap _ (by simp) ?_
      exact (Blk.drew hB).range (l.length * 1) (Nat.mul_le_mul_right _ h2)
end
end Go.Proofs.YgvahwGreat
