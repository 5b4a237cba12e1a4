import Derived.Test.YgvahwGreatTf
namespace Go.Proofs.YgvahwGreat
open Go.RowKit
section
variable {w : World}
set_option maxRecDepth 100000 in
/-- append of k bytes to a row of bytes of one's own. -/
theorem run_appendK (t ty : TypeId) (ht : Hvah.prog.underlying t = some (.slice 5)) (l bs : List Nat) (v : Value) (w0 : World) (hG : GRow 5 1 ByC (fun b => w0.heap.size ≤ b) w v l) (hE : Ext w0 w) (hn : l.length ≤ 1048576) (hk : 0 < bs.length) (hk2 : bs.length ≤ 1048576) (hd : Digits bs)
    (ad : Addr) (c1 : Nat) (hsrc : ∀ j u, (bcells bs)[j]? = some u → w.cell? (ad.add j) = some u) :
    ∃ v' W, (Builtin.append_ #[t, t] ty #[v, .slice (some ad) bs.length c1]).run Hvah.prog w = .ok v' W ∧ GRow 5 1 ByC (fun b => w0.heap.size ≤ b) W v' (l ++ bs) ∧ Ext w0 W := by
  have h1 : ∀ u ∈ bcells bs, u.oneCell' = true := fun u hu => by
    simp only [bcells, List.mem_map] at hu
    obtain ⟨x, _, rfl⟩ := hu
    rfl
  have hS : Src Hvah.prog 1 t (.slice (some ad) bs.length c1) bs.length (bcells bs) w := Src.ofSlice w ht ad bs.length c1 (bcells bs) (by simp [bcells_length]) hsrc h1
  have grow : ∀ (base : Option Addr) (sCap : Nat) (c : Nat → Value), v = .slice base l.length sCap → (Builtin.firstCells 1 l.length (.slice base l.length sCap)).run Hvah.prog w.drew = .ok ((List.range (l.length * 1)).map c).toArray w.drew → (∀ (i : Nat) (h : i < l.length), ByC c i l[i]) → sCap < l.length + bs.length →
      ∃ v' W, (Builtin.append_ #[t, t] ty #[v, .slice (some ad) bs.length c1]).run Hvah.prog w = .ok v' W ∧ GRow 5 1 ByC (fun b => w0.heap.size ≤ b) W v' (l ++ bs) ∧ Ext w0 W := fun base sCap c hv hold hrow hlt => by
    have fits : Builtin.nextslicecap (l.length + bs.length) sCap * Hvah.t5.bytes ≤ 281474976710656 := growslice_fits_wide hlt (by rw [u8bytes]; omega)
    have hr := run_append_grow_src (P := Hvah.prog) w t t ty 5 Hvah.t5 (.int .u8 0) ht u8info u8zero base l.length sCap _ hold _ bs.length (bcells bs) hS hlt (by omega) fits
    have hge := grownCap_ge w (l.length + bs.length) sCap 5
    have hle := grownCap_le_maxLen w (l.length + bs.length) sCap 5 (by unfold maxLen; omega)
    obtain ⟨cap, hcap⟩ : ∃ cap, grownCap w (l.length + bs.length) sCap 5 = cap := ⟨_, rfl⟩
    rw [hcap] at hr hge hle
    obtain ⟨C, hC⟩ : ∃ C, C = ((List.range (l.length * 1)).map c ++ bcells bs).toArray ++ Builtin.zeroCells (Value.int .u8 0).cells (cap - (l.length + bs.length)) := ⟨_, rfl⟩
    rw [← hC] at hr
    have hCs : C.size = cap * 1 := by
      rw [hC, Array.size_append, size_zeroCells, List.size_toArray, List.length_append, bcells_length, List.length_map, List.length_range]
      simp [Value.cells]; omega
    have hB := blk_new w.drew C 5 (.int .u8 0)
    rw [hCs] at hB
    refine ⟨_, _, by rw [hv]; exact hr, Or.inr ⟨w.heap.size, cap, fun j => C.getD j (.int .u8 0), by rw [List.length_append], by rw [List.length_append]; exact hge, by unfold maxLen at hle; omega, hB, hE.size, fun i hi => ?_⟩, hE.trans (((Ext.refl w).drew).alloc _ _)⟩
    rw [List.length_append] at hi
    show C.getD (i * 1) (.int .u8 0) = _ ∧ _
    rw [Nat.mul_one, hC, Array.getD_eq_getD_getElem?, Array.getElem?_append_left (by simp [bcells_length]; omega), List.getElem?_toArray]
    by_cases h3 : i < l.length
    · rw [List.getElem?_append_left (by simp; omega), List.getElem_append_left h3]
      have := hrow i h3
      simp only [List.getElem?_map, List.getElem?_range (show i < l.length * 1 by omega), Option.map_some, Option.getD_some]
      exact this
    · rw [List.getElem?_append_right (by simp; omega), List.getElem_append_right (by omega)]
      have hj : i - l.length < bs.length := by omega
      simp only [bcells, List.length_map, List.length_range, Nat.mul_one, List.getElem?_map, List.getElem?_eq_getElem hj, Option.map_some, Option.getD_some]
      first | exact ⟨rfl, hd _ (List.getElem_mem hj)⟩ | exact ⟨trivial, hd _ (List.getElem_mem hj)⟩
  rcases hG with ⟨rfl, rfl⟩ | ⟨b, cap, c, rfl, h2, h3, hB, hT, hrow⟩
  · exact grow none 0 (fun _ => undef) rfl (by simpa using run_firstCells_none (P := Hvah.prog) w.drew 1 0 0 0) (fun i hi => by cases hi) (by simpa using hk)
  · have hrow1 : ∀ (i : Nat) (h : i < l.length), ByC c i l[i] := fun i hi => by
      have := hrow i hi
      rwa [Nat.mul_one] at this
    by_cases hroom : l.length + bs.length ≤ cap
    · have hr := run_append_room_src (P := Hvah.prog) w t t ty 5 Hvah.t5 ht u8info b 0 l.length cap _ bs.length (bcells bs) hS hroom (fun j hj => by rw [hB.cell (by rw [bcells_length] at hj; rw [u8size]; omega)]; rfl) (fun j _ => hB.fz _)
      rw [Nat.zero_add, u8size, Nat.mul_one] at hr
      have hB' := setCells_blk (bcells bs) l.length w c hB (by rw [bcells_length]; omega)
      refine ⟨_, _, hr, Or.inr ⟨b, cap, _, by rw [List.length_append], by rw [List.length_append]; exact hroom, h3, hB', hT, fun i hi => ?_⟩, hE.trans_mod (setCells_mod (S := (· = b)) (Or.inl rfl) _ _ _ (Mod.refl _ _)) (fun i hi => by have hi2 : i = b := hi; rw [hi2]; exact hT)⟩
      rw [List.length_append] at hi
      show (if l.length ≤ i * 1 then _ else _) = _ ∧ _
      rw [Nat.mul_one]
      by_cases h4 : i < l.length
      · rw [if_neg (by omega), List.getElem_append_left h4]
        exact hrow1 i h4
      · rw [if_pos (by omega), List.getElem_append_right (by omega)]
        have hj : i - l.length < bs.length := by omega
        refine ⟨?_, hd _ (List.getElem_mem hj)⟩
        simp [bcells, List.getD, hj]
    · refine grow (some ⟨b, 0, none⟩) cap c rfl ?_ hrow1 (by omega)
      refine run_firstCells_some w.drew 1 l.length ⟨b, 0, none⟩ l.length cap _ (by simp) ?_
      exact (Blk.drew hB).range (l.length * 1) (Nat.mul_le_mul_right _ h2)
end
section
variable {ops : Array Oper} {rest : List Oper} {a : Act} {Q : Exit → Act → World → Prop} {w : World} {dst : Option Tmp} {ty : TypeId} {pos : String} {aft : Array Edge}
/-- x = append(x, bytes...). -/
theorem wl_appendK {s x : Operand} {t t2 : TypeId} (ht : Hvah.prog.underlying t = some (.slice 5)) (htt : t2 = t) (w0 : World) (l bs : List Nat) {v : Value} {b o c1 : Nat} (hs : a.eval s = v) (hx : a.eval x = .slice (some ⟨b, o, none⟩) bs.length c1) (hG : GRow 5 1 ByC (fun b => w0.heap.size ≤ b) w v l) (hE : Ext w0 w) (hn : l.length ≤ 1048576) (hk : 0 < bs.length) (hk2 : bs.length ≤ 1048576) (hd : Digits bs)
    (hsrc : RowIn w b o (bcells bs).toArray) (h : ∀ v' W, GRow 5 1 ByC (fun b => w0.heap.size ≤ b) W v' (l ++ bs) → Ext w0 W → wpList Hvah.prog ops Q rest (a.put dst v') W) :
    wpList Hvah.prog ops Q (⟨dst, .call { callee := Callee.builtin Builtin.append, args := #[s, x], argTypes := #[t, t2] }, ty, pos, aft, none⟩ :: rest) a w := by
  subst htt
  refine wpList_plain rfl fun K hKK => ?_
  obtain ⟨v', W, hr, hG', hE'⟩ := run_appendK t2 ty ht l bs v w0 hG hE hn hk hk2 hd ⟨b, o, none⟩ c1 (fun j u hu => by rw [add_cell]; exact hsrc j u (by simpa using hu))
  unfold Oper.wp
  simp [execOp, resolve, invoke, builtin, hs, hx, hr, Result.andThen]
  exact hKK _ _ (h _ _ hG' hE')
end
end Go.Proofs.YgvahwGreat
