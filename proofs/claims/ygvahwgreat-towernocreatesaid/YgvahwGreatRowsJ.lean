import Derived.Test.YgvahwGreatYS
namespace Go.Proofs.YgvahwGreat
open Go.RowKit
/-- A row's cells as a function. -/
def cf (r : Array Value) : Nat → Value := fun i => r.getD i undef
/-- A row laid over cells. -/
def layv (c : Nat → Value) (o : Nat) (r : Array Value) : Nat → Value := fun i => if o ≤ i ∧ i < o + r.size then r.getD (i - o) undef else c i
/-- n cells from o as a row. -/
def rowOf (c : Nat → Value) (o n : Nat) : Array Value := ((List.range n).map fun j => c (o + j)).toArray
theorem rowOf_size (c : Nat → Value) (o n : Nat) : (rowOf c o n).size = n := by simp [rowOf]
theorem rowOf_get (c : Nat → Value) (o n j : Nat) : (rowOf c o n)[j]? = if j < n then some (c (o + j)) else none := by
  unfold rowOf
  rw [List.getElem?_toArray, List.getElem?_map]
  by_cases h : j < n
  · rw [if_pos h, List.getElem?_range h]; rfl
  · rw [if_neg h, List.getElem?_eq_none (by simp; omega)]; rfl
theorem cf_get {r : Array Value} {i : Nat} {v : Value} (h : r[i]? = some v) : cf r i = v := by simp [cf, Array.getD_eq_getD_getElem?, h]
theorem cf_rowOf (c : Nat → Value) (o n : Nat) {j : Nat} (h : j < n) : cf (rowOf c o n) j = c (o + j) := cf_get (by rw [rowOf_get, if_pos h])
theorem get_cf {r : Array Value} {i : Nat} (h : i < r.size) : r[i]? = some (cf r i) := by simp [cf, Array.getD_eq_getD_getElem?, h]
theorem layv_in (c : Nat → Value) (o : Nat) (r : Array Value) {j : Nat} (h : j < r.size) : layv c o r (o + j) = cf r j := by
  unfold layv cf
  rw [if_pos ⟨by omega, by omega⟩, Nat.add_sub_cancel_left]
theorem layv_out (c : Nat → Value) (o : Nat) (r : Array Value) {i : Nat} (h : i < o ∨ o + r.size ≤ i) : layv c o r i = c i := by
  unfold layv
  rw [if_neg (by omega)]
theorem layv_one (c : Nat → Value) (o : Nat) (v : Value) : layv c o #[v] = updv c o v := by
  funext i
  unfold layv updv
  by_cases h : i = o
  · subst h; simp
  · rw [if_neg (by simp; omega), if_neg h]
theorem rowOf_av {c : Nat → Value} {o a : Nat} (h : AAt c o a) (ha : a < 2 ^ 160) : rowOf c o 20 = av a := by
  apply Array.ext_getElem?
  intro j
  rw [rowOf_get]
  by_cases hj : j < 20
  · rw [if_pos hj]
    have hs := av_size ha
    have : (av a)[j]? = some ((av a)[j]'(by omega)) := Array.getElem?_eq_getElem _
    rw [this, h j _ this]
  · rw [if_neg hj, Array.getElem?_eq_none (by rw [av_size ha]; omega)]
theorem aat_cf {a : Nat} : AAt (cf (av a)) 0 a := fun i v hv => by rw [Nat.zero_add]; exact cf_get hv
theorem AAt.lay_in {c : Nat → Value} {o a : Nat} : AAt (layv c o (av a)) o a := fun i v hv => by
  rw [layv_in c o _ (Array.getElem?_eq_some_iff.1 hv).1]; exact cf_get hv
theorem AAt.lay_out {c : Nat → Value} {o a p : Nat} {r : Array Value} (h : AAt c o a) (ha : a < 2 ^ 160) (hd : o + 20 ≤ p ∨ p + r.size ≤ o) : AAt (layv c p r) o a := h.same ha (fun j hj => layv_out _ _ _ (by omega))
theorem AAt.upd {c : Nat → Value} {o a p : Nat} {v : Value} (h : AAt c o a) (ha : a < 2 ^ 160) (hd : p < o ∨ o + 20 ≤ p) : AAt (updv c p v) o a := h.same ha (fun j hj => updv_ne _ _ (by omega))
theorem AAt.rowOf {c : Nat → Value} {o a p n : Nat} (h : AAt c (p + o) a) (ha : a < 2 ^ 160) (hn : o + 20 ≤ n) : AAt (cf (rowOf c p n)) o a := fun i v hv => by
  have hi := (Array.getElem?_eq_some_iff.1 hv).1
  rw [av_size ha] at hi
  rw [cf_rowOf _ _ _ (by omega), ← Nat.add_assoc]
  exact h i v hv
section
variable {w w' : World} {g n o m : Nat} {t : TypeId} {c : Nat → Value} {r : Array Value}
theorem Blk.new (w : World) (r : Array Value) (t : TypeId) : Blk (w.alloc (.cells r t)) w.heap.size r.size t (cf r) := blk_new w r t undef
theorem Blk.rowIn (h : Blk w g n t c) (hm : o + m ≤ n) : RowIn w g o (rowOf c o m) := fun i v hv => by
  rw [rowOf_get] at hv
  split at hv
  · injection hv with hv; subst hv; exact h.cell (by omega)
  · cases hv
theorem Blk.rng (h : Blk w g n t c) (hm : o + m ≤ n) : w.rangeAt g o (rowOf c o m).toList := fun j v hv => h.rowIn hm j v (by simpa using hv)
theorem Blk.there (h : Blk w g n t c) (hm : o + m ≤ n) : w.there g o m := fun j hj => ⟨by rw [h.cell (by omega)]; rfl, h.fz _⟩
theorem Blk.same (h : Blk w g n t c) {c' : Nat → Value} (hc : ∀ i, i < n → c' i = c i) : Blk w g n t c' := by
  obtain ⟨a, h1, h2, h3⟩ := h
  exact ⟨a, h1, h2, fun i hi => by rw [hc i hi]; exact h3 i hi⟩
theorem Blk.lay (h : Blk w g n t c) (hm : o + r.size ≤ n) : Blk (w.setCells g o r.toList) g n t (layv c o r) := by
  refine (setCells_blk r.toList o w c h (by simpa using hm)).same (fun i hi => ?_)
  unfold layv
  by_cases h1 : o ≤ i
  · rw [if_pos h1]
    by_cases h2 : i < o + r.size
    · rw [if_pos ⟨h1, h2⟩, List.getD_eq_getElem?_getD, Array.getD_eq_getD_getElem?]
      simp [show i - o < r.size by omega]
    · rw [if_neg (by omega), List.getD_eq_getElem?_getD]
      simp [show ¬ i - o < r.size by omega]
  · rw [if_neg h1, if_neg (by omega)]
end
/-- All cells of a row are single. -/
def Ones (r : Array Value) : Prop := ∀ v ∈ r.toList, v.oneCell' = true
theorem ones_of {r : Array Value} (h : ∀ i, i < r.size → (cf r i).oneCell' = true) : Ones r := fun v hv => by
  obtain ⟨i, hi, rfl⟩ := List.getElem_of_mem hv
  have := h i (by simpa using hi)
  rwa [cf_get (v := r.toList[i]) (by simp at hi; simp [hi])] at this
theorem Ones.get {r : Array Value} (h : Ones r) {i : Nat} (hi : i < r.size) : (cf r i).oneCell' = true := by
  refine h _ ?_
  have := get_cf hi
  obtain ⟨h1, h2⟩ := Array.getElem?_eq_some_iff.1 this
  rw [← h2]; simp
theorem one_agg {r : Array Value} : (Value.agg r).cells = r := rfl
theorem one_cells {v : Value} (h : v.oneCell' = true) : v.cells = #[v] := by cases v <;> first | rfl | simp [Value.oneCell'] at h
/-! Building of structs. -/
/-- Parts laid over a row. -/
def bld (z : Array Value) : List (Nat × Array Value) → Array Value
  | [] => z
  | (o, r) :: ps => bld (r.zipIdx.foldl (fun cs (x : Value × Nat) => cs.setIfInBounds (o + x.2) x.1) z) ps
theorem lay_fold_size (o : Nat) (l : List (Value × Nat)) (z : Array Value) : (l.foldl (fun cs (x : Value × Nat) => cs.setIfInBounds (o + x.2) x.1) z).size = z.size := by
  induction l generalizing z with
  | nil => rfl
  | cons x l ih => rw [List.foldl_cons, ih]; simp
theorem lay_fold_get (o : Nat) : ∀ (l : List Value) (k : Nat) (z : Array Value) (i : Nat), i < z.size → cf ((l.zipIdx k).foldl (fun cs (x : Value × Nat) => cs.setIfInBounds (o + x.2) x.1) z) i = if o + k ≤ i ∧ i < o + k + l.length then l.getD (i - o - k) undef else cf z i
  | [], k, z, i, hi => by simp; omega
  | v :: l, k, z, i, hi => by
    rw [List.zipIdx_cons, List.foldl_cons, lay_fold_get o l (k + 1) _ i (by simpa using hi)]
    by_cases h1 : i = o + k
    · subst h1
      rw [if_neg (by omega), if_pos (by simp), show o + k - o - k = 0 by omega]
      simp [cf, Array.getD_eq_getD_getElem?, hi]
    · have e : cf (z.setIfInBounds (o + k) v) i = cf z i := by
        simp [cf, Array.getD_eq_getD_getElem?, Ne.symm h1]
      by_cases h2 : o + (k + 1) ≤ i ∧ i < o + (k + 1) + l.length
      · rw [if_pos h2, if_pos (by simp; omega), show i - o - k = (i - o - (k + 1)) + 1 by omega]; rfl
      · rw [if_neg h2, if_neg (by simp; omega), e]
theorem bld_size (z : Array Value) : ∀ (ps : List (Nat × Array Value)), (bld z ps).size = z.size := by
  intro ps
  induction ps generalizing z with
  | nil => rfl
  | cons p ps ih =>
    obtain ⟨o, r⟩ := p
    rw [bld, ih, ← Array.foldl_toList, lay_fold_size]
/-- The same on cells. -/
def bldc (c : Nat → Value) : List (Nat × Array Value) → Nat → Value
  | [] => c
  | (o, r) :: ps => bldc (layv c o r) ps
theorem bldc_same {n : Nat} : ∀ (ps : List (Nat × Array Value)) (c c' : Nat → Value), (∀ i, i < n → c i = c' i) → ∀ i, i < n → bldc c ps i = bldc c' ps i
  | [], _, _, h, i, hi => h i hi
  | (o, r) :: ps, c, c', h, i, hi => by
    refine bldc_same ps _ _ (fun j hj => ?_) i hi
    unfold layv
    rw [h j hj]
theorem bld_get : ∀ (ps : List (Nat × Array Value)) (z : Array Value) (i : Nat), i < z.size → cf (bld z ps) i = bldc (cf z) ps i
  | [], z, i, _ => rfl
  | (o, r) :: ps, z, i, hi => by
    have hs : (Array.foldl (fun cs (x : Value × Nat) => cs.setIfInBounds (o + x.2) x.1) z r.zipIdx).size = z.size := by rw [← Array.foldl_toList, lay_fold_size]
    rw [bld, bld_get ps _ i (by rw [hs]; exact hi), bldc]
    refine bldc_same (n := z.size) ps _ _ (fun j hj => ?_) i hi
    have := lay_fold_get o r.toList 0 z j hj
    rw [← Array.foldl_toList, Array.toList_zipIdx, this]
    unfold layv
    simp only [Nat.add_zero, Nat.sub_zero, Array.length_toList]
    split
    · rw [List.getD_eq_getElem?_getD, Array.getD_eq_getD_getElem?]; simp
    · rfl
/-- The places of a struct's fields. -/
def placesOf (P : Program) (t : TypeId) : Option (List (Nat × Nat)) := match P.underlying t with
  | some (.struct fs) => fs.toList.mapM fun f => (P.info? f.type).map fun i => (f.offset, i.size)
  | _ => none
/-- The zero's cells. -/
def zeroOf (P : Program) (t : TypeId) : Option (Array Value) := (P.info? t).bind fun i => i.zero.bind fun z => match z with | .agg cs => some cs | _ => none
/-- The parts fit. -/
def fits (pl : List (Nat × Nat)) (n : Nat) : List (Nat × Value) → Prop
  | [] => True
  | (k, v) :: ps => ∃ o s, pl[k]? = some (o, s) ∧ v.cells.size = s ∧ o + s ≤ n ∧ fits pl n ps
/-- The parts with their places. -/
def partsA (pl : List (Nat × Nat)) (ps : List (Nat × Value)) : List (Nat × Array Value) := ps.map fun p => ((pl.getD p.1 (0, 0)).1, p.2.cells)
theorem fill_bld (pl : List (Nat × Nat)) : ∀ (ps : List (Nat × Value)) (z : Array Value), fits pl z.size ps → Instr.fill (fun i => pl.toArray[i]?) z ps = some (bld z (partsA pl ps))
  | [], z, _ => rfl
  | (k, v) :: ps, z, h => by
    obtain ⟨o, s, h1, h2, h3, h4⟩ := h
    have e : pl.toArray[k]? = some (o, s) := by simpa using h1
    have hs : (Array.foldl (fun cs (x : Value × Nat) => cs.setIfInBounds (o + x.2) x.1) z v.cells.zipIdx).size = z.size := by rw [← Array.foldl_toList, lay_fold_size]
    rw [Instr.fill, e]
    simp only
    rw [if_neg (by simp; omega), fill_bld pl ps _ (by rw [hs]; exact h4)]
    simp [partsA, bld, List.getD_eq_getElem?_getD, h1]
theorem mapM_places (fs : List Field) (pl : List (Nat × Nat)) (h : (fs.mapM fun f => (Hvah.prog.info? f.type).map fun i => (f.offset, i.size)) = some pl) (w : World) : (fs.mapM (m := Sem) fun f => do pure (f.offset, ← sizeOf f.type)).run Hvah.prog w = .ok pl w := by
  induction fs generalizing pl with
  | nil => simp at h; subst h; rfl
  | cons f fs ih =>
    rw [List.mapM_cons] at h
    cases hf : Hvah.prog.info? f.type with
    | none => simp [hf] at h
    | some i =>
      cases hr : fs.mapM fun f => (Hvah.prog.info? f.type).map fun i => (f.offset, i.size) with
      | none => simp [hf, hr] at h
      | some ps =>
        simp [hf, hr] at h
        subst h
        have h0 : (Prod.mk f.offset <$> sizeOf f.type : Sem (Nat × Nat)).run Hvah.prog w = .ok (f.offset, i.size) w := by simp [Sem.run_bind, sizeOf, typeInfo, hf]
        have h1 := ih ps hr
        simp only [bind_pure_comp] at h1 ⊢
        rw [List.mapM_cons, Sem.run_bind, h0]
        simp [h1]
def bltOf (P : Program) (t : TypeId) (ps : List (Nat × Value)) : Array Value := match (Instr.build t ps.toArray).run P default with
  | .ok (.agg r) _ => r
  | _ => #[]
theorem bltOf_eq {P : Program} {t : TypeId} {ps : List (Nat × Value)} {r : Array Value} (h : ∀ w, (Instr.build t ps.toArray).run P w = .ok (.agg r) w) : bltOf P t ps = r := by
  unfold bltOf; rw [h]
theorem run_build_gen {t : TypeId} {pl : List (Nat × Nat)} {z : Array Value} (hp : placesOf Hvah.prog t = some pl) (hz : zeroOf Hvah.prog t = some z) (ps : List (Nat × Value)) (hf : fits pl z.size ps) (w : World) : (Instr.build t ps.toArray).run Hvah.prog w = .ok (.agg (bld z (partsA pl ps))) w := by
  unfold placesOf at hp
  split at hp
  · rename_i fs hu
    unfold zeroOf at hz
    cases hi : Hvah.prog.info? t with
    | none => simp [hi] at hz
    | some i =>
      cases hzz : i.zero with
      | none => simp [hi, hzz] at hz
      | some zz =>
        cases zz <;> simp [hi, hzz] at hz
        subst hz
        have hm : (fs.mapM (m := Sem) fun f => do pure (f.offset, ← sizeOf f.type)).run Hvah.prog w = .ok pl.toArray w := by
          have h1 := mapM_places fs.toList pl hp w
          rw [Array.mapM_eq_mapM_toList]
          generalize (fun f : Field => (do pure (f.offset, ← sizeOf f.type) : Sem (Nat × Nat))) = g at h1 ⊢
          simp [h1]
        simp only [bind_pure_comp] at hm
        have hfl := fill_bld pl ps _ hf
        simp only [List.getElem?_toArray] at hfl
        simp [Instr.build, Sem.run_bind, zeroValue, typeInfo, hi, hzz, run_underlying hu, hm, Value.cells, hfl]
  · cases hp
section
variable {ops : Array Oper} {rest : List Oper} {a : Act} {Q : Exit → Act → World → Prop} {w : World} {dst : Option Tmp} {ty : TypeId} {pos : String} {aft : Array Edge} {gd : Option (Nat × Bool)} {K : Act → World → Prop} {E : Prop} {o : Oper}
theorem wl_any {op : Op} (hw : Region.wanted ⟨dst, op, ty, pos, aft, gd⟩ (yielded ops a.tmps) = true) (h : Oper.wp Hvah.prog ⟨dst, op, ty, pos, aft, gd⟩ a w (wpList Hvah.prog ops Q rest) Q) : wpList Hvah.prog ops Q (⟨dst, op, ty, pos, aft, gd⟩ :: rest) a w := by
  rw [wpList, if_pos hw]; exact Or.inl h
/-- A new block. -/
theorem op_box {t : TypeId} {x : Operand} {r : Array Value} {n : Nat} (hop : o.op = .box t x) (hx : a.eval x = .agg r) (hn : r.size = n) (h : ∀ B W, Ext w W → Blk W B n t (cf r) → w.heap.size ≤ B → K (a.put o.dst (.pointer (some ⟨B, 0, none⟩))) W) : Oper.wp Hvah.prog o a w K Q := by
  subst hn
  have := h w.heap.size (w.alloc (.cells r t)) ((Ext.refl w).alloc _ _) (Blk.new w r t) (Nat.le_refl _)
  unfold Oper.wp
  simp [execOp, hop, Instr.box, hx, newVar, newRow, newObj, Value.cells, Sem.run, bind, Sem.bind, pure]
  exact this
theorem one_fun (v : Value) : ∀ i, i < (#[v] : Array Value).size → (fun _ => v) i = cf #[v] i := fun i hi => by
  have e : i = 0 := by simpa using hi
  subst e; rfl
theorem op_box1 {t : TypeId} {x : Operand} {v : Value} (hop : o.op = .box t x) (hx : a.eval x = v) (h1 : v.oneCell' = true) (h : ∀ B W, Ext w W → Blk W B 1 t (fun _ => v) → w.heap.size ≤ B → K (a.put o.dst (.pointer (some ⟨B, 0, none⟩))) W) : Oper.wp Hvah.prog o a w K Q := by
  have hb : Blk (w.alloc (.cells #[v] t)) w.heap.size 1 t (fun _ => v) := (Blk.new w #[v] t).same (one_fun v)
  have := h w.heap.size (w.alloc (.cells #[v] t)) ((Ext.refl w).alloc _ _) hb (Nat.le_refl _)
  unfold Oper.wp
  simp [execOp, hop, Instr.box, hx, newVar, newRow, newObj, one_cells h1, Sem.run, bind, Sem.bind, pure]
  exact this
theorem op_alloc {t : TypeId} {z : Array Value} {n : Nat} (hop : o.op = .alloc t) (hz : zeroOf Hvah.prog t = some z) (hn : z.size = n) (h : ∀ B W, Ext w W → Blk W B n t (cf z) → w.heap.size ≤ B → K (a.put o.dst (.pointer (some ⟨B, 0, none⟩))) W) : Oper.wp Hvah.prog o a w K Q := by
  subst hn
  unfold zeroOf at hz
  cases hi : Hvah.prog.info? t with
  | none => simp [hi] at hz
  | some i =>
    cases hzz : i.zero with
    | none => simp [hi, hzz] at hz
    | some zz =>
      cases zz <;> simp [hi, hzz] at hz
      subst hz
      have := h w.heap.size (w.alloc (.cells _ t)) ((Ext.refl w).alloc _ _) (Blk.new w _ t) (Nat.le_refl _)
      unfold Oper.wp
      simp [execOp, hop, Instr.alloc, zeroValue, typeInfo, hi, hzz, newVar, newRow, newObj, Value.cells, Sem.run, program, bind, Sem.bind, pure]
      exact this
theorem op_alloc1 {t : TypeId} {i : TypeInfo} {z : Value} (hop : o.op = .alloc t) (hi : Hvah.prog.info? t = some i) (hz : i.zero = some z) (h1 : z.oneCell' = true) (h : ∀ B W, Ext w W → Blk W B 1 t (fun _ => z) → w.heap.size ≤ B → K (a.put o.dst (.pointer (some ⟨B, 0, none⟩))) W) : Oper.wp Hvah.prog o a w K Q := by
  have hb : Blk (w.alloc (.cells #[z] t)) w.heap.size 1 t (fun _ => z) := (Blk.new w #[z] t).same (one_fun z)
  have := h w.heap.size (w.alloc (.cells #[z] t)) ((Ext.refl w).alloc _ _) hb (Nat.le_refl _)
  unfold Oper.wp
  simp [execOp, hop, Instr.alloc, zeroValue, typeInfo, hi, hz, newVar, newRow, newObj, one_cells h1, Sem.run, program, bind, Sem.bind, pure]
  exact this
theorem op_build {t : TypeId} {parts : Array (Nat × Operand)} {pl : List (Nat × Nat)} {z : Array Value} (hop : o.op = .build t parts) (hp : placesOf Hvah.prog t = some pl) (hz : zeroOf Hvah.prog t = some z) (ps : List (Nat × Value)) (he : (parts.map fun (i, x) => (i, a.eval x)) = ps.toArray) (hf : fits pl z.size ps)
    (h : ∀ r, r.size = z.size → (∀ i, i < z.size → cf r i = bldc (cf z) (partsA pl ps) i) → K (a.put o.dst (.agg r)) w) : Oper.wp Hvah.prog o a w K Q := by
  have := h _ (bld_size z (partsA pl ps)) (fun i hi => bld_get (partsA pl ps) z i hi)
  have hr := run_build_gen hp hz ps hf w
  unfold Oper.wp
  rw [← he] at hr
  simp only [execOp, hop, Sem.run_bind, hr, Result.andThen_ok, Sem.run_pure]
  exact this
theorem op_load1 {x : Operand} {t tt : TypeId} {b i n : Nat} {c : Nat → Value} (hop : o.op = .load t x) (ht : OneT t) (hx : a.eval x = .pointer (some ⟨b, i, none⟩)) (hB : Blk w b n tt c) (hi : i < n) (h : K (a.put o.dst (c i)) w) : Oper.wp Hvah.prog o a w K Q := by
  unfold Oper.wp execOp
  simp only [hop, hx, Instr.loadAt, Instr.sureAddr, Sem.run_bind, Sem.run_pure, Result.andThen_ok, run_loadVar_one ht (hB.cell hi)]
  exact h
theorem op_store1 {x y : Operand} {t tt : TypeId} {b i n : Nat} {c : Nat → Value} {v : Value} (hop : o.op = .store t x y) (ht : OneT t) (hx : a.eval x = .pointer (some ⟨b, i, none⟩)) (hy : a.eval y = v) (h1 : v.oneCell' = true) (hB : Blk w b n tt c) (hi : i < n)
    (h : ∀ W, Blk W b n tt (updv c i v) → Mod (· = b) w W → K (a.put o.dst undef) W) : Oper.wp Hvah.prog o a w K Q := by
  have hc : (w.cell? ⟨b, i, none⟩).isSome = true := by rw [hB.cell hi]; rfl
  unfold Oper.wp execOp
  simp only [hop, hx, hy, Instr.storeAt, Instr.sureAddr, Sem.run_bind, Sem.run_pure, Result.andThen_ok, run_storeVar_one ht h1 hc (hB.fz i)]
  exact h _ (hB.set i v) ((Mod.refl (fun x => x = b) w).setCell (p := ⟨b, i, none⟩) (Or.inl rfl) v)
theorem op_loadRow {x : Operand} {t tt : TypeId} {b i n m : Nat} {c : Nat → Value} (hop : o.op = .load t x) (rt : RowT t m) (hx : a.eval x = .pointer (some ⟨b, i, none⟩)) (hB : Blk w b n tt c) (hi : i + m ≤ n) (h : K (a.put o.dst (.agg (rowOf c i m))) w) : Oper.wp Hvah.prog o a w K Q := by
  obtain ⟨d, h1, h2⟩ := rt.desc
  exact wp_load_mid t x hop b i hx (rowOf c i m).toList d (hB.rng hi) h1 h2 (by rw [rt.size]; simp [rowOf_size]) (by simpa using h)
theorem op_storeRow {x y : Operand} {t tt : TypeId} {b i n m : Nat} {c : Nat → Value} {r : Array Value} (hop : o.op = .store t x y) (rt : RowT t m) (hx : a.eval x = .pointer (some ⟨b, i, none⟩)) (hy : a.eval y = .agg r) (hr : r.size = m) (h1 : Ones r) (hB : Blk w b n tt c) (hi : i + m ≤ n)
    (h : ∀ W, Blk W b n tt (layv c i r) → Mod (· = b) w W → K (a.put o.dst undef) W) : Oper.wp Hvah.prog o a w K Q :=
  wp_store_mid t x y hop b i r hx hy (hB.there (by rw [hr]; exact hi)) (by rw [rt.size, hr]) (Array.all_eq_true_iff_forall_mem.2 (fun v hv => h1 v (by simpa using hv))) (h _ (hB.lay (by rw [hr]; exact hi)) (setCells_mod (S := (· = b)) (Or.inl rfl) r.toList i w (Mod.refl _ _)))
theorem run_field1J {t ft : TypeId} {k off : Nat} {r : Array Value} (h : fieldOf Hvah.prog t k = some (ft, off)) (ht : OneT ft) (hk : off < r.size) (w : World) : (Instr.field t (.agg r) k).run Hvah.prog w = .ok (cf r off) w := by
  obtain ⟨d, hd, hd2⟩ := ht.desc
  unfold fieldOf at h
  split at h
  · rename_i fs hu
    cases hf : fs[k]? with
    | none => rw [hf] at h; cases h
    | some f =>
      rw [hf] at h
      simp only [Option.map_some, Option.some.injEq, Prod.mk.injEq] at h
      obtain ⟨h1, h2⟩ := h
      subst h1
      subst h2
      have hagg : (isAgg f.type).run Hvah.prog w = .ok false w := by
        unfold isAgg
        rw [Sem.run_bind, run_underlying hd w]
        cases d <;> simp_all [TypeDesc.isRow]
      simp [Instr.field, run_underlying hu, hf, asAgg, part, Sem.run_bind, hagg, get_cf hk]
  · cases h
theorem run_fieldAJ {t ft : TypeId} {k off n : Nat} {r : Array Value} (h : fieldOf Hvah.prog t k = some (ft, off)) (rt : RowT ft n) (hk : off + n ≤ r.size) (w : World) : (Instr.field t (.agg r) k).run Hvah.prog w = .ok (.agg (rowOf (cf r) off n)) w := by
  obtain ⟨d, hd, hd2⟩ := rt.desc
  have hs := rt.size
  unfold fieldOf at h
  split at h
  · rename_i fs hu
    cases hf : fs[k]? with
    | none => rw [hf] at h; cases h
    | some f =>
      rw [hf] at h
      simp only [Option.map_some, Option.some.injEq, Prod.mk.injEq] at h
      obtain ⟨h1, h2⟩ := h
      subst h1
      subst h2
      have hagg : (isAgg f.type).run Hvah.prog w = .ok true w := by
        unfold isAgg
        rw [Sem.run_bind, run_underlying hd w]
        cases d <;> simp_all [TypeDesc.isRow]
      have hss : (sizeOf f.type).run Hvah.prog w = .ok n w := by
        cases hq : Hvah.prog.info? f.type with
        | none => simp [hq] at hs
        | some i =>
          have hi : i.size = n := by simpa [hq] using hs
          simp [sizeOf, typeInfo, hq, hi]
      have he : r.extract f.offset (f.offset + n) = rowOf (cf r) f.offset n := by
        apply Array.ext_getElem?
        intro j
        rw [rowOf_get, Array.getElem?_extract]
        by_cases hj : j < n
        · rw [if_pos hj, if_pos (by omega), get_cf (by omega)]
        · rw [if_neg hj, if_neg (by omega)]
      simp [Instr.field, run_underlying hu, hf, asAgg, part, Sem.run_bind, hagg, hss, he]
  · cases h
theorem op_field1 {x : Operand} {t ft : TypeId} {k off : Nat} {r : Array Value} (hop : o.op = .field t x k) (hx : a.eval x = .agg r) (hf : fieldOf Hvah.prog t k = some (ft, off)) (ht : OneT ft) (hk : off < r.size) (h : K (a.put o.dst (cf r off)) w) : Oper.wp Hvah.prog o a w K Q := by
  unfold Oper.wp
  simp only [execOp, hop, hx, Sem.run_bind, run_field1J hf ht hk w, Result.andThen_ok, Sem.run_pure]
  exact h
theorem op_fieldA {x : Operand} {t ft : TypeId} {k off n : Nat} {r : Array Value} (hop : o.op = .field t x k) (hx : a.eval x = .agg r) (hf : fieldOf Hvah.prog t k = some (ft, off)) (rt : RowT ft n) (hk : off + n ≤ r.size) (h : K (a.put o.dst (.agg (rowOf (cf r) off n))) w) : Oper.wp Hvah.prog o a w K Q := by
  unfold Oper.wp
  simp only [execOp, hop, hx, Sem.run_bind, run_fieldAJ hf rt hk w, Result.andThen_ok, Sem.run_pure]
  exact h
theorem step_any (hw : Region.wanted o (yielded ops a.tmps) = true) (h : Oper.wp Hvah.prog o a w K Q) : if Region.wanted o (yielded ops a.tmps) = true then Oper.wp Hvah.prog o a w K Q else E := by rw [if_pos hw]; exact h
theorem wl_boxB {t : TypeId} {x : Operand} {r : Array Value} {n : Nat} (hx : a.eval x = .agg r) (hn : r.size = n)
    (h : ∀ B W, Ext w W → Blk W B n t (cf r) → w.heap.size ≤ B → wpList Hvah.prog ops Q rest (a.put dst (.pointer (some ⟨B, 0, none⟩))) W) : Veil (wpList Hvah.prog ops Q (⟨dst, .box t x, ty, pos, aft, none⟩ :: rest) a w) :=
  Veil.mk (wl_any rfl (op_box rfl hx hn h))
theorem wlG_boxB {t : TypeId} {x : Operand} {r : Array Value} {n : Nat} (hx : a.eval x = .agg r) (hn : r.size = n) (hw : Region.wanted ⟨dst, .box t x, ty, pos, aft, gd⟩ (yielded ops a.tmps) = true)
    (h : ∀ B W, Ext w W → Blk W B n t (cf r) → w.heap.size ≤ B → wpList Hvah.prog ops Q rest (a.put dst (.pointer (some ⟨B, 0, none⟩))) W) : wpList Hvah.prog ops Q (⟨dst, .box t x, ty, pos, aft, gd⟩ :: rest) a w :=
  wl_any hw (op_box rfl hx hn h)
theorem wl_box1 {t : TypeId} {x : Operand} {v : Value} (hx : a.eval x = v) (h1 : v.oneCell' = true)
    (h : ∀ B W, Ext w W → Blk W B 1 t (fun _ => v) → w.heap.size ≤ B → wpList Hvah.prog ops Q rest (a.put dst (.pointer (some ⟨B, 0, none⟩))) W) : wpList Hvah.prog ops Q (⟨dst, .box t x, ty, pos, aft, none⟩ :: rest) a w :=
  wl_any rfl (op_box1 rfl hx h1 h)
theorem wlG_box1 {t : TypeId} {x : Operand} {v : Value} (hx : a.eval x = v) (h1 : v.oneCell' = true) (hw : Region.wanted ⟨dst, .box t x, ty, pos, aft, gd⟩ (yielded ops a.tmps) = true)
    (h : ∀ B W, Ext w W → Blk W B 1 t (fun _ => v) → w.heap.size ≤ B → wpList Hvah.prog ops Q rest (a.put dst (.pointer (some ⟨B, 0, none⟩))) W) : wpList Hvah.prog ops Q (⟨dst, .box t x, ty, pos, aft, gd⟩ :: rest) a w :=
  wl_any hw (op_box1 rfl hx h1 h)
set_option maxRecDepth 100000 in
theorem wl_allocB {t : TypeId} {z : Array Value} {n : Nat} (hz : zeroOf Hvah.prog t = some z) (hn : z.size = n)
    (h : ∀ B W, Ext w W → Blk W B n t (cf z) → w.heap.size ≤ B → wpList Hvah.prog ops Q rest (a.put dst (.pointer (some ⟨B, 0, none⟩))) W) : Veil (wpList Hvah.prog ops Q (⟨dst, .alloc t, ty, pos, aft, none⟩ :: rest) a w) :=
  Veil.mk (wl_any rfl (op_alloc rfl hz hn h))
set_option maxRecDepth 100000 in
theorem wlG_allocB {t : TypeId} {z : Array Value} {n : Nat} (hz : zeroOf Hvah.prog t = some z) (hn : z.size = n) (hw : Region.wanted ⟨dst, .alloc t, ty, pos, aft, gd⟩ (yielded ops a.tmps) = true)
    (h : ∀ B W, Ext w W → Blk W B n t (cf z) → w.heap.size ≤ B → wpList Hvah.prog ops Q rest (a.put dst (.pointer (some ⟨B, 0, none⟩))) W) : wpList Hvah.prog ops Q (⟨dst, .alloc t, ty, pos, aft, gd⟩ :: rest) a w :=
  wl_any hw (op_alloc rfl hz hn h)
set_option maxRecDepth 100000 in
theorem wl_buildB {t : TypeId} {parts : Array (Nat × Operand)} {pl : List (Nat × Nat)} {z : Array Value} (hp : placesOf Hvah.prog t = some pl) (hz : zeroOf Hvah.prog t = some z) (ps : List (Nat × Value)) (he : (parts.map fun (i, x) => (i, a.eval x)) = ps.toArray) (hf : fits pl z.size ps)
    (h : ∀ r, r.size = z.size → (∀ i, i < z.size → cf r i = bldc (cf z) (partsA pl ps) i) → wpList Hvah.prog ops Q rest (a.put dst (.agg r)) w) : Veil (wpList Hvah.prog ops Q (⟨dst, .build t parts, ty, pos, aft, none⟩ :: rest) a w) :=
  Veil.mk (wl_any rfl (op_build rfl hp hz ps he hf h))
set_option maxRecDepth 100000 in
theorem wlG_buildB {t : TypeId} {parts : Array (Nat × Operand)} {pl : List (Nat × Nat)} {z : Array Value} (hp : placesOf Hvah.prog t = some pl) (hz : zeroOf Hvah.prog t = some z) (ps : List (Nat × Value)) (he : (parts.map fun (i, x) => (i, a.eval x)) = ps.toArray) (hf : fits pl z.size ps) (hw : Region.wanted ⟨dst, .build t parts, ty, pos, aft, gd⟩ (yielded ops a.tmps) = true)
    (h : ∀ r, r.size = z.size → (∀ i, i < z.size → cf r i = bldc (cf z) (partsA pl ps) i) → wpList Hvah.prog ops Q rest (a.put dst (.agg r)) w) : wpList Hvah.prog ops Q (⟨dst, .build t parts, ty, pos, aft, gd⟩ :: rest) a w :=
  wl_any hw (op_build rfl hp hz ps he hf h)
theorem wl_loadB {x : Operand} {t tt : TypeId} {b i n : Nat} {c : Nat → Value} (ht : OneT t) (hx : a.eval x = .pointer (some ⟨b, i, none⟩)) (hB : Blk w b n tt c) (hi : i < n)
    (h : wpList Hvah.prog ops Q rest (a.put dst (c i)) w) : Veil (wpList Hvah.prog ops Q (⟨dst, .load t x, ty, pos, aft, none⟩ :: rest) a w) :=
  Veil.mk (wl_any rfl (op_load1 rfl ht hx hB hi h))
theorem wlG_loadB {x : Operand} {t tt : TypeId} {b i n : Nat} {c : Nat → Value} (ht : OneT t) (hx : a.eval x = .pointer (some ⟨b, i, none⟩)) (hB : Blk w b n tt c) (hi : i < n) (hw : Region.wanted ⟨dst, .load t x, ty, pos, aft, gd⟩ (yielded ops a.tmps) = true)
    (h : wpList Hvah.prog ops Q rest (a.put dst (c i)) w) : Veil (wpList Hvah.prog ops Q (⟨dst, .load t x, ty, pos, aft, gd⟩ :: rest) a w) :=
  Veil.mk (wl_any hw (op_load1 rfl ht hx hB hi h))
theorem wl_storeC {x y : Operand} {t tt : TypeId} {b i n : Nat} {c : Nat → Value} {v : Value} (ht : OneT t) (hx : a.eval x = .pointer (some ⟨b, i, none⟩)) (hy : a.eval y = v) (h1 : v.oneCell' = true) (hB : Blk w b n tt c) (hi : i < n)
    (h : ∀ W, Blk W b n tt (updv c i v) → Mod (· = b) w W → wpList Hvah.prog ops Q rest (a.put dst undef) W) : Veil (wpList Hvah.prog ops Q (⟨dst, .store t x y, ty, pos, aft, none⟩ :: rest) a w) :=
  Veil.mk (wl_any rfl (op_store1 rfl ht hx hy h1 hB hi h))
theorem wlG_storeC {x y : Operand} {t tt : TypeId} {b i n : Nat} {c : Nat → Value} {v : Value} (ht : OneT t) (hx : a.eval x = .pointer (some ⟨b, i, none⟩)) (hy : a.eval y = v) (h1 : v.oneCell' = true) (hB : Blk w b n tt c) (hi : i < n) (hw : Region.wanted ⟨dst, .store t x y, ty, pos, aft, gd⟩ (yielded ops a.tmps) = true)
    (h : ∀ W, Blk W b n tt (updv c i v) → Mod (· = b) w W → wpList Hvah.prog ops Q rest (a.put dst undef) W) : wpList Hvah.prog ops Q (⟨dst, .store t x y, ty, pos, aft, gd⟩ :: rest) a w :=
  wl_any hw (op_store1 rfl ht hx hy h1 hB hi h)
theorem wl_loadRow {x : Operand} {t tt : TypeId} {b i n m : Nat} {c : Nat → Value} (rt : RowT t m) (hx : a.eval x = .pointer (some ⟨b, i, none⟩)) (hB : Blk w b n tt c) (hi : i + m ≤ n)
    (h : wpList Hvah.prog ops Q rest (a.put dst (.agg (rowOf c i m))) w) : Veil (wpList Hvah.prog ops Q (⟨dst, .load t x, ty, pos, aft, none⟩ :: rest) a w) :=
  Veil.mk (wl_any rfl (op_loadRow rfl rt hx hB hi h))
theorem wlG_loadRow {x : Operand} {t tt : TypeId} {b i n m : Nat} {c : Nat → Value} (rt : RowT t m) (hx : a.eval x = .pointer (some ⟨b, i, none⟩)) (hB : Blk w b n tt c) (hi : i + m ≤ n) (hw : Region.wanted ⟨dst, .load t x, ty, pos, aft, gd⟩ (yielded ops a.tmps) = true)
    (h : wpList Hvah.prog ops Q rest (a.put dst (.agg (rowOf c i m))) w) : Veil (wpList Hvah.prog ops Q (⟨dst, .load t x, ty, pos, aft, gd⟩ :: rest) a w) :=
  Veil.mk (wl_any hw (op_loadRow rfl rt hx hB hi h))
theorem wl_storeRow {x y : Operand} {t tt : TypeId} {b i n m : Nat} {c : Nat → Value} {r : Array Value} (rt : RowT t m) (hx : a.eval x = .pointer (some ⟨b, i, none⟩)) (hy : a.eval y = .agg r) (hr : r.size = m) (h1 : Ones r) (hB : Blk w b n tt c) (hi : i + m ≤ n)
    (h : ∀ W, Blk W b n tt (layv c i r) → Mod (· = b) w W → wpList Hvah.prog ops Q rest (a.put dst undef) W) : Veil (wpList Hvah.prog ops Q (⟨dst, .store t x y, ty, pos, aft, none⟩ :: rest) a w) :=
  Veil.mk (wl_any rfl (op_storeRow rfl rt hx hy hr h1 hB hi h))
theorem wlG_storeRow {x y : Operand} {t tt : TypeId} {b i n m : Nat} {c : Nat → Value} {r : Array Value} (rt : RowT t m) (hx : a.eval x = .pointer (some ⟨b, i, none⟩)) (hy : a.eval y = .agg r) (hr : r.size = m) (h1 : Ones r) (hB : Blk w b n tt c) (hi : i + m ≤ n) (hw : Region.wanted ⟨dst, .store t x y, ty, pos, aft, gd⟩ (yielded ops a.tmps) = true)
    (h : ∀ W, Blk W b n tt (layv c i r) → Mod (· = b) w W → wpList Hvah.prog ops Q rest (a.put dst undef) W) : wpList Hvah.prog ops Q (⟨dst, .store t x y, ty, pos, aft, gd⟩ :: rest) a w :=
  wl_any hw (op_storeRow rfl rt hx hy hr h1 hB hi h)
set_option maxRecDepth 100000 in
theorem wl_field1 {x : Operand} {t ft : TypeId} {k off : Nat} {r : Array Value} (hx : a.eval x = .agg r) (hf : fieldOf Hvah.prog t k = some (ft, off)) (ht : OneT ft) (hk : off < r.size)
    (h : wpList Hvah.prog ops Q rest (a.put dst (cf r off)) w) : wpList Hvah.prog ops Q (⟨dst, .field t x k, ty, pos, aft, none⟩ :: rest) a w :=
  wl_any rfl (op_field1 rfl hx hf ht hk h)
set_option maxRecDepth 100000 in
theorem wlG_field1 {x : Operand} {t ft : TypeId} {k off : Nat} {r : Array Value} (hx : a.eval x = .agg r) (hf : fieldOf Hvah.prog t k = some (ft, off)) (ht : OneT ft) (hk : off < r.size) (hw : Region.wanted ⟨dst, .field t x k, ty, pos, aft, gd⟩ (yielded ops a.tmps) = true)
    (h : wpList Hvah.prog ops Q rest (a.put dst (cf r off)) w) : wpList Hvah.prog ops Q (⟨dst, .field t x k, ty, pos, aft, gd⟩ :: rest) a w :=
  wl_any hw (op_field1 rfl hx hf ht hk h)
set_option maxRecDepth 100000 in
theorem wl_fieldA {x : Operand} {t ft : TypeId} {k off n : Nat} {r : Array Value} (hx : a.eval x = .agg r) (hf : fieldOf Hvah.prog t k = some (ft, off)) (rt : RowT ft n) (hk : off + n ≤ r.size)
    (h : wpList Hvah.prog ops Q rest (a.put dst (.agg (rowOf (cf r) off n))) w) : wpList Hvah.prog ops Q (⟨dst, .field t x k, ty, pos, aft, none⟩ :: rest) a w :=
  wl_any rfl (op_fieldA rfl hx hf rt hk h)
set_option maxRecDepth 100000 in
theorem wlG_fieldA {x : Operand} {t ft : TypeId} {k off n : Nat} {r : Array Value} (hx : a.eval x = .agg r) (hf : fieldOf Hvah.prog t k = some (ft, off)) (rt : RowT ft n) (hk : off + n ≤ r.size) (hw : Region.wanted ⟨dst, .field t x k, ty, pos, aft, gd⟩ (yielded ops a.tmps) = true)
    (h : wpList Hvah.prog ops Q rest (a.put dst (.agg (rowOf (cf r) off n))) w) : wpList Hvah.prog ops Q (⟨dst, .field t x k, ty, pos, aft, gd⟩ :: rest) a w :=
  wl_any hw (op_fieldA rfl hx hf rt hk h)
end
end Go.Proofs.YgvahwGreat
