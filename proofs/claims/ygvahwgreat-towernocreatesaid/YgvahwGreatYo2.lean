import Derived.Test.YgvahwGreatYo
namespace Go.Proofs.YgvahwGreat
open Go.RowKit
set_option linter.unusedSimpArgs false

section
variable {o : Oper} {a : Act} {w : World} {K : Act → World → Prop} {Q : Exit → Act → World → Prop}
set_option maxRecDepth 100000 in
theorem op_build1v {y : Operand} {v : Value} (hop : o.op = .buildSlice 154 1 #[(0, y)]) (hy : a.eval y = v) (h1 : v.oneCell' = true)
    (h : ∀ B W, Ext w W → W.cell? ⟨B, 0, none⟩ = some v → w.heap.size ≤ B → K (a.put o.dst (.slice (some ⟨B, 0, none⟩) 1 1)) W) : Oper.wp Hvah.prog o a w K Q := by
  have hcs := one_cells h1
  have hf : Instr.fill (fun i => some (i * 1, 1)) ((Array.range 1).map ((Value.slice none 0 0).cells[· % (Value.slice none 0 0).cells.size]!)) [(0, v)] = some #[v] := by
    simp [Instr.fill, hcs]
    refine Array.ext (by simp) (fun i h1 h2 => ?_)
    have : i = 0 := by simpa using h2
    subst this
    simp
  have hrun : (Instr.buildSlice 154 1 #[(0, v)]).run Hvah.prog w = .ok (.slice (some ⟨w.heap.size, 0, none⟩) 1 1) (w.alloc (.cells #[v] 109)) := by
    unfold Instr.buildSlice
    simp [Sem.run_bind, run_underlying under145, sizeOf, typeInfo, info96, size96, zeroValue, zero96, newRow, newObj]
    simp at hf
    simp [hf]
    rfl
  unfold Oper.wp
  simp [execOp, hop, hy, hrun, Result.andThen]
  exact h _ _ ((Ext.refl w).alloc _ _) (row_new w #[v] 109 0 v rfl) (Nat.le_refl _)
/-- One word behind the cut stack: a new list. -/
theorem op_pushF {s x : Operand} {O : Nat → Prop} {v : Value} {l : List Nat} {base : Option Addr} {k B c1 z : Nat} {u : Value} {ty : TypeId} (hty : o.type = ty) {w0 : World} (hG : NumS O w0 v l) (e0 : Ext w0 w) (hk : k ≤ l.length) (hk2 : k ≤ 100000) (hbase : ∃ len cap, v = .slice base len cap) (hop : o.op = .call { callee := Callee.builtin Builtin.append, args := #[s, x], argTypes := #[154, 154] }) (hs : a.eval s = .slice base k k)
    (hx : a.eval x = .slice (some ⟨B, 0, none⟩) 1 c1) (hc : w.cell? ⟨B, 0, none⟩ = some u) (hu : NV O w0 u z)
    (h : ∀ v' W, GRow 109 1 (fun c o x => NV O w0 (c o) x) (fun b => w0.heap.size ≤ b) W v' (l.take k ++ [z]) → Ext w W → K (a.put o.dst v') W) : Oper.wp Hvah.prog o a w K Q := by
  have hcut : ∃ c : Nat → Value, (Builtin.firstCells 1 k (.slice base k k)).run Hvah.prog w.drew = .ok ((List.range (k * 1)).map c).toArray w.drew ∧ ∀ (i : Nat) (h : i < (l.take k).length), NV O w0 (c (i * 1)) (l.take k)[i] := by
    obtain ⟨len, cap0, hv⟩ := hbase
    obtain ⟨o, cap, h1, h2, h3, h4⟩ := hG
    rw [hv] at h1
    injection h1 with e1 _ _
    subst e1
    by_cases hl0 : l = []
    · subst hl0
      have hk0 : k = 0 := by simpa using hk
      subst hk0
      refine ⟨fun _ => undef, ?_, fun i hi => by simp at hi⟩
      cases base with
      | none => simpa using run_firstCells_none (P := Hvah.prog) w.drew 1 0 0 0
      | some ad => exact run_firstCells_some w.drew 1 0 ad 0 0 [] (by simp) (fun j v hv => by simp at hv)
    · obtain ⟨b, m, c, rfl, k2, k3, k4, k5⟩ := h4 hl0
      refine ⟨c, run_firstCells_some w.drew 1 k ⟨b, 0, none⟩ k k _ (by simp) ?_, fun i hi => ?_⟩
      · exact (Blk.drew (k2.ext e0)).range (k * 1) (by omega)
      · rw [List.length_take] at hi
        rw [List.getElem_take]
        rw [Nat.mul_one]
        exact k5 i (by omega)
  obtain ⟨c, hf, hrows⟩ := hcut
  obtain ⟨v', W, b', c', hr, hG', hE, hb'⟩ := run_appendF (w := w) 154 ty 109 Hvah.t109 (.slice none 0 0) 1 under145 info96 zero96 size96 rfl bytes96 base k c hf (by omega) ⟨B, 0, none⟩ c1 [u] rfl (fun j t ht => by
    have hj : j = 0 := by have := (List.getElem?_eq_some_iff.1 ht).1; simpa using this
    subst hj
    have : t = u := by simpa using ht.symm
    subst this
    simpa [Addr.add] using hc) (fun t ht => by
    have : t = u := by simpa using ht
    subst this
    exact hu.one)
  have hlk : (l.take k).length = k := by rw [List.length_take]; omega
  unfold Oper.wp
  subst hty
  simp [execOp, hop, resolve, invoke, builtin, hs, hx, hr, Result.andThen]
  refine h v' W ?_ hE
  have hGr : Grown w 109 1 (.slice base k k) (l.take k).length w.heap.size c [u] v' W b' c' := by rw [hlk]; exact hG'
  refine GRow.push (x := z) (R := fun c o x => NV O w0 (c o) x) (T' := fun b => w0.heap.size ≤ b) hGr hrows (fun c c' o y hcc k => by
    have := hcc 0 (by decide)
    rw [Nat.add_zero] at this
    show NV O w0 (c' o) y
    rw [this]
    exact k) (fun hn => ?_) (by rw [hb']; exact e0.size)
  have := hn 0 u rfl
  rw [Nat.add_zero] at this
  show NV O w0 (c' _) z
  rw [this]
  exact hu
/-- One word behind a list that is new since w0. -/
theorem op_appendNo {s x : Operand} {O : Nat → Prop} {v : Value} {l : List Nat} {B c1 z : Nat} {u : Value} {ty : TypeId} (hty : o.type = ty) {w0 : World} (hG : GRow 109 1 (fun c o x => NV O w0 (c o) x) (fun b => w0.heap.size ≤ b) w v l) (e0 : Ext w0 w) (hn : l.length ≤ 1048576) (hop : o.op = .call { callee := Callee.builtin Builtin.append, args := #[s, x], argTypes := #[154, 154] }) (hs : a.eval s = v)
    (hx : a.eval x = .slice (some ⟨B, 0, none⟩) 1 c1) (hc : w.cell? ⟨B, 0, none⟩ = some u) (hu : NV O w0 u z)
    (h : ∀ v' W, GRow 109 1 (fun c o x => NV O w0 (c o) x) (fun b => w0.heap.size ≤ b) W v' (l ++ [z]) → Ext w0 W → K (a.put o.dst v') W) : Oper.wp Hvah.prog o a w K Q := by
  obtain ⟨b, c, hA, hT, hrows⟩ := hG.arn
  obtain ⟨v', W, b', c', hr, hGr⟩ := run_append1 (w := w) 154 ty 109 Hvah.t109 (.slice none 0 0) 1 under145 info96 zero96 size96 rfl bytes96 v l.length b c hA hn ⟨B, 0, none⟩ c1 [u] rfl (fun j t ht => by
    have hj : j = 0 := by have := (List.getElem?_eq_some_iff.1 ht).1; simpa using this
    subst hj
    have : t = u := by simpa using ht.symm
    subst this
    simpa [Addr.add] using hc) (fun t ht => by
    have : t = u := by simpa using ht
    subst this
    exact hu.one)
  unfold Oper.wp
  subst hty
  simp [execOp, hop, resolve, invoke, builtin, hs, hx, hr, Result.andThen]
  refine h v' W (GRow.push (x := z) (R := fun c o x => NV O w0 (c o) x) (T' := fun b => w0.heap.size ≤ b) hGr hrows (fun c c' o y hcc k => by
    have := hcc 0 (by decide)
    rw [Nat.add_zero] at this
    show NV O w0 (c' o) y
    rw [this]
    exact k) (fun hn => by
    have := hn 0 u rfl
    rw [Nat.add_zero] at this
    show NV O w0 (c' _) z
    rw [this]
    exact hu) ?_) ?_
  · rcases hGr.how with ⟨rfl, ⟨cap, hv⟩, _⟩ | ⟨rfl, _⟩
    · exact hT cap hv
    · exact e0.size
  · rcases hGr.how with ⟨rfl, ⟨cap, hv⟩, hm⟩ | ⟨_, he⟩
    · exact e0.trans_mod hm (fun i hi => by rw [hi]; exact hT cap hv)
    · exact e0.trans he
theorem grown_numS {O : Nat → Prop} {w0 W : World} {v : Value} {l : List Nat} (h : GRow 109 1 (fun c o x => NV O w0 (c o) x) (fun b => w0.heap.size ≤ b) W v l) (hO : Small O w0) (e : Ext w0 W) : NumS O W v l := by
  have k : NumL O W v l := GRow.mono h (fun c o x q => NV.ext q e) (fun b _ hb hq => by have := hO b hq; omega) (fun _ _ _ _ hb _ => hb)
  exact k.numS
end
section
variable {ops : Array Oper} {rest : List Oper} {a : Act} {Q : Exit → Act → World → Prop} {w : World} {dst : Option Tmp} {ty : TypeId} {pos : String} {aft : Array Edge}
theorem wl_pushF {s x : Operand} {O : Nat → Prop} {v : Value} {l : List Nat} {base : Option Addr} {k B c1 z : Nat} {u : Value} {w0 : World} (hG : NumS O w0 v l) (e0 : Ext w0 w) (hk : k ≤ l.length) (hk2 : k ≤ 100000) (hbase : ∃ len cap, v = .slice base len cap) (hs : a.eval s = .slice base k k)
    (hx : a.eval x = .slice (some ⟨B, 0, none⟩) 1 c1) (hc : w.cell? ⟨B, 0, none⟩ = some u) (hu : NV O w0 u z)
    (h : ∀ v' W, GRow 109 1 (fun c o x => NV O w0 (c o) x) (fun b => w0.heap.size ≤ b) W v' (l.take k ++ [z]) → Ext w W → wpList Hvah.prog ops Q rest (a.put dst v') W) : Veil (wpList Hvah.prog ops Q (⟨dst, .call { callee := Callee.builtin Builtin.append, args := #[s, x], argTypes := #[154, 154] }, ty, pos, aft, none⟩ :: rest) a w) :=
  Veil.mk (wl_any rfl (op_pushF rfl hG e0 hk hk2 hbase rfl hs hx hc hu h))
theorem wl_appendNo {s x : Operand} {O : Nat → Prop} {v : Value} {l : List Nat} {B c1 z : Nat} {u : Value} {w0 : World} (hG : GRow 109 1 (fun c o x => NV O w0 (c o) x) (fun b => w0.heap.size ≤ b) w v l) (e0 : Ext w0 w) (hn : l.length ≤ 1048576) (hs : a.eval s = v)
    (hx : a.eval x = .slice (some ⟨B, 0, none⟩) 1 c1) (hc : w.cell? ⟨B, 0, none⟩ = some u) (hu : NV O w0 u z)
    (h : ∀ v' W, GRow 109 1 (fun c o x => NV O w0 (c o) x) (fun b => w0.heap.size ≤ b) W v' (l ++ [z]) → Ext w0 W → wpList Hvah.prog ops Q rest (a.put dst v') W) : Veil (wpList Hvah.prog ops Q (⟨dst, .call { callee := Callee.builtin Builtin.append, args := #[s, x], argTypes := #[154, 154] }, ty, pos, aft, none⟩ :: rest) a w) :=
  Veil.mk (wl_any rfl (op_appendNo rfl hG e0 hn rfl hs hx hc hu h))
end
section
variable {kk : Nat → Value} {O TM TL : Nat → Prop} {w : World} {Y F q n : Nat} {tF : TypeId} {c d : Nat → Value} {W : YW} {start : List (Nat × Nat × Nat)} {st : ASt} {f : AFrame}
set_option maxRecDepth 100000 in
set_option maxHeartbeats 6400000 in
theorem xPlainD (hX : YX kk O TM TL w Y F q n tF c d W start st f) (o : Nat) (ho : o < 256) (h1 : 128 ≤ o) (h2 : o ≤ 143) (hTo : takesA o = o - 127) (hT : takesA o ≤ f.stack.length) (hok' : FOK (f.settle 0 [f.arg (takesA o - 1)] 1)) : Calls Hvah.prog 76 #[.pointer (some ⟨Y, 0, none⟩), .pointer (some ⟨F, q, none⟩), .int .u8 o] w fun e w' => e = .returned (.tuple #[]) ∧ ∃ d', YX kk O TM TL w' Y F q n tF c d' W start st (f.settle 0 [f.arg (takesA o - 1)] 1) ∧ Mod (· = F) w w' ∧ (∀ i, i ≠ q + 8 → i ≠ q + 3 → d' i = d i) := by
  have hO := hX.small
  have hq := hX.hq
  have hYl := hX.bY.lt
  have hsl := hX.ok.sLen
  have hsli : (f.stack.length : Int) ≤ 64 := by omega
  have hdp : dl f.pc ≤ 2000 := Nat.le_trans (dl_u64 _ (by have := hX.ok.pc; omega)) (by decide)
  obtain ⟨os, cs, hsd, hs1⟩ := NumS.slice hX.fc.stack
  rw [List.length_reverse] at hsd
  have hsc : f.stack.length ≤ cs := by
    obtain ⟨o2, cap2, h1, h2, _⟩ := hX.fc.stack
    rw [hsd] at h1
    injection h1 with _ _ h1
    rw [h1]; simpa using h2
  have hIm : immA o ≤ 32 := by unfold immA; split <;> omega
  have HAr := yArity o ho
  have HIm := fun W1 => oImm o W1 ho
  obtain ⟨im, him2⟩ : ∃ x, Hid (immA o = x) := ⟨_, rfl⟩
  obtain ⟨T, hTT⟩ : ∃ x, Hid (takesA o = x) := ⟨_, rfl⟩
  have HTT : Hid (T = T) := rfl
  rw [him2.out] at HIm hIm
  have hTp : 1 ≤ takesA o := by rw [hTo]; omega
  rw [hTT.out] at hT HAr hok' hTp ⊢
  obtain ⟨gvv, hgvv⟩ : ∃ x, Hid (givesA o = x) := ⟨_, rfl⟩
  rw [hgvv.out] at HAr
  obtain ⟨args, hargs⟩ : ∃ x, Hid ((List.range T).map f.arg = x) := ⟨_, rfl⟩
  have hal : args.length = T := by rw [← hargs.out]; simp
  have hT64 : T ≤ 64 := Nat.le_trans hT hsl
  have n86 : ¬ (o : Int) = 86 := by omega
  have n87 : ¬ (o : Int) = 87 := by omega
  have p128 : (128 : Int) ≤ (o : Int) := by omega
  have p143 : (o : Int) ≤ 143 := by omega
  have m86 : ((o : Int) == 86) = false := by simp; omega
  have m87 : ((o : Int) == 87) = false := by simp; omega
  have him0 : Hid (im = 0) := by rw [← him2.out]; unfold immA; rw [if_neg (by omega)]; exact rfl
  clear hs1 h1 h2 hTo
  go_enter Hvah.func76, Hvah.ntmps76
  go_upto_region 1 with (go_at_call 146; refine (HAr _).mono ?_; rintro e w1 ⟨rfl, hww⟩; replace hww := hww.symm; subst hww)
  go_upto_region 2 with ((with_reducible (refine Veil.out ?_; apply wl_makeR under145 el96 T)); (case hl => rfl); (case hc => rfl); (case hn => omega); rintro B W1 e1 b1 g1)
  rw [Nat.mul_one] at b1
  have hBY : ¬ B = Y := by omega
  have hLE : ∀ W', Mod (· = B) W1 W' → Ext w W' := fun W' hm => Ext.trans_mod e1 hm (fun q hq => by have hq2 : q = B := hq; rw [hq2]; exact g1)
  have hXw : ∀ W', Mod (· = B) W1 W' → YX kk (Wd O B) TM TL W' Y F q n tF c d W start st f := fun W' hm => hX.widen0 g1 (hLE W' hm) (Nat.lt_of_lt_of_le b1.lt hm.size)
  go_upto_block 0 with (fail)
  go_cut [] (fun wx => ∃ cA, Blk wx B T 109 cA ∧ Hid (∀ j, j < T → NV (Wd O B) wx (cA j) (f.arg j)) ∧ Mod (· = B) W1 wx)
  case first =>
    go_upto_region 3 with (fail)
    try simp only [Act.put]
    go_loopw [24] (fun iv wr => ∃ (i : Nat) (cA : Nat → Value), iv = .int .i64 (i : Nat) ∧ i ≤ T ∧ Blk wr B T 109 cA ∧ Hid (∀ j, j < i → NV (Wd O B) wr (cA j) (f.arg j)) ∧ Mod (· = B) W1 wr) (fun iv _ => T - (intOf iv).toNat)
    case atStart => exact ⟨0, _, rfl, Nat.zero_le _, b1, (fun j hj => absurd hj (Nat.not_lt_zero _) : ∀ j, j < 0 → _), Mod.refl _ _⟩
    case round =>
      obtain ⟨i, cA, rfl, hi, bA, hdone, hm⟩ := hrel
      rcases Nat.lt_or_ge i T with hlt | hge
      · have z1 : (i : Int) < (T : Int) := by omega
        have z2 : IntKind.i64.wrap ((i : Int) + 1) = ((i + 1 : Nat) : Int) := by rw [IntKind.wrap_i64]; omega
        have HXA := fun W' (hW : Ext wr W') => xArg (((hXw _ hm)).ext hW) i (by omega)
        go_upto_region 6 with (first | (go_at_call 73; refine (HXA _ (by (repeat (first | with_reducible exact Ext.refl _ | with_reducible assumption | refine Ext.trans ?_ (by with_reducible assumption) | refine Ext.alloc ?_ _ _ | refine Ext.drew ?_ | refine Ext.drewN ?_ _)))).mono ?_; rintro e w2 ⟨r2, rfl, hr2, he2⟩) | ((with_reducible (refine Veil.out ?_; apply wl_storeC onet96o)); (case hx => rfl); (case hy => rfl); (case h1 => exact hr2.one); (case hB => exact bA.ext he2); (case hi => exact hlt); rintro W5 b5 m5))
        go_wp2
        go_roundw
        case rel =>
          refine ⟨i + 1, _, rfl, hlt, b5, (fun j hj => ?_ : ∀ j, j < i + 1 → NV (Wd O B) W5 (updv cA i r2 j) (f.arg j)), (hm.trans (he2.mod _)).trans m5⟩
          by_cases e : j = i
          · subst e; rw [updv_same]; exact hr2.keep m5 (fun b hb q => hb (Or.inr q))
          · rw [updv_ne _ _ e]; exact (((hdone.out j (by omega)).ext he2)).keep m5 (fun b hb q => hb (Or.inr q))
        case measure => simp [intOf]; omega
      · have z1 : ¬ (i : Int) < (T : Int) := by omega
        have : i = T := by omega
        subst this
        go_wp2
        go_meet
        case rel => exact ⟨cA, bA, hdone, hm⟩
  case rest =>
  obtain ⟨cA, bA, hdone, hm⟩ := hcut
  obtain ⟨W3, eW3⟩ : ∃ X, X = wc := ⟨_, rfl⟩
  subst eW3
  have E3 := hLE _ hm
  have HN : ∀ W', Ext W3 W' → NumL O W' (.slice (some ⟨B, 0, none⟩) T T) args := fun W' hW => Or.inr ⟨B, T, cA, by rw [hal], by rw [hal]; exact Nat.le_refl _, by omega, by rw [Nat.mul_one]; exact bA.ext hW, fun hb => by have := hO B hb; omega, fun i hi => by
    have hi2 : i < T := by rw [← hal]; exact hi
    have e : args[i] = f.arg i := by
      have : ((List.range T).map f.arg)[i]'(by simpa using hi2) = f.arg i := by simp
      rw [← this]; congr 1; exact hargs.out.symm
    rw [Nat.mul_one, e]
    exact ((hdone.out i hi2).narrow).ext hW⟩
  have hX3 := hX.ext E3
  have HAg : Hid (∀ j, j < T → NV O W3 (cA j) (f.arg j)) := fun j hj => (hdone.out j hj).narrow
  have hst3 := hX3.fc.stack
  have hO3 := hX3.small
  clear hdone hargs hXw hLE hm b1 g1 HAr
  have iw : IntKind.u64.wrap (1 + (im : Int)) = ((1 + im : Nat) : Int) := by rw [IntKind.wrap_u64]; omega
  have iw2 : IntKind.u64.wrap (im : Int) = (im : Int) := by rw [IntKind.wrap_u64]; omega
  go_upto_region 7 with (fail)
  refine w_ext ?_
  rintro W0 hW0
  refine wp_region_held_drew (S := fun w' => Ext W0 w') (by kernel_rfl) (Ext.refl _).drew (fun hHeld => ?_)
  have HH : Hid (Ext W0 _) := hHeld
  clear hHeld
  refine wpAnyH_take (i := 0) (v := ?_) rfl (by kernel_rfl) (by kernel_rfl) (by kernel_rfl) (fun _ _ _ h => h) (Or.inl ⟨by rfl, ?_⟩) HH.out ?_
  rotate_left
  · intro w hSw; go_simp; try with_reducible rfl
  change wpAnyH _ _ _ _ _ _ _ (Act.put _ (some 34) _) _
  simp only [Act.put, List.setIfInBounds_toArray, List.set_cons_zero, List.set_cons_succ]
  refine wpAnyH_take (i := 1) (v := ?_) rfl (by kernel_rfl) (by kernel_rfl) (by kernel_rfl) (fun _ _ _ h => h) (Or.inl ⟨by rfl, ?_⟩) HH.out ?_
  rotate_left
  · intro w hSw; go_simp; try with_reducible rfl
  change wpAnyH _ _ _ _ _ _ _ (Act.put _ (some 35) _) _
  simp only [Act.put, List.setIfInBounds_toArray, List.set_cons_zero, List.set_cons_succ]
  refine wpAnyH_take (i := 2) (v := ?_) rfl (by kernel_rfl) (by kernel_rfl) (by kernel_rfl) (fun _ _ _ h => h) (Or.inl ⟨by rfl, ?_⟩) HH.out ?_
  rotate_left
  · intro w hSw; go_simp; try with_reducible rfl
  change wpAnyH _ _ _ _ _ _ _ (Act.put _ (some 36) _) _
  simp only [Act.put, List.setIfInBounds_toArray, List.set_cons_zero, List.set_cons_succ]
  refine wpAnyH_take (i := 3) rfl (by kernel_rfl) (by kernel_rfl) (by kernel_rfl) (fun _ _ _ h => h) (yieldsIf_load1 (by rfl) _ _ rfl _ _ rfl onet96o _ (fun w hSw => (hX3.bF.ext (hW0.trans hSw)).cell (by omega))) HH.out ?_
  change wpAnyH _ _ _ _ _ _ _ (Act.put _ (some 37) _) _
  simp only [Act.put, List.setIfInBounds_toArray, List.set_cons_zero, List.set_cons_succ]
  refine wpAnyH_take (i := 4) (v := ?_) rfl (by kernel_rfl) (by kernel_rfl) (by kernel_rfl) (fun _ _ _ h => h) (Or.inl ⟨by rfl, ?_⟩) HH.out ?_
  rotate_left
  · intro w hSw; go_simp; try with_reducible rfl
  change wpAnyH _ _ _ _ _ _ _ (Act.put _ (some 38) _) _
  simp only [Act.put, List.setIfInBounds_toArray, List.set_cons_zero, List.set_cons_succ]
  refine wpAnyH_ready (rs := [5]) (by kernel_rfl) (by simp) ?_
  refine AllReadyH.cons rfl (fun K hK => ?_) AllReadyH.nil
  go_simp
  (go_at_call 160; refine (HIm _).mono ?_; rintro e w1 ⟨rfl, hww⟩; replace hww := hww.symm; subst hww)
  refine hK.out _ _ ?_ (fun hHeld => ?_)
  · first | exact HH.out.trans hmY | exact HH.out.trans he | exact HH.out
  clear hK K HH
  have HH : Hid (Ext W0 _) := hHeld
  clear hHeld
  refine wpAnyH_take (i := 6) (v := ?_) rfl (by kernel_rfl) (by kernel_rfl) (by kernel_rfl) (fun _ _ _ h => h) (Or.inl ⟨by rfl, ?_⟩) HH.out ?_
  rotate_left
  · intro w hSw; go_simp; try with_reducible rfl
  change wpAnyH _ _ _ _ _ _ _ (Act.put _ (some 40) _) _
  simp only [Act.put, List.setIfInBounds_toArray, List.set_cons_zero, List.set_cons_succ]
  refine wpAnyH_take (i := 7) (v := ?_) rfl (by kernel_rfl) (by kernel_rfl) (by kernel_rfl) (fun _ _ _ h => h) (Or.inl ⟨by rfl, ?_⟩) HH.out ?_
  rotate_left
  · intro w hSw; go_simp; try with_reducible rfl
  change wpAnyH _ _ _ _ _ _ _ (Act.put _ (some 41) _) _
  simp only [Act.put, List.setIfInBounds_toArray, List.set_cons_zero, List.set_cons_succ]
  refine wpAnyH_ready (rs := [8]) (by kernel_rfl) (by simp) ?_
  refine AllReadyH.cons rfl (fun K hK => ?_) AllReadyH.nil
  go_simp
  (go_at_call 42; refine (nNum O (1 + im) _ (hX3.small.ext (by (repeat (first | with_reducible exact Ext.refl _ | with_reducible assumption | refine Ext.trans ?_ (by with_reducible assumption) | refine Ext.alloc ?_ _ _ | refine Ext.drew ?_ | refine Ext.drewN ?_ _)))) (by omega)).mono ?_; rintro e w4 ⟨r1, rfl, hr1, he⟩)
  refine hK.out _ _ ?_ (fun hHeld => ?_)
  · first | exact HH.out.trans hmY | exact HH.out.trans he | exact HH.out
  clear hK K HH
  have HH : Hid (Ext W0 _) := hHeld
  clear hHeld
  refine wpAnyH_ready (rs := [9]) (by kernel_rfl) (by simp) ?_
  refine AllReadyH.cons rfl (fun K hK => ?_) AllReadyH.nil
  go_simp
  (go_at_call 44; refine (nAdd O _ _ _ _ _ (hX3.small.ext (by (repeat (first | with_reducible exact Ext.refl _ | with_reducible assumption | refine Ext.trans ?_ (by with_reducible assumption) | refine Ext.alloc ?_ _ _ | refine Ext.drew ?_ | refine Ext.drewN ?_ _)))) (hX3.fc.pc.ext (by (repeat (first | with_reducible exact Ext.refl _ | with_reducible assumption | refine Ext.trans ?_ (by with_reducible assumption) | refine Ext.alloc ?_ _ _ | refine Ext.drew ?_ | refine Ext.drewN ?_ _)))) (hr1.ext (by (repeat (first | with_reducible exact Ext.refl _ | with_reducible assumption | refine Ext.trans ?_ (by with_reducible assumption) | refine Ext.alloc ?_ _ _ | refine Ext.drew ?_ | refine Ext.drewN ?_ _)))) hdp (Nat.le_trans (dl_u64 _ (by omega)) (by decide))).mono ?_; rintro e w5 ⟨r2, rfl, hr2, he⟩)
  refine hK.out _ _ ?_ (fun hHeld => ?_)
  · first | exact HH.out.trans hmY | exact HH.out.trans he | exact HH.out
  clear hK K HH
  have HH : Hid (Ext W0 _) := hHeld
  clear hHeld
  refine wpAnyH_take (i := 10) (v := ?_) rfl (by kernel_rfl) (by kernel_rfl) (by kernel_rfl) (fun _ _ _ h => h) (Or.inl ⟨by rfl, ?_⟩) HH.out ?_
  rotate_left
  · intro w hSw; go_simp; try with_reducible rfl
  change wpAnyH _ _ _ _ _ _ _ (Act.put _ (some 11) _) _
  simp only [Act.put, List.setIfInBounds_toArray, List.set_cons_zero, List.set_cons_succ]
  refine wpAnyH_done (by kernel_rfl) ?_ _
  have X4 := hX3.ext (hW0.trans HH.out)
  have hr3 := hr2
  have HN4 := fun W' (hW : Ext _ W') => HN W' ((hW0.trans HH.out).trans hW)
  have E4 := E3.trans (hW0.trans HH.out)
  have EE4 := hW0.trans HH.out
  clear HH hW0 HN hr1 hX3
  have i1 : (f.stack.length : Int) - (T : Int) = ((f.stack.length - T : Nat) : Int) := by omega
  have i3 : ((f.stack.length - T : Nat) : Int) ≤ 64 := by omega
  have i4 : ((f.stack.length - T : Nat) : Int) ≤ cs := by omega
  obtain ⟨m, hm⟩ : ∃ m, Hid (f.stack.length - T = m) := ⟨_, rfl⟩
  have hm2 : m ≤ f.stack.length := by have := hm.out; omega
  rw [hm.out] at i1 i3 i4
  have iwm : IntKind.i64.wrap ((f.stack.length : Int) - (T : Int)) = (m : Int) := by rw [i1, IntKind.wrap_i64]; omega
  have iwm2 : IntKind.i64.wrap (m : Int) = (m : Int) := by rw [IntKind.wrap_i64]; omega
  have i5 : ¬ ((m : Int) < 0) := by omega
  have i7 : (0 : Int) ≤ (m : Int) := by omega
  have i6 : m ≤ cs := by omega
  go_upto_region 8 with (fail)
  refine w_ext ?_
  rintro W0 hW0
  refine wp_region_held_drew (S := fun w' => Ext W0 w') (by kernel_rfl) (Ext.refl _).drew (fun hHeld => ?_)
  have HH : Hid (Ext W0 _) := hHeld
  clear hHeld
  refine wpAnyH_take (i := 0) (v := ?_) rfl (by kernel_rfl) (by kernel_rfl) (by kernel_rfl) (fun _ _ _ h => h) (Or.inl ⟨by rfl, ?_⟩) HH.out ?_
  rotate_left
  · intro w hSw; go_simp; try with_reducible rfl
  change wpAnyH _ _ _ _ _ _ _ (Act.put _ (some 44) _) _
  simp only [Act.put, List.setIfInBounds_toArray, List.set_cons_zero, List.set_cons_succ]
  refine wpAnyH_take (i := 1) (v := ?_) rfl (by kernel_rfl) (by kernel_rfl) (by kernel_rfl) (fun _ _ _ h => h) (Or.inl ⟨by rfl, ?_⟩) HH.out ?_
  rotate_left
  · intro w hSw; go_simp; try with_reducible rfl
  change wpAnyH _ _ _ _ _ _ _ (Act.put _ (some 45) _) _
  simp only [Act.put, List.setIfInBounds_toArray, List.set_cons_zero, List.set_cons_succ]
  refine wpAnyH_take (i := 2) (v := ?_) rfl (by kernel_rfl) (by kernel_rfl) (by kernel_rfl) (fun _ _ _ h => h) (Or.inl ⟨by rfl, ?_⟩) HH.out ?_
  rotate_left
  · intro w hSw; go_simp; try with_reducible rfl
  change wpAnyH _ _ _ _ _ _ _ (Act.put _ (some 46) _) _
  simp only [Act.put, List.setIfInBounds_toArray, List.set_cons_zero, List.set_cons_succ]
  refine wpAnyH_take (i := 3) rfl (by kernel_rfl) (by kernel_rfl) (by kernel_rfl) (fun _ _ _ h => h) (yieldsIf_load1 (by rfl) _ _ rfl _ _ rfl oneN _ (fun w hSw => by rw [(X4.bF.ext (hW0.trans hSw)).cell (by omega), hsd])) HH.out ?_
  change wpAnyH _ _ _ _ _ _ _ (Act.put _ (some 47) _) _
  simp only [Act.put, List.setIfInBounds_toArray, List.set_cons_zero, List.set_cons_succ]
  refine wpAnyH_take (i := 4) (v := ?_) rfl (by kernel_rfl) (by kernel_rfl) (by kernel_rfl) (fun _ _ _ h => h) (Or.inl ⟨by rfl, ?_⟩) HH.out ?_
  rotate_left
  · intro w hSw; go_simp; try with_reducible rfl
  change wpAnyH _ _ _ _ _ _ _ (Act.put _ (some 48) _) _
  simp only [Act.put, List.setIfInBounds_toArray, List.set_cons_zero, List.set_cons_succ]
  refine wpAnyH_take (i := 5) (v := ?_) rfl (by kernel_rfl) (by kernel_rfl) (by kernel_rfl) (fun _ _ _ h => h) (Or.inl ⟨by rfl, ?_⟩) HH.out ?_
  rotate_left
  · intro w hSw; go_simp; try with_reducible rfl
  change wpAnyH _ _ _ _ _ _ _ (Act.put _ (some 49) _) _
  simp only [Act.put, List.setIfInBounds_toArray, List.set_cons_zero, List.set_cons_succ]
  refine wpAnyH_take (i := 6) (v := ?_) rfl (by kernel_rfl) (by kernel_rfl) (by kernel_rfl) (fun _ _ _ h => h) (Or.inl ⟨by rfl, ?_⟩) HH.out ?_
  rotate_left
  · intro w hSw; go_simp; try with_reducible rfl
  change wpAnyH _ _ _ _ _ _ _ (Act.put _ (some 50) _) _
  simp only [Act.put, List.setIfInBounds_toArray, List.set_cons_zero, List.set_cons_succ]
  refine wpAnyH_take (i := 7) rfl (by kernel_rfl) (by kernel_rfl) (by kernel_rfl) (fun _ _ _ h => h) (yieldsIf_load1 (by rfl) _ _ rfl _ _ rfl oneN _ (fun w hSw => by rw [(X4.bF.ext (hW0.trans hSw)).cell (by omega), hsd])) HH.out ?_
  change wpAnyH _ _ _ _ _ _ _ (Act.put _ (some 51) _) _
  simp only [Act.put, List.setIfInBounds_toArray, List.set_cons_zero, List.set_cons_succ]
  refine wpAnyH_take (i := 8) (v := ?_) rfl (by kernel_rfl) (by kernel_rfl) (by kernel_rfl) (fun _ _ _ h => h) (Or.inl ⟨by rfl, ?_⟩) HH.out ?_
  rotate_left
  · intro w hSw; go_simp; try with_reducible rfl
  change wpAnyH _ _ _ _ _ _ _ (Act.put _ (some 52) _) _
  simp only [Act.put, List.setIfInBounds_toArray, List.set_cons_zero, List.set_cons_succ]
  refine wpAnyH_take (i := 9) (v := ?_) rfl (by kernel_rfl) (by kernel_rfl) (by kernel_rfl) (fun _ _ _ h => h) (Or.inl ⟨by rfl, ?_⟩) HH.out ?_
  rotate_left
  · intro w hSw; go_simp; try with_reducible rfl
  change wpAnyH _ _ _ _ _ _ _ (Act.put _ (some 53) _) _
  simp only [Act.put, List.setIfInBounds_toArray, List.set_cons_zero, List.set_cons_succ]
  refine wpAnyH_take (i := 10) (v := ?_) rfl (by kernel_rfl) (by kernel_rfl) (by kernel_rfl) (fun _ _ _ h => h) (Or.inl ⟨by rfl, ?_⟩) HH.out ?_
  rotate_left
  · intro w hSw; go_simp; try with_reducible rfl
  change wpAnyH _ _ _ _ _ _ _ (Act.put _ (some 54) _) _
  simp only [Act.put, List.setIfInBounds_toArray, List.set_cons_zero, List.set_cons_succ]
  refine wpAnyH_take (i := 11) (v := ?_) rfl (by kernel_rfl) (by kernel_rfl) (by kernel_rfl) (fun _ _ _ h => h) (Or.inl ⟨by rfl, ?_⟩) HH.out ?_
  rotate_left
  · intro w hSw; go_simp; try with_reducible rfl
  change wpAnyH _ _ _ _ _ _ _ (Act.put _ (some 55) _) _
  simp only [Act.put, List.setIfInBounds_toArray, List.set_cons_zero, List.set_cons_succ]
  refine wpAnyH_take (i := 12) (v := ?_) rfl (by kernel_rfl) (by kernel_rfl) (by kernel_rfl) (fun _ _ _ h => h) (Or.inl ⟨by rfl, ?_⟩) HH.out ?_
  rotate_left
  · intro w hSw; go_simp; try with_reducible rfl
  change wpAnyH _ _ _ _ _ _ _ (Act.put _ (some 56) _) _
  simp only [Act.put, List.setIfInBounds_toArray, List.set_cons_zero, List.set_cons_succ]
  refine wpAnyH_take (i := 13) (v := ?_) rfl (by kernel_rfl) (by kernel_rfl) (by kernel_rfl) (fun _ _ _ h => h) (Or.inl ⟨by rfl, ?_⟩) HH.out ?_
  rotate_left
  · intro w hSw; go_simp; try with_reducible rfl
  change wpAnyH _ _ _ _ _ _ _ (Act.put _ (some 57) _) _
  simp only [Act.put, List.setIfInBounds_toArray, List.set_cons_zero, List.set_cons_succ]
  refine wpAnyH_take (i := 14) rfl (by kernel_rfl) (by kernel_rfl) (by kernel_rfl) (fun _ _ _ h => h) (yieldsIf_load1 (by rfl) _ _ rfl _ _ rfl oneN _ (fun w hSw => by rw [(X4.bF.ext (hW0.trans hSw)).cell (by omega), hsd])) HH.out ?_
  change wpAnyH _ _ _ _ _ _ _ (Act.put _ (some 58) _) _
  simp only [Act.put, List.setIfInBounds_toArray, List.set_cons_zero, List.set_cons_succ]
  refine wpAnyH_take (i := 15) (v := ?_) rfl (by kernel_rfl) (by kernel_rfl) (by kernel_rfl) (fun _ _ _ h => h) (Or.inl ⟨by rfl, ?_⟩) HH.out ?_
  rotate_left
  · intro w hSw; go_simp; try with_reducible rfl
  change wpAnyH _ _ _ _ _ _ _ (Act.put _ (some 59) _) _
  simp only [Act.put, List.setIfInBounds_toArray, List.set_cons_zero, List.set_cons_succ]
  refine wpAnyH_take (i := 16) (v := ?_) rfl (by kernel_rfl) (by kernel_rfl) (by kernel_rfl) (fun _ _ _ h => h) (Or.inl ⟨by rfl, ?_⟩) HH.out ?_
  rotate_left
  · intro w hSw; go_simp; try with_reducible rfl
  change wpAnyH _ _ _ _ _ _ _ (Act.put _ (some 60) _) _
  simp only [Act.put, List.setIfInBounds_toArray, List.set_cons_zero, List.set_cons_succ]
  refine wpAnyH_take (i := 17) (v := ?_) rfl (by kernel_rfl) (by kernel_rfl) (by kernel_rfl) (fun _ _ _ h => h) (Or.inl ⟨by rfl, ?_⟩) HH.out ?_
  rotate_left
  · intro w hSw; go_simp; try with_reducible rfl
  change wpAnyH _ _ _ _ _ _ _ (Act.put _ (some 61) _) _
  simp only [Act.put, List.setIfInBounds_toArray, List.set_cons_zero, List.set_cons_succ]
  refine wpAnyH_take (i := 18) (v := ?_) rfl (by kernel_rfl) (by kernel_rfl) (by kernel_rfl) (fun _ _ _ h => h) (Or.inl ⟨by rfl, ?_⟩) HH.out ?_
  rotate_left
  · intro w hSw; go_simp; try with_reducible rfl
  change wpAnyH _ _ _ _ _ _ _ (Act.put _ (some 62) _) _
  simp only [Act.put, List.setIfInBounds_toArray, List.set_cons_zero, List.set_cons_succ]
  refine wpAnyH_take (i := 19) (v := ?_) rfl (by kernel_rfl) (by kernel_rfl) (by kernel_rfl) (fun _ _ _ h => h) (Or.inl ⟨by rfl, ?_⟩) HH.out ?_
  rotate_left
  · intro w hSw; go_simp; try with_reducible rfl
  change wpAnyH _ _ _ _ _ _ _ (Act.put _ (some 12) _) _
  simp only [Act.put, List.setIfInBounds_toArray, List.set_cons_zero, List.set_cons_succ]
  refine wpAnyH_done (by kernel_rfl) ?_ _
  have X5 := X4.ext (hW0.trans HH.out)
  have hr5 := hr3.ext (hW0.trans HH.out)
  have HN5 := fun W' (hW : Ext _ W') => HN4 W' ((hW0.trans HH.out).trans hW)
  have E5 := E4.trans (hW0.trans HH.out)
  have EE5 := EE4.trans (hW0.trans HH.out)
  clear HH hW0 HN4 hr3 hr2 X4 E4 E3 e1 EE4
  obtain ⟨t, ht⟩ : ∃ t, Hid (T - 1 = t) := ⟨_, rfl⟩
  have htl : t < T := by rw [← ht.out]; omega
  have jt : IntKind.i64.wrap ((T : Int) - 1) = (t : Int) := by have := ht.out; rw [IntKind.wrap_i64]; omega
  have jti : (t : Int) < (T : Int) := by omega
  have jt0 : (0 : Int) ≤ (t : Int) := by omega
  obtain ⟨v1, hv1⟩ : ∃ v, Hid (cA t = v) := ⟨_, rfl⟩
  have hn1 : NV O W3 v1 (f.arg t) := by rw [← hv1.out]; exact HAg.out t htl
  obtain ⟨ks, ⟨ko, kc, hke, _, _, _⟩, _⟩ := id hn1
  subst hke
  have hn5 := hn1.ext EE5
  have bA5 := bA.ext EE5
  have hlL : (f.stack.length : Int) ≤ cs := by omega
  have hl5 : ¬ ((f.stack.length : Int) < 0) := by omega
  have hl7 : (0 : Int) ≤ (f.stack.length : Int) := by omega
  have iwl : IntKind.i64.wrap (f.stack.length : Int) = (f.stack.length : Int) := by rw [IntKind.wrap_i64]; omega
  have hst5 := X5.fc.stack
  go_upto_region 15 with (fail)
  refine w_ext ?_
  rintro W0 hW0
  refine wp_region_held_drew (S := fun w' => Ext W0 w') (by kernel_rfl) (Ext.refl _).drew (fun hHeld => ?_)
  have HH : Hid (Ext W0 _) := hHeld
  clear hHeld
  refine wpAnyH_take (i := 0) (v := ?_) rfl (by kernel_rfl) (by kernel_rfl) (by kernel_rfl) (fun _ _ _ h => h) (Or.inl ⟨by rfl, ?_⟩) HH.out ?_
  rotate_left
  · intro w hSw; go_simp; try with_reducible rfl
  change wpAnyH _ _ _ _ _ _ _ (Act.put _ (some 94) _) _
  simp only [Act.put, List.setIfInBounds_toArray, List.set_cons_zero, List.set_cons_succ]
  refine wpAnyH_take (i := 1) (v := ?_) rfl (by kernel_rfl) (by kernel_rfl) (by kernel_rfl) (fun _ _ _ h => h) (Or.inl ⟨by rfl, ?_⟩) HH.out ?_
  rotate_left
  · intro w hSw; go_simp; try with_reducible rfl
  change wpAnyH _ _ _ _ _ _ _ (Act.put _ (some 95) _) _
  simp only [Act.put, List.setIfInBounds_toArray, List.set_cons_zero, List.set_cons_succ]
  refine wpAnyH_take (i := 2) (v := ?_) rfl (by kernel_rfl) (by kernel_rfl) (by kernel_rfl) (fun _ _ _ h => h) (Or.inl ⟨by rfl, ?_⟩) HH.out ?_
  rotate_left
  · intro w hSw; go_simp; try with_reducible rfl
  change wpAnyH _ _ _ _ _ _ _ (Act.put _ (some 96) _) _
  simp only [Act.put, List.setIfInBounds_toArray, List.set_cons_zero, List.set_cons_succ]
  refine wpAnyH_take (i := 3) rfl (by kernel_rfl) (by kernel_rfl) (by kernel_rfl) (fun _ _ _ h => h) (yieldsIf_load1 (by rfl) _ _ rfl _ _ rfl oneN _ (fun w hSw => by rw [(X5.bF.ext (hW0.trans hSw)).cell (by omega), hsd])) HH.out ?_
  change wpAnyH _ _ _ _ _ _ _ (Act.put _ (some 97) _) _
  simp only [Act.put, List.setIfInBounds_toArray, List.set_cons_zero, List.set_cons_succ]
  refine wpAnyH_take (i := 4) (v := ?_) rfl (by kernel_rfl) (by kernel_rfl) (by kernel_rfl) (fun _ _ _ h => h) (Or.inl ⟨by rfl, ?_⟩) HH.out ?_
  rotate_left
  · intro w hSw; go_simp; try with_reducible rfl
  change wpAnyH _ _ _ _ _ _ _ (Act.put _ (some 98) _) _
  simp only [Act.put, List.setIfInBounds_toArray, List.set_cons_zero, List.set_cons_succ]
  refine wpAnyH_take (i := 5) (v := ?_) rfl (by kernel_rfl) (by kernel_rfl) (by kernel_rfl) (fun _ _ _ h => h) (Or.inl ⟨by rfl, ?_⟩) HH.out ?_
  rotate_left
  · intro w hSw; go_simp; try with_reducible rfl
  change wpAnyH _ _ _ _ _ _ _ (Act.put _ (some 99) _) _
  simp only [Act.put, List.setIfInBounds_toArray, List.set_cons_zero, List.set_cons_succ]
  refine wpAnyH_take (i := 6) (v := ?_) rfl (by kernel_rfl) (by kernel_rfl) (by kernel_rfl) (fun _ _ _ h => h) (Or.inl ⟨by rfl, ?_⟩) HH.out ?_
  rotate_left
  · intro w hSw; go_simp; try with_reducible rfl
  change wpAnyH _ _ _ _ _ _ _ (Act.put _ (some 100) _) _
  simp only [Act.put, List.setIfInBounds_toArray, List.set_cons_zero, List.set_cons_succ]
  refine wpAnyH_take (i := 7) rfl (by kernel_rfl) (by kernel_rfl) (by kernel_rfl) (fun _ _ _ h => h) (yieldsIf_load1 (by rfl) _ _ rfl _ _ rfl oneN _ (fun w hSw => by rw [(X5.bF.ext (hW0.trans hSw)).cell (by omega), hsd])) HH.out ?_
  change wpAnyH _ _ _ _ _ _ _ (Act.put _ (some 101) _) _
  simp only [Act.put, List.setIfInBounds_toArray, List.set_cons_zero, List.set_cons_succ]
  refine wpAnyH_take (i := 8) (v := ?_) rfl (by kernel_rfl) (by kernel_rfl) (by kernel_rfl) (fun _ _ _ h => h) (Or.inl ⟨by rfl, ?_⟩) HH.out ?_
  rotate_left
  · intro w hSw; go_simp; try with_reducible rfl
  change wpAnyH _ _ _ _ _ _ _ (Act.put _ (some 102) _) _
  simp only [Act.put, List.setIfInBounds_toArray, List.set_cons_zero, List.set_cons_succ]
  refine wpAnyH_take (i := 9) (v := ?_) rfl (by kernel_rfl) (by kernel_rfl) (by kernel_rfl) (fun _ _ _ h => h) (Or.inl ⟨by rfl, ?_⟩) HH.out ?_
  rotate_left
  · intro w hSw; go_simp; try with_reducible rfl
  change wpAnyH _ _ _ _ _ _ _ (Act.put _ (some 103) _) _
  simp only [Act.put, List.setIfInBounds_toArray, List.set_cons_zero, List.set_cons_succ]
  refine wpAnyH_take (i := 10) (v := ?_) rfl (by kernel_rfl) (by kernel_rfl) (by kernel_rfl) (fun _ _ _ h => h) (Or.inl ⟨by rfl, ?_⟩) HH.out ?_
  rotate_left
  · intro w hSw; go_simp; try with_reducible rfl
  change wpAnyH _ _ _ _ _ _ _ (Act.put _ (some 104) _) _
  simp only [Act.put, List.setIfInBounds_toArray, List.set_cons_zero, List.set_cons_succ]
  refine wpAnyH_take (i := 11) (v := ?_) rfl (by kernel_rfl) (by kernel_rfl) (by kernel_rfl) (fun _ _ _ h => h) (Or.inl ⟨by rfl, ?_⟩) HH.out ?_
  rotate_left
  · intro w hSw; go_simp; try with_reducible rfl
  change wpAnyH _ _ _ _ _ _ _ (Act.put _ (some 105) _) _
  simp only [Act.put, List.setIfInBounds_toArray, List.set_cons_zero, List.set_cons_succ]
  refine wpAnyH_take (i := 12) rfl (by kernel_rfl) (by kernel_rfl) (by kernel_rfl) (fun _ _ _ h => h) (yieldsIf_load1 (by rfl) _ _ rfl _ _ rfl oneN _ (fun w hSw => by rw [(X5.bF.ext (hW0.trans hSw)).cell (by omega), hsd])) HH.out ?_
  change wpAnyH _ _ _ _ _ _ _ (Act.put _ (some 106) _) _
  simp only [Act.put, List.setIfInBounds_toArray, List.set_cons_zero, List.set_cons_succ]
  refine wpAnyH_take (i := 13) (v := ?_) rfl (by kernel_rfl) (by kernel_rfl) (by kernel_rfl) (fun _ _ _ h => h) (Or.inl ⟨by rfl, ?_⟩) HH.out ?_
  rotate_left
  · intro w hSw; go_simp; try with_reducible rfl
  change wpAnyH _ _ _ _ _ _ _ (Act.put _ (some 107) _) _
  simp only [Act.put, List.setIfInBounds_toArray, List.set_cons_zero, List.set_cons_succ]
  refine wpAnyH_take (i := 14) (v := ?_) rfl (by kernel_rfl) (by kernel_rfl) (by kernel_rfl) (fun _ _ _ h => h) (Or.inl ⟨by rfl, ?_⟩) HH.out ?_
  rotate_left
  · intro w hSw; go_simp; try with_reducible rfl
  change wpAnyH _ _ _ _ _ _ _ (Act.put _ (some 108) _) _
  simp only [Act.put, List.setIfInBounds_toArray, List.set_cons_zero, List.set_cons_succ]
  refine wpAnyH_take (i := 15) (v := ?_) rfl (by kernel_rfl) (by kernel_rfl) (by kernel_rfl) (fun _ _ _ h => h) (Or.inl ⟨by rfl, ?_⟩) HH.out ?_
  rotate_left
  · intro w hSw; go_simp; try with_reducible rfl
  change wpAnyH _ _ _ _ _ _ _ (Act.put _ (some 109) _) _
  simp only [Act.put, List.setIfInBounds_toArray, List.set_cons_zero, List.set_cons_succ]
  refine wpAnyH_take (i := 16) (v := ?_) rfl (by kernel_rfl) (by kernel_rfl) (by kernel_rfl) (fun _ _ _ h => h) (Or.inl ⟨by rfl, ?_⟩) HH.out ?_
  rotate_left
  · intro w hSw; go_simp; try with_reducible rfl
  change wpAnyH _ _ _ _ _ _ _ (Act.put _ (some 110) _) _
  simp only [Act.put, List.setIfInBounds_toArray, List.set_cons_zero, List.set_cons_succ]
  refine wpAnyH_take (i := 17) (v := ?_) rfl (by kernel_rfl) (by kernel_rfl) (by kernel_rfl) (fun _ _ _ h => h) (Or.inl ⟨by rfl, ?_⟩) HH.out ?_
  rotate_left
  · intro w hSw; go_simp; try with_reducible rfl
  change wpAnyH _ _ _ _ _ _ _ (Act.put _ (some 111) _) _
  simp only [Act.put, List.setIfInBounds_toArray, List.set_cons_zero, List.set_cons_succ]
  refine wpAnyH_take (i := 18) (v := ?_) rfl (by kernel_rfl) (by kernel_rfl) (by kernel_rfl) (fun _ _ _ h => h) (Or.inl ⟨by rfl, ?_⟩) HH.out ?_
  rotate_left
  · intro w hSw; go_simp; try with_reducible rfl
  change wpAnyH _ _ _ _ _ _ _ (Act.put _ (some 112) _) _
  simp only [Act.put, List.setIfInBounds_toArray, List.set_cons_zero, List.set_cons_succ]
  refine wpAnyH_take (i := 19) rfl (by kernel_rfl) (by kernel_rfl) (by kernel_rfl) (fun _ _ _ h => h) (yieldsIf_load1 (by rfl) _ _ rfl _ _ rfl onet96o _ (fun w hSw => ((bA5.ext (hW0.trans hSw)).cell htl).trans (congrArg some hv1.out))) HH.out ?_
  change wpAnyH _ _ _ _ _ _ _ (Act.put _ (some 113) _) _
  simp only [Act.put, List.setIfInBounds_toArray, List.set_cons_zero, List.set_cons_succ]
  refine wpAnyH_ready (rs := [20]) (by kernel_rfl) (by simp) ?_
  refine AllReadyH.cons rfl (fun K hK => ?_) AllReadyH.nil
  refine step_any rfl (op_build1v rfl rfl rfl ?_)
  rintro B8 W8 e8 hc8 g8
  refine hK.out _ _ ?_ (fun hHeld => ?_)
  · exact HH.out.trans e8
  clear hK K HH
  have HH : Hid (Ext W0 _) := hHeld
  clear hHeld
  change wpAnyH _ _ _ _ _ _ _ (Act.put _ (some 114) _) _
  simp only [Act.put, List.setIfInBounds_toArray, List.set_cons_zero, List.set_cons_succ]
  refine wpAnyH_ready (rs := [21]) (by kernel_rfl) (by simp) ?_
  refine AllReadyH.cons rfl (fun K hK => ?_) AllReadyH.nil
  refine step_any rfl (op_pushF rfl hst5 (show Ext _ W8 by (repeat (first | with_reducible exact Ext.refl _ | with_reducible assumption | refine Ext.trans ?_ (by with_reducible assumption) | refine Ext.alloc ?_ _ _ | refine Ext.drew ?_ | refine Ext.drewN ?_ _))) (k := f.stack.length) (by rw [List.length_reverse]; exact Nat.le_refl _) (by omega) ⟨_, _, hsd⟩ rfl rfl rfl hc8 hn5 ?_)
  rintro v8 W9 hv8 e9
  refine hK.out _ _ ?_ (fun hHeld => ?_)
  · exact HH.out.trans e9
  clear hK K HH
  have HH : Hid (Ext W0 _) := hHeld
  clear hHeld
  change wpAnyH _ _ _ _ _ _ _ (Act.put _ (some 115) _) _
  simp only [Act.put, List.setIfInBounds_toArray, List.set_cons_zero, List.set_cons_succ]
  refine wpAnyH_take (i := 22) (v := ?_) rfl (by kernel_rfl) (by kernel_rfl) (by kernel_rfl) (fun _ _ _ h => h) (Or.inl ⟨by rfl, ?_⟩) HH.out ?_
  rotate_left
  · intro w hSw; go_simp; try with_reducible rfl
  change wpAnyH _ _ _ _ _ _ _ (Act.put _ (some 12) _) _
  simp only [Act.put, List.setIfInBounds_toArray, List.set_cons_zero, List.set_cons_succ]
  refine wpAnyH_done (by kernel_rfl) ?_ _
  have E9 := hW0.trans HH.out
  have X6 := X5.ext E9
  have hr7 := hr5.ext E9
  have hv8' := grown_numS hv8 X5.small E9
  have HT : f.stack.reverse.take f.stack.length ++ [f.arg t] = (f.settle 0 [f.arg (T - 1)] 1).stack.reverse := by
    rw [ht.out]; unfold AFrame.settle
    simp [List.take_of_length_le]
  rw [HT] at hv8'
  clear HH hW0 hv8 HT
  have kp := X6.ok
  have hok1 : FOK { f with stack := (f.settle 0 [f.arg (T - 1)] 1).stack } := ⟨kp.kind, kp.pre, kp.pc, hok'.sLen, hok'.sLt, kp.gas, kp.self, kp.caller, kp.value, kp.code, kp.mLen, kp.m32, kp.oLt, kp.lLt, kp.out⟩
  go_upto_region 26 with ((with_reducible (refine Veil.out ?_; apply wl_store1 oneN)); (case hx => rfl); (case hy => rfl); (case h1 => exact nums_one8 hv8'); (case hB => exact X6.bF); (case ho => omega); rintro W2 hB2 hm2')
  have X8 := X6.putStack hv8' hm2' hB2 hok1
  have hr8 := hr7.keep hm2' X6.hsF
  go_wp2_with ((with_reducible (refine Veil.out ?_; apply wl_store1 onet96o)); (case hx => rfl); (case hy => rfl); (case h1 => exact hr8.one); (case hB => exact X8.bF); (case ho => omega); rintro W7 hB9 hm9)
  go_end0
  have hfin : f.settle 0 [f.arg (T - 1)] 1 = { f with stack := (f.settle 0 [f.arg (T - 1)] 1).stack, pc := f.pc + (1 + im) } := by unfold AFrame.settle; rw [him0.out]
  rw [hfin] at hok' ⊢
  refine ⟨rfl, _, X8.putPc hr8 hm9 hB9 hok', ?_, fun i h8 h3 => by rw [updv_ne _ _ h3, updv_ne _ _ h8]⟩
  exact ((E5.trans E9).mod _).trans (hm2'.trans hm9)
set_option maxRecDepth 100000 in
set_option maxHeartbeats 6400000 in
theorem xPlainS (hX : YX kk O TM TL w Y F q n tF c d W start st f) (o : Nat) (ho : o < 256) (h1 : 144 ≤ o) (h2 : o ≤ 159) (hTo : takesA o = o - 142) (hT : takesA o ≤ f.stack.length) (hok' : FOK { f with stack := f.arg (takesA o - 1) :: (f.stack.drop 1).take (takesA o - 2) ++ f.arg 0 :: f.stack.drop (takesA o), pc := f.pc + 1 }) : Calls Hvah.prog 76 #[.pointer (some ⟨Y, 0, none⟩), .pointer (some ⟨F, q, none⟩), .int .u8 o] w fun e w' => e = .returned (.tuple #[]) ∧ ∃ d', YX kk O TM TL w' Y F q n tF c d' W start st { f with stack := f.arg (takesA o - 1) :: (f.stack.drop 1).take (takesA o - 2) ++ f.arg 0 :: f.stack.drop (takesA o), pc := f.pc + 1 } ∧ Mod (· = F) w w' ∧ (∀ i, i ≠ q + 8 → i ≠ q + 3 → d' i = d i) := by
  have hO := hX.small
  have hq := hX.hq
  have hYl := hX.bY.lt
  have hsl := hX.ok.sLen
  have hsli : (f.stack.length : Int) ≤ 64 := by omega
  have hdp : dl f.pc ≤ 2000 := Nat.le_trans (dl_u64 _ (by have := hX.ok.pc; omega)) (by decide)
  obtain ⟨os, cs, hsd, hs1⟩ := NumS.slice hX.fc.stack
  rw [List.length_reverse] at hsd
  have hsc : f.stack.length ≤ cs := by
    obtain ⟨o2, cap2, h1, h2, _⟩ := hX.fc.stack
    rw [hsd] at h1
    injection h1 with _ _ h1
    rw [h1]; simpa using h2
  have hIm : immA o ≤ 32 := by unfold immA; split <;> omega
  have HAr := yArity o ho
  have HIm := fun W1 => oImm o W1 ho
  obtain ⟨im, him2⟩ : ∃ x, Hid (immA o = x) := ⟨_, rfl⟩
  obtain ⟨T, hTT⟩ : ∃ x, Hid (takesA o = x) := ⟨_, rfl⟩
  have HTT : Hid (T = T) := rfl
  rw [him2.out] at HIm hIm
  have hTp : 2 ≤ takesA o := by rw [hTo]; omega
  rw [hTT.out] at hT HAr hok' hTp ⊢
  obtain ⟨gvv, hgvv⟩ : ∃ x, Hid (givesA o = x) := ⟨_, rfl⟩
  rw [hgvv.out] at HAr
  obtain ⟨args, hargs⟩ : ∃ x, Hid ((List.range T).map f.arg = x) := ⟨_, rfl⟩
  have hal : args.length = T := by rw [← hargs.out]; simp
  have hT64 : T ≤ 64 := Nat.le_trans hT hsl
  have n86 : ¬ (o : Int) = 86 := by omega
  have n87 : ¬ (o : Int) = 87 := by omega
  have p128 : (128 : Int) ≤ (o : Int) := by omega
  have p143 : ¬ (o : Int) ≤ 143 := by omega
  have p144 : (144 : Int) ≤ (o : Int) := by omega
  have p159 : (o : Int) ≤ 159 := by omega
  have m86 : ((o : Int) == 86) = false := by simp; omega
  have m87 : ((o : Int) == 87) = false := by simp; omega
  have him0 : Hid (im = 0) := by rw [← him2.out]; unfold immA; rw [if_neg (by omega)]; exact rfl
  clear hs1 h1 h2 hTo
  go_enter Hvah.func76, Hvah.ntmps76
  go_upto_region 1 with (go_at_call 146; refine (HAr _).mono ?_; rintro e w1 ⟨rfl, hww⟩; replace hww := hww.symm; subst hww)
  go_upto_region 2 with ((with_reducible (refine Veil.out ?_; apply wl_makeR under145 el96 T)); (case hl => rfl); (case hc => rfl); (case hn => omega); rintro B W1 e1 b1 g1)
  rw [Nat.mul_one] at b1
  have hBY : ¬ B = Y := by omega
  have hLE : ∀ W', Mod (· = B) W1 W' → Ext w W' := fun W' hm => Ext.trans_mod e1 hm (fun q hq => by have hq2 : q = B := hq; rw [hq2]; exact g1)
  have hXw : ∀ W', Mod (· = B) W1 W' → YX kk (Wd O B) TM TL W' Y F q n tF c d W start st f := fun W' hm => hX.widen0 g1 (hLE W' hm) (Nat.lt_of_lt_of_le b1.lt hm.size)
  go_upto_block 0 with (fail)
  go_cut [] (fun wx => ∃ cA, Blk wx B T 109 cA ∧ Hid (∀ j, j < T → NV (Wd O B) wx (cA j) (f.arg j)) ∧ Mod (· = B) W1 wx)
  case first =>
    go_upto_region 3 with (fail)
    try simp only [Act.put]
    go_loopw [24] (fun iv wr => ∃ (i : Nat) (cA : Nat → Value), iv = .int .i64 (i : Nat) ∧ i ≤ T ∧ Blk wr B T 109 cA ∧ Hid (∀ j, j < i → NV (Wd O B) wr (cA j) (f.arg j)) ∧ Mod (· = B) W1 wr) (fun iv _ => T - (intOf iv).toNat)
    case atStart => exact ⟨0, _, rfl, Nat.zero_le _, b1, (fun j hj => absurd hj (Nat.not_lt_zero _) : ∀ j, j < 0 → _), Mod.refl _ _⟩
    case round =>
      obtain ⟨i, cA, rfl, hi, bA, hdone, hm⟩ := hrel
      rcases Nat.lt_or_ge i T with hlt | hge
      · have z1 : (i : Int) < (T : Int) := by omega
        have z2 : IntKind.i64.wrap ((i : Int) + 1) = ((i + 1 : Nat) : Int) := by rw [IntKind.wrap_i64]; omega
        have HXA := fun W' (hW : Ext wr W') => xArg (((hXw _ hm)).ext hW) i (by omega)
        go_upto_region 6 with (first | (go_at_call 73; refine (HXA _ (by (repeat (first | with_reducible exact Ext.refl _ | with_reducible assumption | refine Ext.trans ?_ (by with_reducible assumption) | refine Ext.alloc ?_ _ _ | refine Ext.drew ?_ | refine Ext.drewN ?_ _)))).mono ?_; rintro e w2 ⟨r2, rfl, hr2, he2⟩) | ((with_reducible (refine Veil.out ?_; apply wl_storeC onet96o)); (case hx => rfl); (case hy => rfl); (case h1 => exact hr2.one); (case hB => exact bA.ext he2); (case hi => exact hlt); rintro W5 b5 m5))
        go_wp2
        go_roundw
        case rel =>
          refine ⟨i + 1, _, rfl, hlt, b5, (fun j hj => ?_ : ∀ j, j < i + 1 → NV (Wd O B) W5 (updv cA i r2 j) (f.arg j)), (hm.trans (he2.mod _)).trans m5⟩
          by_cases e : j = i
          · subst e; rw [updv_same]; exact hr2.keep m5 (fun b hb q => hb (Or.inr q))
          · rw [updv_ne _ _ e]; exact (((hdone.out j (by omega)).ext he2)).keep m5 (fun b hb q => hb (Or.inr q))
        case measure => simp [intOf]; omega
      · have z1 : ¬ (i : Int) < (T : Int) := by omega
        have : i = T := by omega
        subst this
        go_wp2
        go_meet
        case rel => exact ⟨cA, bA, hdone, hm⟩
  case rest =>
  obtain ⟨cA, bA, hdone, hm⟩ := hcut
  obtain ⟨W3, eW3⟩ : ∃ X, X = wc := ⟨_, rfl⟩
  subst eW3
  have E3 := hLE _ hm
  have HN : ∀ W', Ext W3 W' → NumL O W' (.slice (some ⟨B, 0, none⟩) T T) args := fun W' hW => Or.inr ⟨B, T, cA, by rw [hal], by rw [hal]; exact Nat.le_refl _, by omega, by rw [Nat.mul_one]; exact bA.ext hW, fun hb => by have := hO B hb; omega, fun i hi => by
    have hi2 : i < T := by rw [← hal]; exact hi
    have e : args[i] = f.arg i := by
      have : ((List.range T).map f.arg)[i]'(by simpa using hi2) = f.arg i := by simp
      rw [← this]; congr 1; exact hargs.out.symm
    rw [Nat.mul_one, e]
    exact ((hdone.out i hi2).narrow).ext hW⟩
  have hX3 := hX.ext E3
  have HAg : Hid (∀ j, j < T → NV O W3 (cA j) (f.arg j)) := fun j hj => (hdone.out j hj).narrow
  have hst3 := hX3.fc.stack
  have hO3 := hX3.small
  clear hdone hargs hXw hLE hm b1 g1 HAr
  have iw : IntKind.u64.wrap (1 + (im : Int)) = ((1 + im : Nat) : Int) := by rw [IntKind.wrap_u64]; omega
  have iw2 : IntKind.u64.wrap (im : Int) = (im : Int) := by rw [IntKind.wrap_u64]; omega
  go_upto_region 7 with (fail)
  refine w_ext ?_
  rintro W0 hW0
  refine wp_region_held_drew (S := fun w' => Ext W0 w') (by kernel_rfl) (Ext.refl _).drew (fun hHeld => ?_)
  have HH : Hid (Ext W0 _) := hHeld
  clear hHeld
  refine wpAnyH_take (i := 0) (v := ?_) rfl (by kernel_rfl) (by kernel_rfl) (by kernel_rfl) (fun _ _ _ h => h) (Or.inl ⟨by rfl, ?_⟩) HH.out ?_
  rotate_left
  · intro w hSw; go_simp; try with_reducible rfl
  change wpAnyH _ _ _ _ _ _ _ (Act.put _ (some 34) _) _
  simp only [Act.put, List.setIfInBounds_toArray, List.set_cons_zero, List.set_cons_succ]
  refine wpAnyH_take (i := 1) (v := ?_) rfl (by kernel_rfl) (by kernel_rfl) (by kernel_rfl) (fun _ _ _ h => h) (Or.inl ⟨by rfl, ?_⟩) HH.out ?_
  rotate_left
  · intro w hSw; go_simp; try with_reducible rfl
  change wpAnyH _ _ _ _ _ _ _ (Act.put _ (some 35) _) _
  simp only [Act.put, List.setIfInBounds_toArray, List.set_cons_zero, List.set_cons_succ]
  refine wpAnyH_take (i := 2) (v := ?_) rfl (by kernel_rfl) (by kernel_rfl) (by kernel_rfl) (fun _ _ _ h => h) (Or.inl ⟨by rfl, ?_⟩) HH.out ?_
  rotate_left
  · intro w hSw; go_simp; try with_reducible rfl
  change wpAnyH _ _ _ _ _ _ _ (Act.put _ (some 36) _) _
  simp only [Act.put, List.setIfInBounds_toArray, List.set_cons_zero, List.set_cons_succ]
  refine wpAnyH_take (i := 3) rfl (by kernel_rfl) (by kernel_rfl) (by kernel_rfl) (fun _ _ _ h => h) (yieldsIf_load1 (by rfl) _ _ rfl _ _ rfl onet96o _ (fun w hSw => (hX3.bF.ext (hW0.trans hSw)).cell (by omega))) HH.out ?_
  change wpAnyH _ _ _ _ _ _ _ (Act.put _ (some 37) _) _
  simp only [Act.put, List.setIfInBounds_toArray, List.set_cons_zero, List.set_cons_succ]
  refine wpAnyH_take (i := 4) (v := ?_) rfl (by kernel_rfl) (by kernel_rfl) (by kernel_rfl) (fun _ _ _ h => h) (Or.inl ⟨by rfl, ?_⟩) HH.out ?_
  rotate_left
  · intro w hSw; go_simp; try with_reducible rfl
  change wpAnyH _ _ _ _ _ _ _ (Act.put _ (some 38) _) _
  simp only [Act.put, List.setIfInBounds_toArray, List.set_cons_zero, List.set_cons_succ]
  refine wpAnyH_ready (rs := [5]) (by kernel_rfl) (by simp) ?_
  refine AllReadyH.cons rfl (fun K hK => ?_) AllReadyH.nil
  go_simp
  (go_at_call 160; refine (HIm _).mono ?_; rintro e w1 ⟨rfl, hww⟩; replace hww := hww.symm; subst hww)
  refine hK.out _ _ ?_ (fun hHeld => ?_)
  · first | exact HH.out.trans hmY | exact HH.out.trans he | exact HH.out
  clear hK K HH
  have HH : Hid (Ext W0 _) := hHeld
  clear hHeld
  refine wpAnyH_take (i := 6) (v := ?_) rfl (by kernel_rfl) (by kernel_rfl) (by kernel_rfl) (fun _ _ _ h => h) (Or.inl ⟨by rfl, ?_⟩) HH.out ?_
  rotate_left
  · intro w hSw; go_simp; try with_reducible rfl
  change wpAnyH _ _ _ _ _ _ _ (Act.put _ (some 40) _) _
  simp only [Act.put, List.setIfInBounds_toArray, List.set_cons_zero, List.set_cons_succ]
  refine wpAnyH_take (i := 7) (v := ?_) rfl (by kernel_rfl) (by kernel_rfl) (by kernel_rfl) (fun _ _ _ h => h) (Or.inl ⟨by rfl, ?_⟩) HH.out ?_
  rotate_left
  · intro w hSw; go_simp; try with_reducible rfl
  change wpAnyH _ _ _ _ _ _ _ (Act.put _ (some 41) _) _
  simp only [Act.put, List.setIfInBounds_toArray, List.set_cons_zero, List.set_cons_succ]
  refine wpAnyH_ready (rs := [8]) (by kernel_rfl) (by simp) ?_
  refine AllReadyH.cons rfl (fun K hK => ?_) AllReadyH.nil
  go_simp
  (go_at_call 42; refine (nNum O (1 + im) _ (hX3.small.ext (by (repeat (first | with_reducible exact Ext.refl _ | with_reducible assumption | refine Ext.trans ?_ (by with_reducible assumption) | refine Ext.alloc ?_ _ _ | refine Ext.drew ?_ | refine Ext.drewN ?_ _)))) (by omega)).mono ?_; rintro e w4 ⟨r1, rfl, hr1, he⟩)
  refine hK.out _ _ ?_ (fun hHeld => ?_)
  · first | exact HH.out.trans hmY | exact HH.out.trans he | exact HH.out
  clear hK K HH
  have HH : Hid (Ext W0 _) := hHeld
  clear hHeld
  refine wpAnyH_ready (rs := [9]) (by kernel_rfl) (by simp) ?_
  refine AllReadyH.cons rfl (fun K hK => ?_) AllReadyH.nil
  go_simp
  (go_at_call 44; refine (nAdd O _ _ _ _ _ (hX3.small.ext (by (repeat (first | with_reducible exact Ext.refl _ | with_reducible assumption | refine Ext.trans ?_ (by with_reducible assumption) | refine Ext.alloc ?_ _ _ | refine Ext.drew ?_ | refine Ext.drewN ?_ _)))) (hX3.fc.pc.ext (by (repeat (first | with_reducible exact Ext.refl _ | with_reducible assumption | refine Ext.trans ?_ (by with_reducible assumption) | refine Ext.alloc ?_ _ _ | refine Ext.drew ?_ | refine Ext.drewN ?_ _)))) (hr1.ext (by (repeat (first | with_reducible exact Ext.refl _ | with_reducible assumption | refine Ext.trans ?_ (by with_reducible assumption) | refine Ext.alloc ?_ _ _ | refine Ext.drew ?_ | refine Ext.drewN ?_ _)))) hdp (Nat.le_trans (dl_u64 _ (by omega)) (by decide))).mono ?_; rintro e w5 ⟨r2, rfl, hr2, he⟩)
  refine hK.out _ _ ?_ (fun hHeld => ?_)
  · first | exact HH.out.trans hmY | exact HH.out.trans he | exact HH.out
  clear hK K HH
  have HH : Hid (Ext W0 _) := hHeld
  clear hHeld
  refine wpAnyH_take (i := 10) (v := ?_) rfl (by kernel_rfl) (by kernel_rfl) (by kernel_rfl) (fun _ _ _ h => h) (Or.inl ⟨by rfl, ?_⟩) HH.out ?_
  rotate_left
  · intro w hSw; go_simp; try with_reducible rfl
  change wpAnyH _ _ _ _ _ _ _ (Act.put _ (some 11) _) _
  simp only [Act.put, List.setIfInBounds_toArray, List.set_cons_zero, List.set_cons_succ]
  refine wpAnyH_done (by kernel_rfl) ?_ _
  have X4 := hX3.ext (hW0.trans HH.out)
  have hr3 := hr2
  have HN4 := fun W' (hW : Ext _ W') => HN W' ((hW0.trans HH.out).trans hW)
  have E4 := E3.trans (hW0.trans HH.out)
  have EE4 := hW0.trans HH.out
  clear HH hW0 HN hr1 hX3
  have i1 : (f.stack.length : Int) - (T : Int) = ((f.stack.length - T : Nat) : Int) := by omega
  have i3 : ((f.stack.length - T : Nat) : Int) ≤ 64 := by omega
  have i4 : ((f.stack.length - T : Nat) : Int) ≤ cs := by omega
  obtain ⟨m, hm⟩ : ∃ m, Hid (f.stack.length - T = m) := ⟨_, rfl⟩
  have hm2 : m ≤ f.stack.length := by have := hm.out; omega
  rw [hm.out] at i1 i3 i4
  have iwm : IntKind.i64.wrap ((f.stack.length : Int) - (T : Int)) = (m : Int) := by rw [i1, IntKind.wrap_i64]; omega
  have iwm2 : IntKind.i64.wrap (m : Int) = (m : Int) := by rw [IntKind.wrap_i64]; omega
  have i5 : ¬ ((m : Int) < 0) := by omega
  have i7 : (0 : Int) ≤ (m : Int) := by omega
  have i6 : m ≤ cs := by omega
  go_upto_region 8 with (fail)
  refine w_ext ?_
  rintro W0 hW0
  refine wp_region_held_drew (S := fun w' => Ext W0 w') (by kernel_rfl) (Ext.refl _).drew (fun hHeld => ?_)
  have HH : Hid (Ext W0 _) := hHeld
  clear hHeld
  refine wpAnyH_take (i := 0) (v := ?_) rfl (by kernel_rfl) (by kernel_rfl) (by kernel_rfl) (fun _ _ _ h => h) (Or.inl ⟨by rfl, ?_⟩) HH.out ?_
  rotate_left
  · intro w hSw; go_simp; try with_reducible rfl
  change wpAnyH _ _ _ _ _ _ _ (Act.put _ (some 44) _) _
  simp only [Act.put, List.setIfInBounds_toArray, List.set_cons_zero, List.set_cons_succ]
  refine wpAnyH_take (i := 1) (v := ?_) rfl (by kernel_rfl) (by kernel_rfl) (by kernel_rfl) (fun _ _ _ h => h) (Or.inl ⟨by rfl, ?_⟩) HH.out ?_
  rotate_left
  · intro w hSw; go_simp; try with_reducible rfl
  change wpAnyH _ _ _ _ _ _ _ (Act.put _ (some 45) _) _
  simp only [Act.put, List.setIfInBounds_toArray, List.set_cons_zero, List.set_cons_succ]
  refine wpAnyH_take (i := 2) (v := ?_) rfl (by kernel_rfl) (by kernel_rfl) (by kernel_rfl) (fun _ _ _ h => h) (Or.inl ⟨by rfl, ?_⟩) HH.out ?_
  rotate_left
  · intro w hSw; go_simp; try with_reducible rfl
  change wpAnyH _ _ _ _ _ _ _ (Act.put _ (some 46) _) _
  simp only [Act.put, List.setIfInBounds_toArray, List.set_cons_zero, List.set_cons_succ]
  refine wpAnyH_take (i := 3) rfl (by kernel_rfl) (by kernel_rfl) (by kernel_rfl) (fun _ _ _ h => h) (yieldsIf_load1 (by rfl) _ _ rfl _ _ rfl oneN _ (fun w hSw => by rw [(X4.bF.ext (hW0.trans hSw)).cell (by omega), hsd])) HH.out ?_
  change wpAnyH _ _ _ _ _ _ _ (Act.put _ (some 47) _) _
  simp only [Act.put, List.setIfInBounds_toArray, List.set_cons_zero, List.set_cons_succ]
  refine wpAnyH_take (i := 4) (v := ?_) rfl (by kernel_rfl) (by kernel_rfl) (by kernel_rfl) (fun _ _ _ h => h) (Or.inl ⟨by rfl, ?_⟩) HH.out ?_
  rotate_left
  · intro w hSw; go_simp; try with_reducible rfl
  change wpAnyH _ _ _ _ _ _ _ (Act.put _ (some 48) _) _
  simp only [Act.put, List.setIfInBounds_toArray, List.set_cons_zero, List.set_cons_succ]
  refine wpAnyH_take (i := 5) (v := ?_) rfl (by kernel_rfl) (by kernel_rfl) (by kernel_rfl) (fun _ _ _ h => h) (Or.inl ⟨by rfl, ?_⟩) HH.out ?_
  rotate_left
  · intro w hSw; go_simp; try with_reducible rfl
  change wpAnyH _ _ _ _ _ _ _ (Act.put _ (some 49) _) _
  simp only [Act.put, List.setIfInBounds_toArray, List.set_cons_zero, List.set_cons_succ]
  refine wpAnyH_take (i := 6) (v := ?_) rfl (by kernel_rfl) (by kernel_rfl) (by kernel_rfl) (fun _ _ _ h => h) (Or.inl ⟨by rfl, ?_⟩) HH.out ?_
  rotate_left
  · intro w hSw; go_simp; try with_reducible rfl
  change wpAnyH _ _ _ _ _ _ _ (Act.put _ (some 50) _) _
  simp only [Act.put, List.setIfInBounds_toArray, List.set_cons_zero, List.set_cons_succ]
  refine wpAnyH_take (i := 7) rfl (by kernel_rfl) (by kernel_rfl) (by kernel_rfl) (fun _ _ _ h => h) (yieldsIf_load1 (by rfl) _ _ rfl _ _ rfl oneN _ (fun w hSw => by rw [(X4.bF.ext (hW0.trans hSw)).cell (by omega), hsd])) HH.out ?_
  change wpAnyH _ _ _ _ _ _ _ (Act.put _ (some 51) _) _
  simp only [Act.put, List.setIfInBounds_toArray, List.set_cons_zero, List.set_cons_succ]
  refine wpAnyH_take (i := 8) (v := ?_) rfl (by kernel_rfl) (by kernel_rfl) (by kernel_rfl) (fun _ _ _ h => h) (Or.inl ⟨by rfl, ?_⟩) HH.out ?_
  rotate_left
  · intro w hSw; go_simp; try with_reducible rfl
  change wpAnyH _ _ _ _ _ _ _ (Act.put _ (some 52) _) _
  simp only [Act.put, List.setIfInBounds_toArray, List.set_cons_zero, List.set_cons_succ]
  refine wpAnyH_take (i := 9) (v := ?_) rfl (by kernel_rfl) (by kernel_rfl) (by kernel_rfl) (fun _ _ _ h => h) (Or.inl ⟨by rfl, ?_⟩) HH.out ?_
  rotate_left
  · intro w hSw; go_simp; try with_reducible rfl
  change wpAnyH _ _ _ _ _ _ _ (Act.put _ (some 53) _) _
  simp only [Act.put, List.setIfInBounds_toArray, List.set_cons_zero, List.set_cons_succ]
  refine wpAnyH_take (i := 10) (v := ?_) rfl (by kernel_rfl) (by kernel_rfl) (by kernel_rfl) (fun _ _ _ h => h) (Or.inl ⟨by rfl, ?_⟩) HH.out ?_
  rotate_left
  · intro w hSw; go_simp; try with_reducible rfl
  change wpAnyH _ _ _ _ _ _ _ (Act.put _ (some 54) _) _
  simp only [Act.put, List.setIfInBounds_toArray, List.set_cons_zero, List.set_cons_succ]
  refine wpAnyH_take (i := 11) (v := ?_) rfl (by kernel_rfl) (by kernel_rfl) (by kernel_rfl) (fun _ _ _ h => h) (Or.inl ⟨by rfl, ?_⟩) HH.out ?_
  rotate_left
  · intro w hSw; go_simp; try with_reducible rfl
  change wpAnyH _ _ _ _ _ _ _ (Act.put _ (some 55) _) _
  simp only [Act.put, List.setIfInBounds_toArray, List.set_cons_zero, List.set_cons_succ]
  refine wpAnyH_take (i := 12) (v := ?_) rfl (by kernel_rfl) (by kernel_rfl) (by kernel_rfl) (fun _ _ _ h => h) (Or.inl ⟨by rfl, ?_⟩) HH.out ?_
  rotate_left
  · intro w hSw; go_simp; try with_reducible rfl
  change wpAnyH _ _ _ _ _ _ _ (Act.put _ (some 56) _) _
  simp only [Act.put, List.setIfInBounds_toArray, List.set_cons_zero, List.set_cons_succ]
  refine wpAnyH_take (i := 13) (v := ?_) rfl (by kernel_rfl) (by kernel_rfl) (by kernel_rfl) (fun _ _ _ h => h) (Or.inl ⟨by rfl, ?_⟩) HH.out ?_
  rotate_left
  · intro w hSw; go_simp; try with_reducible rfl
  change wpAnyH _ _ _ _ _ _ _ (Act.put _ (some 57) _) _
  simp only [Act.put, List.setIfInBounds_toArray, List.set_cons_zero, List.set_cons_succ]
  refine wpAnyH_take (i := 14) rfl (by kernel_rfl) (by kernel_rfl) (by kernel_rfl) (fun _ _ _ h => h) (yieldsIf_load1 (by rfl) _ _ rfl _ _ rfl oneN _ (fun w hSw => by rw [(X4.bF.ext (hW0.trans hSw)).cell (by omega), hsd])) HH.out ?_
  change wpAnyH _ _ _ _ _ _ _ (Act.put _ (some 58) _) _
  simp only [Act.put, List.setIfInBounds_toArray, List.set_cons_zero, List.set_cons_succ]
  refine wpAnyH_take (i := 15) (v := ?_) rfl (by kernel_rfl) (by kernel_rfl) (by kernel_rfl) (fun _ _ _ h => h) (Or.inl ⟨by rfl, ?_⟩) HH.out ?_
  rotate_left
  · intro w hSw; go_simp; try with_reducible rfl
  change wpAnyH _ _ _ _ _ _ _ (Act.put _ (some 59) _) _
  simp only [Act.put, List.setIfInBounds_toArray, List.set_cons_zero, List.set_cons_succ]
  refine wpAnyH_take (i := 16) (v := ?_) rfl (by kernel_rfl) (by kernel_rfl) (by kernel_rfl) (fun _ _ _ h => h) (Or.inl ⟨by rfl, ?_⟩) HH.out ?_
  rotate_left
  · intro w hSw; go_simp; try with_reducible rfl
  change wpAnyH _ _ _ _ _ _ _ (Act.put _ (some 60) _) _
  simp only [Act.put, List.setIfInBounds_toArray, List.set_cons_zero, List.set_cons_succ]
  refine wpAnyH_take (i := 17) (v := ?_) rfl (by kernel_rfl) (by kernel_rfl) (by kernel_rfl) (fun _ _ _ h => h) (Or.inl ⟨by rfl, ?_⟩) HH.out ?_
  rotate_left
  · intro w hSw; go_simp; try with_reducible rfl
  change wpAnyH _ _ _ _ _ _ _ (Act.put _ (some 61) _) _
  simp only [Act.put, List.setIfInBounds_toArray, List.set_cons_zero, List.set_cons_succ]
  refine wpAnyH_take (i := 18) (v := ?_) rfl (by kernel_rfl) (by kernel_rfl) (by kernel_rfl) (fun _ _ _ h => h) (Or.inl ⟨by rfl, ?_⟩) HH.out ?_
  rotate_left
  · intro w hSw; go_simp; try with_reducible rfl
  change wpAnyH _ _ _ _ _ _ _ (Act.put _ (some 62) _) _
  simp only [Act.put, List.setIfInBounds_toArray, List.set_cons_zero, List.set_cons_succ]
  refine wpAnyH_take (i := 19) (v := ?_) rfl (by kernel_rfl) (by kernel_rfl) (by kernel_rfl) (fun _ _ _ h => h) (Or.inl ⟨by rfl, ?_⟩) HH.out ?_
  rotate_left
  · intro w hSw; go_simp; try with_reducible rfl
  change wpAnyH _ _ _ _ _ _ _ (Act.put _ (some 12) _) _
  simp only [Act.put, List.setIfInBounds_toArray, List.set_cons_zero, List.set_cons_succ]
  refine wpAnyH_done (by kernel_rfl) ?_ _
  have X5 := X4.ext (hW0.trans HH.out)
  have hr5 := hr3.ext (hW0.trans HH.out)
  have HN5 := fun W' (hW : Ext _ W') => HN4 W' ((hW0.trans HH.out).trans hW)
  have E5 := E4.trans (hW0.trans HH.out)
  have EE5 := EE4.trans (hW0.trans HH.out)
  clear HH hW0 HN4 hr3 hr2 X4 E4 E3 e1 EE4
  have hT2 : 2 ≤ T := hTp
  refine w_ext ?_
  rintro W5 hW5
  replace X5 := X5.ext hW5
  replace hr5 := hr5.ext hW5
  replace EE5 := EE5.trans hW5
  replace E5 := E5.trans hW5
  clear hW5
  have HA5 : Hid (∀ j, j < T → NV O W5 (cA j) (f.arg j)) := fun j hj => (HAg.out j hj).ext EE5
  have bA5 := bA.ext EE5
  have hst5 := X5.fc.stack
  have hO5 := X5.small
  have hBx : ∀ j, j < T → ∃ ko kn kc, cA j = .slice ko kn kc := fun j hj => by
    obtain ⟨ks, ⟨ko, kc, hke, _, _, _⟩, _⟩ := HAg.out j hj
    exact ⟨_, _, _, hke⟩
  have HVH : Hid (∀ j, j < T → ∃ ko kn kc, cA j = .slice ko kn kc) := hBx
  clear hBx
  obtain ⟨u, hu⟩ : ∃ u, Hid (T - 2 = u) := ⟨_, rfl⟩
  have jT2 : IntKind.i64.wrap ((T : Int) - 2) = (u : Int) := by have := hu.out; rw [IntKind.wrap_i64]; omega
  have z0i : (0 : Int) < (T : Int) := by omega
  obtain ⟨ko0, kn0, kc0, hk0⟩ := HVH.out 0 (by omega)
  have hn0 : NV O W5 (.slice ko0 kn0 kc0) (f.arg 0) := by rw [← hk0]; exact HA5.out 0 (by omega)
  have hk0H : Hid (cA 0 = .slice ko0 kn0 kc0) := hk0
  clear hk0
  obtain ⟨L0, hL0⟩ : ∃ l, Hid (f.stack.reverse.take m ++ [f.arg 0] = l) := ⟨_, rfl⟩
  go_upto_region 17 with (fail)
  go_upto_region 18 with (first | ((with_reducible (refine Veil.out ?_; apply wl_loadC onet96o)); (case hw => rfl); (case hx => rfl); (case hc => exact ((bA5.ext (Ext.refl _)).cell (by omega)).trans (congrArg some hk0H.out))) | ((with_reducible (refine Veil.out ?_; apply wl_pushF)); (case hG => exact hst5); (case e0 => exact (Ext.refl _).alloc _ _); (case hk => rw [List.length_reverse]; exact hm2); (case hk2 => omega); (case hbase => exact ⟨_, _, hsd⟩); (case hs => rfl); (case hx => rfl); (case hc => exact row_new _ _ _ 0 _ rfl); (case hu => exact hn0); rintro v8 W8 hv8 e8))
  have E8 : Ext W5 W8 := ((Ext.refl _).alloc _ _).trans e8
  rw [hL0.out] at hv8
  clear e8
  have hL0l : L0.length ≤ 100 := by rw [← hL0.out]; simp; omega
  go_upto_block 3 with (fail)
  go_cut [12, 13] (fun kv iv wx => GRow 109 1 (fun c o x => NV O W5 (c o) x) (fun b => W5.heap.size ≤ b) wx kv (L0 ++ ((f.stack.drop 1).take u).reverse) ∧ Ext W5 wx)
  case first =>
    go_upto_region 19 with (fail)
    try simp only [Act.put]
    go_loopw [12, 13] (fun kv iv wr => ∃ i : Nat, iv = .int .i64 (i : Nat) ∧ i ≤ u ∧ Hid (GRow 109 1 (fun c o x => NV O W5 (c o) x) (fun b => W5.heap.size ≤ b) wr kv (L0 ++ ((f.stack.drop (i + 1)).take (u - i)).reverse)) ∧ Ext W5 wr) (fun _ iv _ => (intOf iv).toNat)
    case atStart => exact ⟨u, rfl, Nat.le_refl _, (by rw [Nat.sub_self, List.take_zero, List.reverse_nil, List.append_nil]; exact hv8 : GRow 109 1 _ _ _ _ _), E8⟩
    case round =>
      obtain ⟨i, rfl, hi, hgr, hE⟩ := hrel
      rcases Nat.lt_or_ge 0 i with hlt | hge
      · have z1 : (0 : Int) < (i : Int) := by omega
        have hiT : i < T := by have := hu.out; omega
        have z3 : (i : Int) < (T : Int) := by omega
        obtain ⟨p, hp⟩ : ∃ p, Hid (i - 1 = p) := ⟨_, rfl⟩
        have z2 : IntKind.i64.wrap ((i : Int) - 1) = (p : Int) := by have := hp.out; rw [IntKind.wrap_i64]; omega
        obtain ⟨koi, kni, kci, hki⟩ := HVH.out i hiT
        have hni : NV O W5 (.slice koi kni kci) (f.arg i) := by rw [← hki]; exact HA5.out i hiT
        have hkiH : Hid (cA i = .slice koi kni kci) := hki
        clear hki
        obtain ⟨Lr, hLr⟩ : ∃ l, Hid (L0 ++ ((f.stack.drop (i + 1)).take (u - i)).reverse = l) := ⟨_, rfl⟩
        have hgr2 := hgr.out
        rw [hLr.out] at hgr2
        have hLrl : Lr.length ≤ 1000 := by rw [← hLr.out]; simp; omega
        go_upto_region 20 with (first | ((with_reducible (refine Veil.out ?_; apply wl_loadC onet96o)); (case hw => rfl); (case hx => rfl); (case hc => exact ((bA5.ext (hE)).cell (by omega)).trans (congrArg some hkiH.out))) | ((with_reducible (refine Veil.out ?_; apply wl_appendNo)); (case hG => exact GRow.ext hgr2 ((Ext.refl _).alloc _ _) (fun _ _ _ k => k)); (case e0 => exact hE.trans ((Ext.refl _).alloc _ _)); (case hn => omega); (case hs => rfl); (case hx => rfl); (case hc => exact row_new _ _ _ 0 _ rfl); (case hu => exact hni); rintro v9 W9 hv9 e9))
        go_wp2
        go_roundw
        case rel =>
          have hq := hp.out
          have hil : i < f.stack.length := by omega
          have hEq : Lr ++ [f.arg i] = L0 ++ ((f.stack.drop (p + 1)).take (u - p)).reverse := by
            rw [← hLr.out, show p + 1 = i by omega, show u - p = (u - i) + 1 by omega, List.drop_eq_getElem_cons hil, List.take_succ_cons, List.reverse_cons, ← List.append_assoc]
            congr 1
            simp [AFrame.arg, List.getD, hil]
          refine ⟨p, rfl, by omega, ?_, e9⟩
          rw [hEq] at hv9
          exact hv9
        case measure => have := hp.out; simp [intOf]; omega
      · have z1 : ¬ (0 : Int) < (i : Int) := by omega
        have : i = 0 := by omega
        subst this
        have hgr2 := hgr.out
        go_wp2
        go_meet
        case rel => exact ⟨hgr2, hE⟩
  case rest =>
  obtain ⟨hgr, hE⟩ := hcut
  obtain ⟨WR, eWR⟩ : ∃ X, X = wc := ⟨_, rfl⟩
  subst eWR
  obtain ⟨t, ht⟩ : ∃ t, Hid (T - 1 = t) := ⟨_, rfl⟩
  have htl : t < T := by rw [← ht.out]; omega
  have jt : IntKind.i64.wrap ((T : Int) - 1) = (t : Int) := by have := ht.out; rw [IntKind.wrap_i64]; omega
  have jti : (t : Int) < (T : Int) := by omega
  have jt0 : (0 : Int) ≤ (t : Int) := by omega
  obtain ⟨kot, knt, kct, hkt⟩ := HVH.out t htl
  have hnt : NV O W5 (.slice kot knt kct) (f.arg t) := by rw [← hkt]; exact HA5.out t htl
  have hktH : Hid (cA t = .slice kot knt kct) := hkt
  clear hkt
  obtain ⟨Lr, hLr⟩ : ∃ l, Hid (L0 ++ ((f.stack.drop 1).take u).reverse = l) := ⟨_, rfl⟩
  rw [hLr.out] at hgr
  have hLrl : Lr.length ≤ 1000 := by rw [← hLr.out]; simp; omega
  go_upto_region 22 with (fail)
  go_upto_region 25 with (first | ((with_reducible (refine Veil.out ?_; apply wl_loadC onet96o)); (case hw => rfl); (case hx => rfl); (case hc => exact ((bA5.ext (hE)).cell (by omega)).trans (congrArg some hktH.out))) | ((with_reducible (refine Veil.out ?_; apply wl_appendNo)); (case hG => exact GRow.ext hgr ((Ext.refl _).alloc _ _) (fun _ _ _ k => k)); (case e0 => exact hE.trans ((Ext.refl _).alloc _ _)); (case hn => omega); (case hs => rfl); (case hx => rfl); (case hc => exact row_new _ _ _ 0 _ rfl); (case hu => exact hnt); rintro v9 W9 hv9 e9))
  have X6 := X5.ext e9
  have hr7 := hr5.ext e9
  have E9 := e9
  have hv8' := grown_numS hv9 hO5 e9
  obtain ⟨NS, hNS⟩ : ∃ l, Hid (f.arg (T - 1) :: (f.stack.drop 1).take (T - 2) ++ f.arg 0 :: f.stack.drop T = l) := ⟨_, rfl⟩
  have HT : Lr ++ [f.arg t] = NS.reverse := by
    rw [← hNS.out, ← hLr.out, ← hL0.out, ← ht.out, ← hu.out, ← hm.out]
    simp [List.take_reverse, show f.stack.length - (f.stack.length - T) = T by omega]
  rw [HT] at hv8'
  clear HT
  have kp := X6.ok
  rw [hNS.out] at hok'
  have hok1 : FOK { f with stack := NS } := ⟨kp.kind, kp.pre, kp.pc, hok'.sLen, hok'.sLt, kp.gas, kp.self, kp.caller, kp.value, kp.code, kp.mLen, kp.m32, kp.oLt, kp.lLt, kp.out⟩
  go_upto_region 26 with ((with_reducible (refine Veil.out ?_; apply wl_store1 oneN)); (case hx => rfl); (case hy => rfl); (case h1 => exact nums_one8 hv8'); (case hB => exact X6.bF); (case ho => omega); rintro W2 hB2 hm2')
  have X8 := X6.putStack hv8' hm2' hB2 hok1
  have hr8 := hr7.keep hm2' X6.hsF
  go_wp2_with ((with_reducible (refine Veil.out ?_; apply wl_store1 onet96o)); (case hx => rfl); (case hy => rfl); (case h1 => exact hr8.one); (case hB => exact X8.bF); (case ho => omega); rintro W7 hB9 hm9)
  go_end0
  have hNS2 : f.arg (T - 1) :: (List.take (T - 2) f.stack.tail ++ f.arg 0 :: List.drop T f.stack) = NS := by rw [← hNS.out]; simp
  rw [hNS2]
  have hfin : ({ f with stack := NS, pc := f.pc + 1 } : AFrame) = { f with stack := NS, pc := f.pc + (1 + im) } := by rw [him0.out]
  rw [hfin] at hok' ⊢
  refine ⟨rfl, _, X8.putPc hr8 hm9 hB9 hok', ?_, fun i h8 h3 => by rw [updv_ne _ _ h3, updv_ne _ _ h8]⟩
  exact ((E5.trans E9).mod _).trans (hm2'.trans hm9)
end
end Go.Proofs.YgvahwGreat
