import Derived.Test.YgvahwGreatYS
namespace Go.Proofs.YgvahwGreat
open Go.RowKit
section
variable {w : World}
set_option maxRecDepth 100000 in
/-- append of one element to a slice without room: a new block. -/
theorem run_appendF (t ty e : TypeId) (i : TypeInfo) (z : Value) (sz : Nat) (ht : Hvah.prog.underlying t = some (.slice e)) (hi : Hvah.prog.info? e = some i) (hz : i.zero = some z) (hsz : i.size = sz) (hzs : z.cells.size = sz)
    (hby : i.bytes ≤ 4096) (base : Option Addr) (n : Nat) (c : Nat → Value) (hold0 : (Builtin.firstCells sz n (.slice base n n)).run Hvah.prog w.drew = .ok ((List.range (n * sz)).map c).toArray w.drew) (hn : n ≤ 1048576)
    (ad : Addr) (c1 : Nat) (news : List Value) (hl : news.length = sz) (hnews : ∀ j u, news[j]? = some u → w.cell? (ad.add j) = some u) (h1 : ∀ u ∈ news, u.oneCell' = true) :
    ∃ v' W b' c', (Builtin.append_ #[t, t] ty #[.slice base n n, .slice (some ad) 1 c1]).run Hvah.prog w = .ok v' W ∧ Grown w e sz (.slice base n n) n w.heap.size c news v' W b' c' ∧ Ext w W ∧ b' = w.heap.size := by
  subst hsz
  have hS : Src Hvah.prog i.size t (.slice (some ad) 1 c1) 1 news w := Src.ofSlice w ht ad 1 c1 news (by omega) hnews h1
  have fits : ∀ sCap, sCap < n + 1 → Builtin.nextslicecap (n + 1) sCap * i.bytes ≤ 281474976710656 := fun sCap h =>
    growslice_fits_wide h (Nat.le_trans (Nat.mul_le_mul_left _ hby) (by omega))
  have hlt : n < n + 1 := Nat.lt_succ_self n
  obtain ⟨olds, ho⟩ : ∃ olds, olds = (List.range (n * i.size)).map c := ⟨_, rfl⟩
  have hold := hold0
  rw [← ho] at hold
  have hr := run_append_grow_src (P := Hvah.prog) w t t ty e i z ht hi hz base n n olds hold _ 1 news hS hlt (by omega) (fits n hlt)
  have hge := grownCap_ge w (n + 1) n e
  have hle := grownCap_le_maxLen w (n + 1) n e (by unfold maxLen; omega)
  obtain ⟨cap, hcap⟩ : ∃ cap, grownCap w (n + 1) n e = cap := ⟨_, rfl⟩
  rw [hcap] at hr hge hle
  obtain ⟨C, hC⟩ : ∃ C, C = (olds ++ news).toArray ++ Builtin.zeroCells z.cells (cap - (n + 1)) := ⟨_, rfl⟩
  rw [← hC] at hr
  have hol : olds.length = n * i.size := by rw [ho]; simp
  have hCs : C.size = cap * i.size := by
    rw [hC, Array.size_append, size_zeroCells, hzs, List.size_toArray, List.length_append, hol, hl, ← Nat.succ_mul, ← Nat.add_mul]
    congr 1; omega
  have hB := blk_new w.drew C e z
  rw [hCs] at hB
  refine ⟨_, _, w.heap.size, fun j => C.getD j z, hr, ⟨Or.inr ⟨cap, rfl, hge, by unfold maxLen at hle; omega, hB⟩, fun j hj => ?_, fun j u hu => ?_, Or.inr ⟨rfl, ((Ext.refl w).drew).alloc _ _⟩, ⟨cap, rfl⟩⟩, ((Ext.refl w).drew).alloc _ _, rfl⟩
  · show C.getD j z = c j
    rw [hC, Array.getD_eq_getD_getElem?, Array.getElem?_append_left (by simp; omega), List.getElem?_toArray, List.getElem?_append_left (by omega), ho]
    simp [hj]
  · have hj : j < news.length := (List.getElem?_eq_some_iff.1 hu).1
    show C.getD (n * i.size + j) z = u
    rw [hC, Array.getD_eq_getD_getElem?, Array.getElem?_append_left (by simp; omega), List.getElem?_toArray, List.getElem?_append_right (by omega), hol, Nat.add_sub_cancel_left, hu]
    rfl
end
theorem under145 : Hvah.prog.underlying 154 = some (.slice 109) := by kernel_rfl
theorem info96 : Hvah.prog.info? 109 = some Hvah.t109 := by kernel_rfl
theorem zero96 : Hvah.t109.zero = some (.slice none 0 0) := by kernel_rfl
theorem size96 : Hvah.t109.size = 1 := by kernel_rfl
theorem bytes96' : Hvah.t109.bytes = 24 := by kernel_rfl
theorem bytes96 : Hvah.t109.bytes ≤ 4096 := by rw [bytes96']; decide
theorem oneN : OneT 154 := oneT_of (by kernel_rfl) (by kernel_rfl)
theorem oneB : OneT 4 := oneT_of (by kernel_rfl) (by kernel_rfl)
theorem one5 : OneT 5 := oneT_of (by kernel_rfl) (by kernel_rfl)
section
variable {ops : Array Oper} {rest : List Oper} {a : Act} {Q : Exit → Act → World → Prop} {w : World} {dst : Option Tmp} {ty : TypeId} {pos : String} {aft : Array Edge}
theorem step_load1 {K : Act → World → Prop} {E : Prop} {o : Oper} {x : Operand} {t : TypeId} {b i : Nat} {v : Value} (ht : OneT t) (hg : o.guard = none) (hop : o.op = .load t x) (hx : a.eval x = .pointer (some ⟨b, i, none⟩)) (hc : w.cell? ⟨b, i, none⟩ = some v)
    (hK : K (a.put o.dst v) w) : if Region.wanted o (yielded ops a.tmps) = true then Oper.wp Hvah.prog o a w K Q else E := by
  have hw : Region.wanted o (yielded ops a.tmps) = true := by simp [Region.wanted, hg]
  rw [if_pos hw]
  unfold Oper.wp execOp
  simp only [hop, hx, Instr.loadAt, Instr.sureAddr, Sem.run_bind, Sem.run_pure, Result.andThen_ok, run_loadVar_one ht hc]
  exact hK
theorem step_store1 {K : Act → World → Prop} {E : Prop} {o : Oper} {x y : Operand} {t tt : TypeId} {b i n : Nat} {c : Nat → Value} {v : Value} (ht : OneT t) (hg : o.guard = none) (hop : o.op = .store t x y) (hx : a.eval x = .pointer (some ⟨b, i, none⟩)) (hy : a.eval y = v) (h1 : v.oneCell' = true) (hB : Blk w b n tt c) (hi : i < n)
    (h : ∀ W, Blk W b n tt (updv c i v) → Mod (· = b) w W → K (a.put o.dst undef) W) : if Region.wanted o (yielded ops a.tmps) = true then Oper.wp Hvah.prog o a w K Q else E := by
  have hw : Region.wanted o (yielded ops a.tmps) = true := by simp [Region.wanted, hg]
  rw [if_pos hw]
  have hc : (w.cell? ⟨b, i, none⟩).isSome = true := by rw [hB.cell hi]; rfl
  unfold Oper.wp execOp
  simp only [hop, hx, hy, Instr.storeAt, Instr.sureAddr, Sem.run_bind, Sem.run_pure, Result.andThen_ok, run_storeVar_one ht h1 hc (hB.fz i)]
  exact h _ (hB.set i v) ((Mod.refl (fun x => x = b) w).setCell (p := ⟨b, i, none⟩) (Or.inl rfl) v)
/-- A number pushed on a stack that is cut to k. -/
theorem wl_pushN {s x : Operand} {O : Nat → Prop} {v : Value} {l : List Nat} {base : Option Addr} {k B c1 z : Nat} {u : Value} (hO : Small O w) (hG : NumS O w v l) (hk : k ≤ l.length) (hk2 : k ≤ 100000) (hbase : ∃ len cap, v = .slice base len cap) (hs : a.eval s = .slice base k k)
    (hx : a.eval x = .slice (some ⟨B, 0, none⟩) 1 c1) (hc : w.cell? ⟨B, 0, none⟩ = some u) (hu : NV O w u z)
    (h : ∀ v' W, NumL O W v' (l.take k ++ [z]) → Ext w W → wpList Hvah.prog ops Q rest (a.put dst v') W) : Veil (wpList Hvah.prog ops Q (⟨dst, .call { callee := Callee.builtin Builtin.append, args := #[s, x], argTypes := #[154, 154] }, ty, pos, aft, none⟩ :: rest) a w) := by
  refine Veil.mk ?_
  refine wpList_plain rfl fun K hKK => ?_
  have hcut : ∃ c : Nat → Value, (Builtin.firstCells 1 k (.slice base k k)).run Hvah.prog w.drew = .ok ((List.range (k * 1)).map c).toArray w.drew ∧ ∀ (i : Nat) (h : i < (l.take k).length), NuC O w c (i * 1) (l.take k)[i] := by
    obtain ⟨len, cap0, hv⟩ := hbase
    obtain ⟨o, cap, h1, h2, h3, h4⟩ := hG
    rw [hv] at h1
    injection h1 with e1 _ _
    subst e1
    by_cases hl0 : l = []
    · subst hl0
      have hk0 : k = 0 := by simpa using hk
      subst hk0
      refine ⟨fun _ => undef, ?_, fun i hi => by simp at hi⟩
      cases base with
      | none => simpa using run_firstCells_none (P := Hvah.prog) w.drew 1 0 0 0
      | some ad => exact run_firstCells_some w.drew 1 0 ad 0 0 [] (by simp) (fun j v hv => by simp at hv)
    · obtain ⟨b, m, c, rfl, k2, k3, k4, k5⟩ := h4 hl0
      refine ⟨c, run_firstCells_some w.drew 1 k ⟨b, 0, none⟩ k k _ (by simp) ?_, fun i hi => ?_⟩
      · exact (Blk.drew k2).range (k * 1) (by omega)
      · rw [List.length_take] at hi
        rw [List.getElem_take]
        unfold NuC
        rw [Nat.mul_one]
        exact k5 i (by omega)
  obtain ⟨c, hf, hrows⟩ := hcut
  obtain ⟨v', W, b', c', hr, hG', hE, hb'⟩ := run_appendF (w := w) 154 ty 109 Hvah.t109 (.slice none 0 0) 1 under145 info96 zero96 size96 rfl bytes96 base k c hf (by omega) ⟨B, 0, none⟩ c1 [u] rfl (fun j t ht => by
    have hj : j = 0 := by have := (List.getElem?_eq_some_iff.1 ht).1; simpa using this
    subst hj
    have : t = u := by simpa using ht.symm
    subst this
    simpa [Addr.add] using hc) (fun t ht => by
    have : t = u := by simpa using ht
    subst this
    exact hu.one)
  have hlk : (l.take k).length = k := by rw [List.length_take]; omega
  unfold Oper.wp
  simp [execOp, resolve, invoke, builtin, hs, hx, hr, Result.andThen]
  refine hKK _ _ (h v' W ?_ hE)
  have hGr : Grown w 109 1 (.slice base k k) (l.take k).length w.heap.size c [u] v' W b' c' := by rw [hlk]; exact hG'
  refine GRow.push (x := z) (T' := fun b => ¬ O b) hGr hrows (fun c c' o y hcc k => by
    have := hcc 0 (by decide)
    unfold NuC at *
    rw [Nat.add_zero] at this
    rw [this]
    exact NV.ext k hE) (fun hn => ?_) (fun hb => by rw [hb'] at hb; exact Nat.lt_irrefl _ (hO _ hb))
  have := hn 0 u rfl
  unfold NuC
  rw [Nat.add_zero] at this
  rw [this]
  exact hu.ext hE
end
end Go.Proofs.YgvahwGreat
