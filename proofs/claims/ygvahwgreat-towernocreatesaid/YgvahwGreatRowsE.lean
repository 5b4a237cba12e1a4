import Derived.Test.YgvahwGreatYpB
namespace Go.Proofs.YgvahwGreat
open Go.RowKit
/-- A slice type of rows of sz cells. -/
structure SlT (t e : TypeId) (sz : Nat) : Prop where
  ex : ∃ i z, Hvah.prog.underlying t = some (.slice e) ∧ Hvah.prog.info? e = some i ∧ i.zero = some z ∧ i.size = sz ∧ z.cells.size = sz ∧ i.bytes ≤ 4096
  pos : 0 < sz
  few : sz ≤ 1000
section
variable {ops : Array Oper} {rest : List Oper} {a : Act} {Q : Exit → Act → World → Prop} {w : World} {d1 : Tmp} {d2 : Option Tmp} {ty ty2 : TypeId} {pos pos2 : String} {aft aft2 : Array Edge} {α : Type}
/-- x = append(x, y). -/
theorem wl_push {y s : Operand} {t e : TypeId} {sz : Nat} {R : (Nat → Value) → Nat → α → Prop} {v : Value} {l : List α} (st : SlT t e sz) (w0 : World) (x : α) (r : Array Value) (hr : r.size = sz) (hone : ∀ u ∈ r.toList, u.oneCell' = true)
    (hG : GRow e sz R (fun b => w0.heap.size ≤ b) w v l) (hE : Ext w0 w) (hn : l.length ≤ 1048576) (hy : a.eval y = .agg r) (hs : (a.put (some d1) (.slice (some ⟨w.heap.size, 0, none⟩) 1 1)).eval s = v)
    (hb : (a.put (some d1) (.slice (some ⟨w.heap.size, 0, none⟩) 1 1)).eval (.tmp d1) = .slice (some ⟨w.heap.size, 0, none⟩) 1 1)
    (hx : ∀ c o, (∀ j u, r[j]? = some u → c (o + j) = u) → R c o x) (hRm : ∀ c c' o y, (∀ j, j < sz → c' (o + j) = c (o + j)) → R c o y → R c' o y)
    (hK : ∀ v' W, GRow e sz R (fun b => w0.heap.size ≤ b) W v' (l ++ [x]) → Ext w0 W → (∀ B o r', (∀ cap, v ≠ .slice (some ⟨B, 0, none⟩) l.length cap) → B < w.heap.size → RowIn w B o r' → RowIn W B o r') → wpList Hvah.prog ops Q rest ((a.put (some d1) (.slice (some ⟨w.heap.size, 0, none⟩) 1 1)).put d2 v') W) : Veil (wpList Hvah.prog ops Q (⟨some d1, .buildSlice t 1 #[(0, y)], ty, pos, aft, none⟩ :: ⟨d2, .call { callee := Callee.builtin Builtin.append, args := #[s, .tmp d1], argTypes := #[t, t] }, ty2, pos2, aft2, none⟩ :: rest) a w) := by
  refine Veil.mk ?_
  obtain ⟨i, z, ht, hi, hz, hsz, hzs, hby⟩ := st.ex
  refine wl_build1 e i z sz ht hi hz hsz hzs st.pos st.few r hr hy ?_
  have hA0 : Ext w (w.alloc (.cells r e)) := (Ext.refl w).alloc _ _
  obtain ⟨b, c, hA, hT, hrows⟩ := (hG.ext hA0 (fun _ _ _ k => k)).arn
  refine Veil.out (wl_append1 e i z sz ht hi hz hsz hzs hby v l.length b c hA hn ⟨w.heap.size, 0, none⟩ 1 r.toList (by simpa using hr) ?_ hone hs hb ?_)
  · intro j u hu
    rw [Addr.add_mid]
    exact row_new w r e j u (by simpa using hu)
  · intro v' W b' c' hGr
    have hsz0 : w0.heap.size ≤ (w.alloc (.cells r e)).heap.size := by have := hE.size; simp; omega
    refine hK v' W (GRow.push (x := x) hGr hrows hRm (fun hnew => hx c' _ (fun j u hu => hnew j u (by simpa using hu))) ?_) ?_ ?_
    · rcases hGr.how with ⟨rfl, ⟨cap, hv⟩, _⟩ | ⟨rfl, _⟩
      · exact hT cap hv
      · exact hsz0
    · rcases hGr.how with ⟨rfl, ⟨cap, hv⟩, hm⟩ | ⟨_, he⟩
      · exact (hE.trans hA0).trans_mod hm (fun i hi => by rw [hi]; exact hT cap hv)
      · exact (hE.trans hA0).trans he
    · intro B o r' hne hB hrow
      have h1 := hrow.ext hB hA0
      have hB2 : B < (w.alloc (.cells r e)).heap.size := by simp; omega
      rcases hGr.how with ⟨rfl, ⟨cap, hv⟩, hm⟩ | ⟨_, he⟩
      · intro i u hu
        have hbne : B ≠ b' := fun q => hne cap (by rw [hv, q])
        rw [hm.cell (p := ⟨B, o + i, none⟩) hB2 hbne]
        exact h1 i u hu
      · exact h1.ext hB2 he
end
section
variable {ops : Array Oper} {rest : List Oper} {a : Act} {Q : Exit → Act → World → Prop} {w : World} {dst : Option Tmp} {ty : TypeId} {pos : String} {aft : Array Edge}
/-- A load behind a guard that lets it by. -/
theorem wl_loadG {x : Operand} {t : TypeId} {n : Nat} (rt : RowT t n) {b o : Nat} {r : Array Value} {gd : Option (Nat × Bool)} (hw : Region.wanted ⟨dst, .load t x, ty, pos, aft, gd⟩ (yielded ops a.tmps) = true) (hx : a.eval x = .pointer (some ⟨b, o, none⟩)) (hr : RowIn w b o r) (hn : r.size = n)
    (h : wpList Hvah.prog ops Q rest (a.put dst (.agg r)) w) : Veil (wpList Hvah.prog ops Q (⟨dst, .load t x, ty, pos, aft, gd⟩ :: rest) a w) := by
  refine Veil.mk ?_
  obtain ⟨d, h1, h2⟩ := rt.desc
  rw [wpList, if_pos hw]
  refine Or.inl (wp_load_mid (op := ⟨dst, .load t x, ty, pos, aft, gd⟩) t x rfl b o hx r.toList d (fun j v hv => hr j v (by simpa using hv)) h1 h2 (by rw [rt.size]; simp [hn]) ?_)
  simpa using h
end
theorem GRow.ne {α : Type} {ty : TypeId} {sz : Nat} {R : (Nat → Value) → Nat → α → Prop} {T : Nat → Prop} {w : World} {v : Value} {l : List α} (h : GRow ty sz R T w v l) {B : Nat} (hB : w.heap.size ≤ B) (n : Nat) : ∀ cap, v ≠ .slice (some ⟨B, 0, none⟩) n cap := fun cap q => by
  rcases h with ⟨_, e⟩ | ⟨b, cap', c, h1, _, _, h4, _⟩
  · rw [e] at q; injection q with q1; cases q1
  · rw [h1] at q
    injection q with q1
    injection q1 with q1
    injection q1 with q1
    have := h4.lt
    omega
theorem bytes25 : Hvah.t31.bytes = 20 := by kernel_rfl
theorem sl94 : SlT 107 31 20 := ⟨⟨Hvah.t31, .agg (zrow 20), by kernel_rfl, by kernel_rfl, by kernel_rfl, by kernel_rfl, by simp [Value.cells, zrow, bcells], by rw [bytes25]; decide⟩, by decide, by decide⟩
theorem AdC.move {c c' : Nat → Value} {o a : Nat} (hc : ∀ j, j < 20 → c' (o + j) = c (o + j)) (h : AdC c o a) : AdC c' o a := ⟨h.1.same h.2 hc, h.2⟩
end Go.Proofs.YgvahwGreat
