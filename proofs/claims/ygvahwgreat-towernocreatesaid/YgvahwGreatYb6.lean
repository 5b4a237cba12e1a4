import Derived.Test.YgvahwGreatYb1
import Derived.Test.YgvahwGreatTn
namespace Go.Proofs.YgvahwGreat
open Go.RowKit
set_option linter.unusedVariables false
set_option linter.unusedSimpArgs false
section
variable {ops : Array Oper} {a : Act} {w : World} {K : Act → World → Prop} {Q : Exit → Act → World → Prop} {o : Oper} {E : Prop} {α : Type}
/-- append of one element to a list whose block may be written. -/
theorem step_pushT (hg : o.guard = none) (s x : Operand) (t : TypeId) (hop : o.op = Op.call { callee := Callee.builtin Builtin.append, args := #[s, x], argTypes := #[t, t] }) {e : TypeId} {sz : Nat} (st : SlT t e sz) {R : (Nat → Value) → Nat → α → Prop} (v : Value) (l : List α) (T : Nat → Prop) (hT0 : ∀ b, w.heap.size ≤ b → T b) (hG : GRow e sz R T w v l) (hn : l.length ≤ 1048576)
    (ad : Addr) (r : Array Value) (hr : r.size = sz) (hnews : ∀ j u, r.toList[j]? = some u → w.cell? (ad.add j) = some u) (hone : ∀ u ∈ r.toList, u.oneCell' = true) (hs : a.eval s = v) (hx : a.eval x = .slice (some ad) 1 1) (y : α)
    (hxr : ∀ c o, (∀ j u, r[j]? = some u → c (o + j) = u) → R c o y) (hRm : ∀ c c' o y, (∀ j, j < sz → c' (o + j) = c (o + j)) → R c o y → R c' o y)
    (hK : ∀ v' W, GRow e sz R T W v' (l ++ [y]) → Mod T w W → K (a.put o.dst v') W) : if Region.wanted o (yielded ops a.tmps) = true then Oper.wp Hvah.prog o a w K Q else E := by
  obtain ⟨i, z, ht, hi, hz, hsz, hzs, hby⟩ := st.ex
  obtain ⟨b, c, hA, hTb, hrows⟩ := hG.arn
  refine step_append1 hg s x t hop e i z sz ht hi hz hsz hzs hby v l.length b c hA hn ad 1 r.toList (by simpa using hr) hnews hone hs hx ?_
  intro v' W b' c' hGr
  refine hK v' W (GRow.push (x := y) hGr hrows hRm (fun hnew => hxr c' _ (fun j u hu => hnew j u (by simpa using hu))) ?_) ?_
  · rcases hGr.how with ⟨rfl, ⟨cap, hv⟩, _⟩ | ⟨rfl, _⟩
    · exact hTb cap hv
    · exact hT0 _ (Nat.le_refl _)
  · rcases hGr.how with ⟨rfl, ⟨cap, hv⟩, hm⟩ | ⟨_, he⟩
    · exact hm.sub (fun i hi => by have hi2 : i = b' := hi; rw [hi2]; exact hTb cap hv)
    · exact he.mod _
end
theorem yieldsRowE {S : World → Prop} {ops : Array Oper} {o : Oper} {a : Act} {x : Operand} {t tt : TypeId} {b i n m : Nat} {c : Nat → Value} {r : Array Value} (rt : RowT t m) (hw : Region.wanted o (yielded ops a.tmps) = true) (hop : o.op = .load t x) (hx : a.eval x = .pointer (some ⟨b, i, none⟩)) (hB : ∀ w, S w → Blk w b n tt c) (hi : i + m ≤ n) (e : rowOf c i m = r) : YieldsIf Hvah.prog ops S o (.agg r) a := by
  subst e; exact yieldsRowL rt hw hop hx hB hi
theorem bytes140 : Hvah.t149.bytes ≤ 4096 := by decide +kernel
theorem sl100 : SlT 113 149 22 := ⟨⟨Hvah.t149, .agg #[.int .u8 0, .int .u8 0, .int .u8 0, .int .u8 0, .int .u8 0, .int .u8 0, .int .u8 0, .int .u8 0, .int .u8 0, .int .u8 0, .int .u8 0, .int .u8 0, .int .u8 0, .int .u8 0, .int .u8 0, .int .u8 0, .int .u8 0, .int .u8 0, .int .u8 0, .int .u8 0, .slice none 0 0, .slice none 0 0], by kernel_rfl, by kernel_rfl, by kernel_rfl, by kernel_rfl, rfl, bytes140⟩, by decide, by decide⟩
theorem under100 : Hvah.prog.underlying 113 = some (.slice 149) := by kernel_rfl
theorem info140 : Hvah.prog.info? 149 = some Hvah.t149 := by kernel_rfl
theorem zero140 : Hvah.t149.zero = some (.agg #[.int .u8 0, .int .u8 0, .int .u8 0, .int .u8 0, .int .u8 0, .int .u8 0, .int .u8 0, .int .u8 0, .int .u8 0, .int .u8 0, .int .u8 0, .int .u8 0, .int .u8 0, .int .u8 0, .int .u8 0, .int .u8 0, .int .u8 0, .int .u8 0, .int .u8 0, .int .u8 0, .slice none 0 0, .slice none 0 0]) := by kernel_rfl
theorem size140 : Hvah.t149.size = 22 := by kernel_rfl
theorem zs140 : (Value.agg #[.int .u8 0, .int .u8 0, .int .u8 0, .int .u8 0, .int .u8 0, .int .u8 0, .int .u8 0, .int .u8 0, .int .u8 0, .int .u8 0, .int .u8 0, .int .u8 0, .int .u8 0, .int .u8 0, .int .u8 0, .int .u8 0, .int .u8 0, .int .u8 0, .int .u8 0, .int .u8 0, .slice none 0 0, .slice none 0 0]).cells.size = 22 := rfl
/-- A slot at the start, as a row. -/
def tmV (a : Nat) (k v : Value) : Array Value := av a ++ #[k, v]
theorem tmV_size {a : Nat} (ha : a < 2 ^ 160) (k v : Value) : (tmV a k v).size = 22 := by unfold tmV; rw [Array.size_append, av_size ha]; rfl
theorem tmV_one {a : Nat} {k v : Value} (hk : k.oneCell' = true) (hv : v.oneCell' = true) : ∀ u ∈ (tmV a k v).toList, u.oneCell' = true := by
  intro u hu
  unfold tmV at hu
  rw [Array.toList_append, List.mem_append] at hu
  rcases hu with hu | hu
  · exact av_one a u hu
  · simp at hu
    rcases hu with rfl | rfl
    · exact hk
    · exact hv
theorem tmV_row {O : Nat → Prop} {w : World} {a k v : Nat} {uk uv : Value} (ha : a < 2 ^ 160) (hk : NV O w uk k) (hv : NV O w uv v) (c : Nat → Value) (o : Nat) (h : ∀ j u, (tmV a uk uv)[j]? = some u → c (o + j) = u) : TmC O w c o (a, k, v) := by
  have hs := av_size ha
  refine ⟨fun j u hu => h j u ?_, ha, ?_, ?_⟩
  · have hj := (Array.getElem?_eq_some_iff.1 hu).1
    unfold tmV
    rw [Array.getElem?_append_left hj]; exact hu
  · rw [h 20 uk (by unfold tmV; rw [Array.getElem?_append_right (by omega), hs]; rfl)]; exact hk
  · rw [h 21 uv (by unfold tmV; rw [Array.getElem?_append_right (by omega), hs]; rfl)]; exact hv
theorem z140p : placesOf Hvah.prog 149 = some [(0, 20), (20, 1), (21, 1)] := by kernel_rfl
def z140a : Array Value := #[.int .u8 0, .int .u8 0, .int .u8 0, .int .u8 0, .int .u8 0, .int .u8 0, .int .u8 0, .int .u8 0, .int .u8 0, .int .u8 0, .int .u8 0, .int .u8 0, .int .u8 0, .int .u8 0, .int .u8 0, .int .u8 0, .int .u8 0, .int .u8 0, .int .u8 0, .int .u8 0, .slice none 0 0, .slice none 0 0]
theorem z140q : zeroOf Hvah.prog 149 = some z140a := by kernel_rfl
theorem b140s {a : Nat} (ha : a < 2 ^ 160) {k v : Value} (hk : k.oneCell' = true) (hv : v.oneCell' = true) : ∀ w, (Instr.build 149 ([(0, .agg (av a)), (1, k), (2, v)] : List (Nat × Value)).toArray).run Hvah.prog w = .ok (.agg (tmV a k v)) w := by
  intro w
  rw [run_build_gen z140p z140q ([(0, .agg (av a)), (1, k), (2, v)] : List (Nat × Value)) ⟨0, 20, rfl, av_size ha, by decide, 20, 1, rfl, by rw [one_cells hk]; rfl, by decide, 21, 1, rfl, by rw [one_cells hv]; rfl, by decide, trivial⟩ w]
  congr 2
  have hs := av_size ha
  apply Array.ext_getElem?
  intro i
  by_cases hi : i < 22
  · have e1 : (bld z140a (partsA [(0, 20), (20, 1), (21, 1)] [(0, .agg (av a)), (1, k), (2, v)]))[i]? = some (cf (bld z140a (partsA [(0, 20), (20, 1), (21, 1)] [(0, .agg (av a)), (1, k), (2, v)])) i) := get_cf (by rw [bld_size]; exact hi)
    rw [e1, bld_get _ _ _ hi]
    simp only [partsA, List.map_cons, List.map_nil, List.getD_cons_zero, List.getD_cons_succ, bldc, one_cells hk, one_cells hv, layv_one, one_agg]
    rw [get_cf (r := tmV a k v) (i := i) (by rw [tmV_size ha]; exact hi)]
    congr 1
    by_cases h1 : i = 21
    · subst h1; rw [updv_same]; unfold tmV; rw [cf_append, if_neg (by omega), hs]; rfl
    rw [updv_ne _ _ h1]
    by_cases h2 : i = 20
    · subst h2; rw [updv_same]; unfold tmV; rw [cf_append, if_neg (by omega), hs]; rfl
    rw [updv_ne _ _ h2]
    have := layv_in (cf z140a) 0 (av a) (j := i) (by rw [hs]; omega)
    rw [Nat.zero_add] at this
    rw [this]; unfold tmV; rw [cf_append, if_pos (by rw [hs]; omega)]
  · rw [Array.getElem?_eq_none (by rw [bld_size]; show 22 ≤ i; omega), Array.getElem?_eq_none (by rw [tmV_size ha]; omega)]
section
variable {O : Nat → Prop} {w w' : World} {Y B : Nat} {c : Nat → Value} {W : YW} {st : ASt} {tot : Nat}
theorem YI.wd (h : YI O w Y c W st tot) (e : Ext w w') (hB : B < w'.heap.size) (hg : w.heap.size ≤ B) : YI (Wd O B) w' Y c W st tot := by
  have hr : ∀ b, b < w.heap.size → Wd O B b → O b := fun b hb q => by
    rcases q with q | q
    · exact q
    · omega
  exact ⟨h.bY.ext e, (h.wc.reo hr).ext e, h.lim, h.wf, fun b hb => by
    rcases hb with hb | hb
    · exact Nat.lt_of_lt_of_le (h.small b hb) e.size
    · rw [hb]; exact hB, h.phase, h.ph, h.status, h.applied, (h.total.reo hr).ext e, (h.env.reo hr).ext e, h.now, Or.inl h.oY, h.lg0, h.lgs⟩
theorem TxC.wd {t : ATx} (h : TxC O w c t) (hg : w.heap.size ≤ B) : TxC (Wd O B) w c t := by
  have hn : ∀ b, b < w.heap.size → ¬ O b → ¬ Wd O B b := fun b hb q k => k.elim q (fun k => by omega)
  exact { h with
    data := by
      obtain ⟨o, c, h1, h2, h3, h4, h5⟩ := h.data
      refine ⟨o, c, h1, h2, h3, h4, fun hl => ?_⟩
      obtain ⟨b, off, q1, q2, q3, q4⟩ := h5 hl
      exact ⟨b, off, q1, hn b q3 q2, q3, q4⟩
    access := by
      rcases h.access with q | ⟨b, off, cap, cc, h1, h2, h3, h4, h5, h6, h7⟩
      · exact Or.inl q
      · refine Or.inr ⟨b, off, cap, cc, h1, h2, h3, hn b h5 h4, h5, h6, fun i hi => ⟨(h7 i hi).addr, (h7 i hi).aLt, ?_⟩⟩
        rcases (h7 i hi).keys with q | ⟨b2, off2, cap2, k1, k2, k3, k4, k5, k6⟩
        · exact Or.inl q
        · exact Or.inr ⟨b2, off2, cap2, k1, k2, k3, hn b2 k5 k4, k5, k6⟩ }
end
theorem TmC.keep6 {O : Nat → Prop} {w w' : World} {S : Nat → Prop} {c : Nat → Value} {o : Nat} {m : Nat × Nat × Nat} (h : TmC O w c o m) (k : Mod S w w') (hs : ∀ b, ¬ O b → ¬ S b) : TmC O w' c o m := ⟨h.addr, h.aLt, h.key.keep k hs, h.val.keep k hs⟩
theorem TmC.cells6 {O : Nat → Prop} {w : World} {c c' : Nat → Value} {o : Nat} {m : Nat × Nat × Nat} (hc : ∀ j, j < 22 → c' (o + j) = c (o + j)) (h : TmC O w c o m) : TmC O w c' o m :=
  ⟨h.addr.same h.aLt (fun j hj => hc j (by omega)), h.aLt, by rw [hc 20 (by decide)]; exact h.key, by rw [hc 21 (by decide)]; exact h.val⟩
theorem TxC.keep2 {O : Nat → Prop} {w w' : World} {c : Nat → Value} {t : ATx} {S : Nat → Prop} (h : TxC O w c t) (m : Mod S w w') (hs : ∀ b, ¬ O b → ¬ S b) : TxC O w' c t :=
  { h with
    data := by
      obtain ⟨o, c, h1, h2, h3, h4, h5⟩ := h.data
      refine ⟨o, c, h1, h2, h3, h4, fun hl => ?_⟩
      obtain ⟨b, off, q1, q2, q3, q4⟩ := h5 hl
      exact ⟨b, off, q1, q2, Nat.lt_of_lt_of_le q3 m.size, fun i hi => (m.cell (p := ⟨b, off + i, none⟩) q3 (hs b q2)).trans (q4 i hi)⟩
    access := by
      rcases h.access with q | ⟨b, off, cap, cc, h1, h2, h3, h4, h5, h6, h7⟩
      · exact Or.inl q
      · refine Or.inr ⟨b, off, cap, cc, h1, h2, h3, h4, Nat.lt_of_lt_of_le h5 m.size, fun i hi => (m.cell (p := ⟨b, off + i, none⟩) h5 (hs b h4)).trans (h6 i hi), fun i hi => ⟨(h7 i hi).addr, (h7 i hi).aLt, ?_⟩⟩
        rcases (h7 i hi).keys with q | ⟨b2, off2, cap2, k1, k2, k3, k4, k5, k6⟩
        · exact Or.inl q
        · exact Or.inr ⟨b2, off2, cap2, k1, k2, k3, k4, Nat.lt_of_lt_of_le k5 m.size, fun j hj => ⟨(k6 j hj).1, RowIn.keep (S := S) (k6 j hj).2 k5 m (hs b2 k4)⟩⟩ }
/-- The opening, where a box changes too. -/
theorem YZ.ofI2 {O S : Nat → Prop} {w w' : World} {Y F n : Nat} {c c' d : Nat → Value} {W : YW} {st : ASt} {tot ap lim g pr og md : Nat} (h : YI O w Y c W st tot) (m : Mod S w w') (hs : ∀ b, ¬ O b → ¬ S b) (hB : Blk w' Y 179 118 c') (k : BCells O w' c c' ap lim g pr og md) (h10 : c 10 = .slice none 0 0) (hpr : pr < P256) (hog : og < 2 ^ 160) (hmd : md < 2 ^ 160) (hF : O F) (hne : Y ≠ F) : YZ O (fun _ => False) w' Y F n c' d W [] { st with orig := lookT [], frames := [], ret := [], applied := ap, limit := lim, txGas := g, price := pr, origin := og, made := md } tot [] := by
  exact { bY := hB
          wc := (h.wc.keep m hs).cells (fun j hj => by rw [Nat.zero_add]; exact k.low j hj)
          lim := h.lim
          wf := h.wf
          st8 := Or.inl ⟨rfl, k.s8⟩
          sl := by simp
          fv := Or.inl ⟨rfl, k.s9⟩
          few := by simp
          small := fun b hb => Nat.lt_of_lt_of_le (h.small b hb) m.size
          ret := by rw [k.s10, h10]; exact ⟨none, 0, rfl, Nat.le_refl _, by decide, ⟨fun x hx => by simp at hx, fun q => absurd rfl q⟩⟩
          phase := by rw [k.s11]; exact h.phase
          hLt := by show st.phase ≤ 2; rw [h.ph]; decide
          status := by rw [k.s12]; exact h.status
          applied := k.s13
          limit := k.s14
          left := fun q => by have q2 : st.phase = 2 := q; rw [h.ph] at q2; cases q2
          price := k.s17
          pLt := hpr
          total := by rw [k.s18]; exact h.total.keep m hs
          tg := k.s15
          origin := k.s19
          oLt := hog
          made := k.s39
          mLt := hmd
          env := h.env.same (fun j hj _ => k.high j (by omega)) (fun _ _ q => q.keep m hs)
          now := h.now
          orig := rfl
          oY := h.oY
          oF := hF
          ne := hne
          frs := rfl
          fl := trivial
          tm := fun x hx => by cases hx
          td := List.Pairwise.nil
          tl := fun b hb => hb.elim
          lg := Or.inl (Or.inl ⟨h.lgs, by rw [k.low 4 (by decide)]; exact h.lg0⟩) }
end Go.Proofs.YgvahwGreat
