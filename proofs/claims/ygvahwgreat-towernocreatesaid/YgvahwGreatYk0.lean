import Derived.Test.YgvahwGreatRowsG
import Derived.Test.YgvahwGreatYr
import Derived.Test.YgvahwGreatPj
import Derived.Test.YgvahwGreatPt
namespace Go.Proofs.YgvahwGreat
open Go.RowKit
section
variable {ops : Array Oper} {o : Oper} {a : Act} {w : World} {K : Act → World → Prop} {Q : Exit → Act → World → Prop} {E : Prop}
set_option maxRecDepth 100000 in
/-- append of one element; it is in place only where there is room. -/
theorem run_append1g (t ty e : TypeId) (i : TypeInfo) (z : Value) (sz : Nat) (ht : Hvah.prog.underlying t = some (.slice e)) (hi : Hvah.prog.info? e = some i) (hz : i.zero = some z) (hsz : i.size = sz) (hzs : z.cells.size = sz)
    (hby : i.bytes ≤ 4096) (v : Value) (n b : Nat) (c : Nat → Value) (hA : Arn w e sz v n b c) (hn : n ≤ 1048576)
    (ad : Addr) (c1 : Nat) (news : List Value) (hl : news.length = sz) (hnews : ∀ j u, news[j]? = some u → w.cell? (ad.add j) = some u) (h1 : ∀ u ∈ news, u.oneCell' = true) :
    ∃ v' W b' c', (Builtin.append_ #[t, t] ty #[v, .slice (some ad) 1 c1]).run Hvah.prog w = .ok v' W ∧ Grown w e sz v n b c news v' W b' c' ∧ (b' = b ∧ (∃ cap, v = .slice (some ⟨b, 0, none⟩) n cap ∧ n + 1 ≤ cap) ∧ Mod (· = b) w W ∨ (b' = w.heap.size ∧ Ext w W)) := by
  by_cases hroom : ∃ cap, v = .slice (some ⟨b, 0, none⟩) n cap ∧ n + 1 ≤ cap
  · obtain ⟨v', W, b', c', hr, hG⟩ := run_append1 (w := w) t ty e i z sz ht hi hz hsz hzs hby v n b c hA hn ad c1 news hl hnews h1
    refine ⟨v', W, b', c', hr, hG, ?_⟩
    rcases hG.how with ⟨q1, _, q3⟩ | q
    · exact Or.inl ⟨q1, hroom, q3⟩
    · exact Or.inr q
  · subst hsz
    have hS : Src Hvah.prog i.size t (.slice (some ad) 1 c1) 1 news w := Src.ofSlice w ht ad 1 c1 news (by omega) hnews h1
    have fits : ∀ sCap, sCap < n + 1 → Builtin.nextslicecap (n + 1) sCap * i.bytes ≤ 281474976710656 := fun sCap h =>
      growslice_fits_wide h (Nat.le_trans (Nat.mul_le_mul_left _ hby) (by omega))
    have grow : ∀ (base : Option Addr) (sCap : Nat) (olds : List Value), v = .slice base n sCap → olds = (List.range (n * i.size)).map c → (Builtin.firstCells i.size n (.slice base n sCap)).run Hvah.prog w.drew = .ok olds.toArray w.drew → sCap < n + 1 →
        ∃ v' W b' c', (Builtin.append_ #[t, t] ty #[v, .slice (some ad) 1 c1]).run Hvah.prog w = .ok v' W ∧ Grown w e i.size v n b c news v' W b' c' ∧ (b' = b ∧ (∃ cap, v = .slice (some ⟨b, 0, none⟩) n cap ∧ n + 1 ≤ cap) ∧ Mod (· = b) w W ∨ (b' = w.heap.size ∧ Ext w W)) := fun base sCap olds hv ho hold hlt => by
      have hr := run_append_grow_src (P := Hvah.prog) w t t ty e i z ht hi hz base n sCap olds hold _ 1 news hS hlt (by omega) (fits sCap hlt)
      have hge := grownCap_ge w (n + 1) sCap e
      have hle := grownCap_le_maxLen w (n + 1) sCap e (by unfold maxLen; omega)
      obtain ⟨cap, hcap⟩ : ∃ cap, grownCap w (n + 1) sCap e = cap := ⟨_, rfl⟩
      rw [hcap] at hr hge hle
      obtain ⟨C, hC⟩ : ∃ C, C = (olds ++ news).toArray ++ Builtin.zeroCells z.cells (cap - (n + 1)) := ⟨_, rfl⟩
      rw [← hC] at hr
      have hol : olds.length = n * i.size := by rw [ho]; simp
      have hCs : C.size = cap * i.size := by
        rw [hC, Array.size_append, size_zeroCells, hzs, List.size_toArray, List.length_append, hol, hl, ← Nat.succ_mul, ← Nat.add_mul]
        congr 1; omega
      have hB := blk_new w.drew C e z
      rw [hCs] at hB
      refine ⟨_, _, w.heap.size, fun j => C.getD j z, by rw [hv]; exact hr, ⟨Or.inr ⟨cap, rfl, hge, by unfold maxLen at hle; omega, hB⟩, fun j hj => ?_, fun j u hu => ?_, Or.inr ⟨rfl, ((Ext.refl w).drew).alloc _ _⟩, ⟨cap, rfl⟩⟩, Or.inr ⟨rfl, ((Ext.refl w).drew).alloc _ _⟩⟩
      · show C.getD j z = c j
        rw [hC, Array.getD_eq_getD_getElem?, Array.getElem?_append_left (by simp; omega), List.getElem?_toArray, List.getElem?_append_left (by omega), ho]
        simp [hj]
      · have hj : j < news.length := (List.getElem?_eq_some_iff.1 hu).1
        show C.getD (n * i.size + j) z = u
        rw [hC, Array.getD_eq_getD_getElem?, Array.getElem?_append_left (by simp; omega), List.getElem?_toArray, List.getElem?_append_right (by omega), hol, Nat.add_sub_cancel_left, hu]
        rfl
    rcases hA with ⟨rfl, rfl⟩ | ⟨cap, rfl, h2, h3, hB⟩
    · exact grow none 0 [] rfl (by simp) (by simpa using run_firstCells_none (P := Hvah.prog) w.drew i.size 0 0 0) (by omega)
    · have hr2 : ¬ n + 1 ≤ cap := fun q => hroom ⟨cap, rfl, q⟩
      refine grow (some ⟨b, 0, none⟩) cap ((List.range (n * i.size)).map c) rfl rfl ?_ (by omega)
      refine run_firstCells_some w.drew i.size n ⟨b, 0, none⟩ n cap _ (by simp) ?_
      have := (Blk.drew hB).range (n * i.size) (Nat.mul_le_mul_right _ h2)
      exact this
theorem step_append1g (hg : o.guard = none) (s x : Operand) (t : TypeId) (hop : o.op = Op.call { callee := Callee.builtin Builtin.append, args := #[s, x], argTypes := #[t, t] })
    (e : TypeId) (i : TypeInfo) (z : Value) (sz : Nat) (ht : Hvah.prog.underlying t = some (.slice e)) (hi : Hvah.prog.info? e = some i) (hz : i.zero = some z) (hsz : i.size = sz) (hzs : z.cells.size = sz)
    (hby : i.bytes ≤ 4096) (v : Value) (n b : Nat) (c : Nat → Value) (hA : Arn w e sz v n b c) (hn : n ≤ 1048576)
    (ad : Addr) (c1 : Nat) (news : List Value) (hl : news.length = sz) (hnews : ∀ j u, news[j]? = some u → w.cell? (ad.add j) = some u) (h1 : ∀ u ∈ news, u.oneCell' = true)
    (hs : a.eval s = v) (hx : a.eval x = .slice (some ad) 1 c1)
    (hK : ∀ v' W b' c', Grown w e sz v n b c news v' W b' c' → (b' = b ∧ (∃ cap, v = .slice (some ⟨b, 0, none⟩) n cap ∧ n + 1 ≤ cap) ∧ Mod (· = b) w W ∨ (b' = w.heap.size ∧ Ext w W)) → K (a.put o.dst v') W) :
    if Region.wanted o (yielded ops a.tmps) = true then Oper.wp Hvah.prog o a w K Q else E := by
  have hw : Region.wanted o (yielded ops a.tmps) = true := by simp [Region.wanted, hg]
  rw [if_pos hw]
  obtain ⟨v', W, b', c', hr, hG, hr2⟩ := run_append1g (w := w) t o.type e i z sz ht hi hz hsz hzs hby v n b c hA hn ad c1 news hl hnews h1
  unfold Oper.wp
  simp [execOp, hop, resolve, invoke, builtin, hs, hx, hr, Result.andThen]
  exact hK _ _ _ _ hG hr2
end
section
variable {kk : Nat → Value} {O TM TL TL' : Nat → Prop} {w w' w1 w2 : World} {Y F q n : Nat} {tF : TypeId} {c d c' d' : Nat → Value} {W W' : YW} {start : List (Nat × Nat × Nat)} {st st' : ASt} {f f' : AFrame}
/-- The world's cells and the list of logs are written. -/
theorem YX.keepYL (h : YX kk O TM TL w Y F q n tF c d W start st f) (m : Mod (fun x => x = Y ∨ TL x) w w') (hB : Blk w' Y 179 118 c') (hc : ∀ i, 8 ≤ i → c' i = c i) (hwc : YWC O w' c' 0 W') (hlim : YLim W') (htl : ∀ b, TL' b → O b ∧ b ≠ Y ∧ b ≠ F ∧ ¬ TM b) (hlg : LogL TL' O w' (c' 4) W'.logs)
    (hst : st' = { st with now := W'.abs }) : YX kk O TM TL' w' Y F q n tF c' d W' start st' f := by
  have hs : ∀ b, ¬ O b → ¬ (b = Y ∨ TL b) := fun b hb e => e.elim (fun e => hb (e ▸ h.oY)) (fun e => hb (h.tl b e).1)
  subst hst
  refine ⟨hB, h.bF.mod m (fun e => e.elim (fun e => h.ne e.symm) (fun e => (h.tl F e).2.2.1 rfl)), h.hq, hwc, hlim, ?_, h.sl, h.fc.keep m hs (fun b hb e => e.elim (fun e => (h.tm b hb).2.1 e) (fun e => (h.tl b e).2.2.2 hb)), h.ok, h.small.mod m, ?_, ?_, ?_, h.pLt, ?_, h.oLt, rfl, h.orig, h.oY, h.oF, h.ne, fun i hi => (hc i hi).trans (h.hi i hi), h.tm, htl, Or.inl hlg⟩
  · rw [hc _ (by decide)]; exact TmpL.keep h.st8 m hs
  · rw [hc _ (by decide)]; exact h.ret.keep m hs
  · exact h.env.same (fun j hj _ => hc j (by omega)) (fun _ _ q => q.keep m hs)
  · rw [hc _ (by decide)]; exact h.price.keep m hs
  · exact h.origin.same h.oLt (fun j hj => hc _ (by omega))
theorem YX.lgA (h : YX kk O TM TL w Y F q n tF c d W start st f) : ∃ b cL, Arn w 141 22 (c 4) W.logs.length b cL ∧ (∀ (i : Nat) (h : i < W.logs.length), LgC O w cL (i * 22) W.logs[i]) ∧ ((∀ cap, c 4 = .slice (some ⟨b, 0, none⟩) W.logs.length cap → TL b) ∨ (∀ cap, c 4 = .slice (some ⟨b, 0, none⟩) W.logs.length cap → cap = W.logs.length)) := by
  rcases h.lg with k | ⟨k, k2⟩
  · obtain ⟨b, cL, h1, h2, h3⟩ := GRow.arn k
    exact ⟨b, cL, h1, h3, Or.inl h2⟩
  · obtain ⟨b, cL, h1, h2, h3⟩ := GRow.arn k
    exact ⟨b, cL, h1, h3, Or.inr (fun cap e => k2 _ _ _ e)⟩
/-- A world with one log more. -/
def YW.putLog (W : YW) (l : ALog) : YW := { W with logs := W.logs ++ [l] }
theorem YW.putLog_abs (W : YW) (l : ALog) : (W.putLog l).abs = W.abs.putLog l := rfl
theorem lgc_new {l : ALog} {tv dv : Value} (ha : l.addr < 2 ^ 160) (ht : WL O w tv l.topics) (h4 : l.topics.length ≤ 4) (hd : NL O w dv l.data) {o : Nat} (hn : ∀ j u, (lgV l.addr tv dv).toList[j]? = some u → c (o + j) = u) : LgC O w c o l := by
  have hsz := av_size ha
  have g : ∀ j u, (lgV l.addr tv dv)[j]? = some u → c (o + j) = u := fun j u hu => hn j u (by rw [Array.getElem?_toList]; exact hu)
  have e20 : c (o + 20) = tv := g 20 tv (by rw [Array.getElem?_append_right (by omega), hsz]; rfl)
  have e21 : c (o + 21) = dv := g 21 dv (by rw [Array.getElem?_append_right (by omega), hsz]; rfl)
  refine ⟨fun j v hv => g j v ?_, ha, by rw [e20]; exact ht, h4, by rw [e21]; exact hd⟩
  rw [Array.getElem?_append_left (Array.getElem?_eq_some_iff.1 hv).1]; exact hv
theorem GRow.pushB {α : Type} {ty : TypeId} {sz : Nat} {R R' : (Nat → Value) → Nat → α → Prop} {T' : Nat → Prop} {l : List α} {x : α} {b' cp : Nat} {v' : Value} (hv : v' = .slice (some ⟨b', 0, none⟩) (l.length + 1) cp) (h2 : l.length + 1 ≤ cp) (h3 : cp ≤ 9223372036854775807) (hB : Blk w2 b' (cp * sz) ty c') (hold : ∀ j, j < l.length * sz → c' j = c j)
    (hl : ∀ (i : Nat) (h : i < l.length), R c (i * sz) l[i]) (hR : ∀ c c' o y, (∀ j, j < sz → c' (o + j) = c (o + j)) → R c o y → R' c' o y) (hx : R' c' (l.length * sz) x) (hT : T' b') : GRow ty sz R' T' w2 v' (l ++ [x]) := by
  refine Or.inr ⟨b', cp, c', by rw [hv]; simp, by simpa using h2, h3, hB, hT, fun i hi => ?_⟩
  by_cases h5 : i < l.length
  · rw [List.getElem_append_left h5]
    refine hR c c' _ _ (fun j hj => hold _ ?_) (hl i h5)
    have : (i + 1) * sz ≤ l.length * sz := Nat.mul_le_mul_right _ h5
    rw [Nat.add_mul, Nat.one_mul] at this; omega
  · have : i = l.length := by simp at hi; omega
    subst this
    simp only [List.getElem_concat_length]
    exact hx
/-- The list of logs has grown. -/
theorem YX.putLog (hX : YX kk O TM TL w Y F q n tF c d W start st f) {l : ALog} {tv dv : Value} (ha : l.addr < 2 ^ 160) (ht : WL O w tv l.topics) (h4 : l.topics.length ≤ 4) (hd : NL O w dv l.data) {b b' : Nat} {cL cL' : Nat → Value} {v' : Value} (hrow : ∀ (i : Nat) (h : i < W.logs.length), LgC O w cL (i * 22) W.logs[i])
    (hT : (∀ cap, c 4 = .slice (some ⟨b, 0, none⟩) W.logs.length cap → TL b) ∨ (∀ cap, c 4 = .slice (some ⟨b, 0, none⟩) W.logs.length cap → cap = W.logs.length)) (hG : Grown w 141 22 (c 4) W.logs.length b cL (lgV l.addr tv dv).toList v' w1 b' cL')
    (hR : b' = b ∧ (∃ cap, c 4 = .slice (some ⟨b, 0, none⟩) W.logs.length cap ∧ W.logs.length + 1 ≤ cap) ∧ Mod (· = b) w w1 ∨ (b' = w.heap.size ∧ Ext w w1)) (m : Mod (· = Y) w1 w2) (hB : Blk w2 Y 179 118 (updv c 4 v')) (hl : YLim (W.putLog l)) :
    YX kk (Wd O b') TM (· = b') w2 Y F q n tF (updv c 4 v') d (W.putLog l) start { st with now := st.now.putLog l } f ∧ Mod (fun x => x = Y ∨ TL x) w w2 ∧ (TL b' ∨ b' = w.heap.size) := by
  have hnow : ({ st with now := st.now.putLog l } : ASt) = { st with now := (W.putLog l).abs } := by rw [YW.putLog_abs, hX.now]
  have hc : ∀ i, 8 ≤ i → updv c 4 v' i = c i := fun i hi => updv_ne _ _ (by omega)
  rcases hR with ⟨q1, ⟨cap, q2, q3⟩, q4⟩ | ⟨q1, q2⟩
  · have tb : TL b := by
      rcases hT with k | k
      · exact k _ q2
      · have := k _ q2; omega
    subst q1
    obtain ⟨o1, o2, o3, o4⟩ := hX.tl b' tb
    have eO : Wd O b' = O := by
      funext x
      exact propext ⟨fun k => k.elim id (fun e => e ▸ o1), Or.inl⟩
    rw [eO]
    have mA : Mod (fun x => x = Y ∨ TL x) w w2 := (q4.sub (fun x hx => Or.inr (by have hx2 : x = b' := hx; rw [hx2]; exact tb))).trans (m.sub (fun x hx => Or.inl hx))
    have hs : ∀ x, ¬ O x → ¬ (x = Y ∨ TL x) := fun x hx e => e.elim (fun e => hx (e ▸ hX.oY)) (fun e => hx (hX.tl x e).1)
    have k := hX.wc.keep mA hs
    obtain ⟨cp, z1, z2, z3, z4⟩ : ∃ cp, v' = .slice (some ⟨b', 0, none⟩) (W.logs.length + 1) cp ∧ W.logs.length + 1 ≤ cp ∧ cp ≤ 9223372036854775807 ∧ Blk w2 b' (cp * 22) 141 cL' := by
      rcases hG.arn with ⟨z, _⟩ | ⟨cp, z1, z2, z3, z4⟩
      · omega
      · exact ⟨cp, z1, z2, z3, z4.mod m o2⟩
    refine ⟨hX.keepYL mA hB hc ⟨k.accts, k.warmA, k.warmS, k.refund, k.temps, k.made, k.gone⟩ hl (fun x hx => by rw [hx]; exact ⟨o1, o2, o3, o4⟩) ?_ hnow, mA, Or.inl tb⟩
    rw [updv_same]
    exact GRow.pushB z1 z2 z3 z4 hG.old hrow (fun c1 c2 o y hj hy => (LgC.cells hy hj).keep mA hs) ((lgc_new ha ht h4 hd hG.new).keep mA hs) rfl
  · have hb1 : b' < w1.heap.size := by
      rcases hG.arn with ⟨z, _⟩ | ⟨cp, z1, z2, z3, z4⟩
      · omega
      · exact z4.lt
    have hX1 := hX.widen0 (B := b') (by omega) q2 hb1
    have hYl := hX.bY.lt
    have hFl := hX.bF.lt
    have nY : b' ≠ Y := by omega
    have hs : ∀ x, ¬ Wd O b' x → ¬ (x = Y ∨ TL x) := fun x hx e => e.elim (fun e => hx (e ▸ hX1.oY)) (fun e => hx (hX1.tl x e).1)
    have mA : Mod (fun x => x = Y ∨ TL x) w1 w2 := m.sub (fun x hx => Or.inl hx)
    have k := hX1.wc.keep mA hs
    obtain ⟨cp, z1, z2, z3, z4⟩ : ∃ cp, v' = .slice (some ⟨b', 0, none⟩) (W.logs.length + 1) cp ∧ W.logs.length + 1 ≤ cp ∧ cp ≤ 9223372036854775807 ∧ Blk w2 b' (cp * 22) 141 cL' := by
      rcases hG.arn with ⟨z, _⟩ | ⟨cp, z1, z2, z3, z4⟩
      · omega
      · exact ⟨cp, z1, z2, z3, z4.mod m nY⟩
    have hge : w.heap.size ≤ b' := by omega
    refine ⟨hX1.keepYL mA hB hc ⟨k.accts, k.warmA, k.warmS, k.refund, k.temps, k.made, k.gone⟩ hl (fun x hx => by have hx2 : x = b' := hx; rw [hx2]; exact ⟨Or.inr rfl, nY, by omega, fun t => by have := hX.small b' (hX.tm b' t).1; omega⟩) ?_ hnow, (q2.mod _).trans mA, Or.inr q1⟩
    rw [updv_same]
    exact GRow.pushB z1 z2 z3 z4 hG.old hrow (fun c1 c2 o y hj hy => (((LgC.cells hy hj).widen hge).ext q2).keep mA hs) ((((lgc_new ha ht h4 hd hG.new).widen hge).ext q2).keep mA hs) rfl
end
end Go.Proofs.YgvahwGreat
