import Derived.Test.YgvahwGreatYv
import Derived.Test.YgvahwGreatYr
import Derived.Test.YgvahwGreatTp
namespace Go.Proofs.YgvahwGreat
open Go.RowKit
set_option linter.unusedSimpArgs false
/-- A frame with the world that it puts back and the tag of its memory. -/
structure YFrm where
  f : AFrame
  sv : YW
  TM : Nat → Prop
/-- A frame at cell q of the frames' block. -/
structure YFr (O : Nat → Prop) (w : World) (d : Nat → Value) (q : Nat) (x : YFrm) : Prop where
  fc : YFC O x.TM w d q x.f
  ok : FOK x.f
  sc : YWC O w d (q + 52) x.sv
  slg : LogL (fun b => ¬ O b) O w (d (q + 56)) x.sv.logs
  full : Full (d (q + 56))
  lim : YLim x.sv
  wf : x.sv.WF
  sav : x.f.saved = x.sv.abs
/-- All frames, the top first. -/
def YFL (O : Nat → Prop) (w : World) (d : Nat → Value) : List YFrm → Prop
  | [] => True
  | x :: r => YFr O w d (r.length * 60) x ∧ YFL O w d r
/-- A frame's cells stand elsewhere too. -/
theorem YFC.same {O TM : Nat → Prop} {w : World} {d d' : Nat → Value} {q q' : Nat} {f : AFrame} (h : YFC O TM w d q f) (hs : f.self < 2 ^ 160) (hc : f.caller < 2 ^ 160) (hd : ∀ j, j < 52 → d' (q' + j) = d (q + j)) : YFC O TM w d' q' f where
  kind := by have := hd 0 (by decide); simp only [Nat.add_zero] at this; rw [this]; exact h.kind
  pre := by rw [hd _ (by decide)]; exact h.pre
  static := by rw [hd _ (by decide)]; exact h.static
  pc := by rw [hd _ (by decide)]; exact h.pc
  gas := by rw [hd _ (by decide)]; exact h.gas
  value := by rw [hd _ (by decide)]; exact h.value
  outOff := by rw [hd _ (by decide)]; exact h.outOff
  outLen := by rw [hd _ (by decide)]; exact h.outLen
  stack := by rw [hd _ (by decide)]; exact h.stack
  mem := by rw [hd _ (by decide)]; exact h.mem
  code := by rw [hd _ (by decide)]; exact h.code
  input := by rw [hd _ (by decide)]; exact h.input
  self := fun i v hv => by
    have hi : i < 20 := by have := (Array.getElem?_eq_some_iff.1 hv).1; rwa [av_size hs] at this
    rw [Nat.add_assoc, hd _ (by omega), ← Nat.add_assoc]; exact h.self i v hv
  caller := fun i v hv => by
    have hi : i < 20 := by have := (Array.getElem?_eq_some_iff.1 hv).1; rwa [av_size hc] at this
    rw [Nat.add_assoc, hd _ (by omega), ← Nat.add_assoc]; exact h.caller i v hv
  mcap := by rw [hd _ (by decide)]; exact h.mcap
theorem YWC.cells {O : Nat → Prop} {w : World} {d d' : Nat → Value} {q q' : Nat} {W : YW} (h : YWC O w d q W) (hd : ∀ j, j < 8 → d' (q' + j) = d (q + j)) : YWC O w d' q' W where
  accts := by have := hd 0 (by decide); simp only [Nat.add_zero] at this; rw [this]; exact h.accts
  warmA := by rw [hd _ (by decide)]; exact h.warmA
  warmS := by rw [hd _ (by decide)]; exact h.warmS
  refund := by rw [hd _ (by decide)]; exact h.refund
  temps := by rw [hd _ (by decide)]; exact h.temps
  made := by rw [hd _ (by decide)]; exact h.made
  gone := by rw [hd _ (by decide)]; exact h.gone
section
variable {O O' S : Nat → Prop} {w w' : World} {d d' : Nat → Value} {q q' : Nat} {x : YFrm}
theorem YFr.same (h : YFr O w d q x) (hd : ∀ j, j < 60 → d' (q' + j) = d (q + j)) : YFr O w d' q' x :=
  ⟨h.fc.same h.ok.self h.ok.caller (fun j hj => hd j (by omega)), h.ok, h.sc.cells (fun j hj => by rw [Nat.add_assoc, hd _ (by omega), ← Nat.add_assoc]), by rw [hd 56 (by decide)]; exact h.slg, by rw [hd 56 (by decide)]; exact h.full, h.lim, h.wf, h.sav⟩
theorem YFr.reo (h : YFr O w d q x) (hO : ∀ b, b < w.heap.size → O' b → O b) : YFr O' w d q x :=
  ⟨h.fc.reo hO, h.ok, h.sc.reo hO, GRow.reo h.slg hO (fun _ _ _ k => k.reo hO), h.full, h.lim, h.wf, h.sav⟩
theorem YFr.ext (h : YFr O w d q x) (e : Ext w w') : YFr O w' d q x :=
  ⟨h.fc.ext e, h.ok, h.sc.ext e, GRow.ext h.slg e (fun _ _ _ k => k.ext e), h.full, h.lim, h.wf, h.sav⟩
theorem YFr.keep (h : YFr O w d q x) (m : Mod S w w') (hs : ∀ b, ¬ O b → ¬ S b) (ht : ∀ b, x.TM b → ¬ S b) : YFr O w' d q x :=
  ⟨h.fc.keep m hs ht, h.ok, h.sc.keep m hs, LogL.keep h.slg m hs hs, h.full, h.lim, h.wf, h.sav⟩
theorem YFL.same : ∀ {L : List YFrm}, YFL O w d L → (∀ j, j < L.length * 60 → d' j = d j) → YFL O w d' L
  | [], _, _ => trivial
  | x :: r, h, hd => by
    rw [List.length_cons] at hd
    exact ⟨h.1.same (fun j hj => hd _ (by omega)), YFL.same h.2 (fun j hj => hd j (by omega))⟩
theorem YFL.reo (hO : ∀ b, b < w.heap.size → O' b → O b) : ∀ {L : List YFrm}, YFL O w d L → YFL O' w d L
  | [], _ => trivial
  | _ :: _, h => ⟨h.1.reo hO, YFL.reo hO h.2⟩
theorem YFL.ext (e : Ext w w') : ∀ {L : List YFrm}, YFL O w d L → YFL O w' d L
  | [], _ => trivial
  | _ :: _, h => ⟨h.1.ext e, YFL.ext e h.2⟩
theorem YFL.keep (m : Mod S w w') (hs : ∀ b, ¬ O b → ¬ S b) : ∀ {L : List YFrm}, YFL O w d L → (∀ x ∈ L, ∀ b, x.TM b → ¬ S b) → YFL O w' d L
  | [], _, _ => trivial
  | x :: _, h, ht => ⟨h.1.keep m hs (ht x (by simp)), YFL.keep m hs h.2 (fun y hy => ht y (by simp [hy]))⟩
end
/-- The specification's whole state. -/
structure YZ (O TL : Nat → Prop) (w : World) (Y F n : Nat) (c d : Nat → Value) (W : YW) (start : List (Nat × Nat × Nat)) (st : ASt) (tot : Nat) (L : List YFrm) : Prop where
  bY : Blk w Y 179 118 c
  wc : YWC O w c 0 W
  lim : YLim W
  wf : W.WF
  st8 : TmpL 149 O w (c 8) start
  sl : start.length ≤ 90000
  fv : FV w 156 60 (c 9) L.length F n d
  few : L.length ≤ 7
  small : Small O w
  ret : NL O w (c 10) st.ret
  phase : c 11 = .int .u8 (st.phase : Nat)
  hLt : st.phase ≤ 2
  status : c 12 = .int .u8 (st.status : Nat)
  applied : c 13 = .int .u8 (st.applied : Nat)
  limit : NV O w (c 14) st.limit
  left : st.phase = 2 → NV O w (c 16) st.left
  price : NV O w (c 17) st.price
  pLt : st.price < P256
  total : NV O w (c 18) tot
  tg : NV O w (c 15) st.txGas
  origin : AAt c 19 st.origin
  oLt : st.origin < 2 ^ 160
  made : AAt c 39 st.made
  mLt : st.made < 2 ^ 160
  env : EnvC O w c 59 st.env
  now : st.now = W.abs
  orig : st.orig = lookT start
  oY : O Y
  oF : O F
  ne : Y ≠ F
  frs : st.frames = L.map (·.f)
  fl : YFL O w d L
  tm : ∀ x ∈ L, ∀ b, x.TM b → O b ∧ b ≠ Y ∧ b ≠ F ∧ ¬ TL b
  td : L.Pairwise fun x y => ∀ b, x.TM b → ¬ y.TM b
  tl : ∀ b, TL b → O b ∧ b ≠ Y ∧ b ≠ F
  lg : LogL TL O w (c 4) W.logs ∨ (LogL (fun b => ¬ O b) O w (c 4) W.logs ∧ Full (c 4))
section
variable {O TL : Nat → Prop} {w w' : World} {Y F n : Nat} {c d : Nat → Value} {W : YW} {start : List (Nat × Nat × Nat)} {st : ASt} {tot : Nat} {L : List YFrm}
theorem FV.ext {e : TypeId} {sz : Nat} {v : Value} {k : Nat} (h : FV w e sz v k F n d) (x : Ext w w') : FV w' e sz v k F n d := by
  rcases h with h | ⟨cap, h1, h2, h3, h4, h5⟩
  · exact Or.inl h
  · exact Or.inr ⟨cap, h1, h2, h3, h4.ext x, h5⟩
theorem YZ.ext (h : YZ O TL w Y F n c d W start st tot L) (e : Ext w w') : YZ O TL w' Y F n c d W start st tot L :=
  ⟨h.bY.ext e, h.wc.ext e, h.lim, h.wf, TmpL.ext h.st8 e, h.sl, h.fv.ext e, h.few, h.small.ext e, h.ret.ext e, h.phase, h.hLt, h.status, h.applied, h.limit.ext e, fun q => (h.left q).ext e, h.price.ext e, h.pLt, h.total.ext e, h.tg.ext e, h.origin, h.oLt, h.made, h.mLt, h.env.ext e, h.now, h.orig, h.oY, h.oF, h.ne, h.frs, YFL.ext e h.fl, h.tm, h.td, h.tl,
   h.lg.imp (fun k => GRow.ext k e (fun _ _ _ k => k.ext e)) (fun k => ⟨GRow.ext k.1 e (fun _ _ _ k => k.ext e), k.2⟩)⟩
/-- The top frame. -/
theorem YZ.top {x : YFrm} {r : List YFrm} (h : YZ O TL w Y F n c d W start st tot (x :: r)) : YX c O x.TM TL w Y F (r.length * 60) n 156 c d W start st x.f := by
  obtain ⟨cap, h1, h2, h3, h4, h5⟩ : ∃ cap, c 9 = .slice (some ⟨F, 0, none⟩) (r.length + 1) cap ∧ r.length + 1 ≤ cap ∧ cap ≤ 9223372036854775807 ∧ Blk w F n 156 d ∧ (cap * 60 = n ∨ (cap = r.length + 1 ∧ (r.length + 1) * 60 ≤ n)) := by
    rcases h.fv with q | q
    · simp at q
    · exact q
  exact ⟨h.bY, h4, by omega, h.wc, h.lim, h.st8, h.sl, h.fl.1.fc, h.fl.1.ok, h.small, h.ret, h.env, h.price, h.pLt, h.origin, h.oLt, h.now, h.orig, h.oY, h.oF, h.ne, fun _ _ => rfl, fun b hb => ⟨(h.tm x (by simp) b hb).1, (h.tm x (by simp) b hb).2.1, (h.tm x (by simp) b hb).2.2.1⟩, fun b hb => ⟨(h.tl b hb).1, (h.tl b hb).2.1, (h.tl b hb).2.2, fun q => (h.tm x (by simp) b q).2.2.2 hb⟩, h.lg⟩
/-- The whole state behind a change of the top frame and of the world. -/
theorem YZ.back {x : YFrm} {r : List YFrm} {O' TM' TL' : Nat → Prop} {c' d' : Nat → Value} {W' : YW} {st' : ASt} {f' : AFrame} (h : YZ O TL w Y F n c d W start st tot (x :: r)) (hX : YX c O' TM' TL' w' Y F (r.length * 60) n 156 c' d' W' start st' f') (hwf : W'.WF)
    (hO : ∀ b, b < w.heap.size → (O' b ↔ O b)) (hTM : ∀ b, TM' b → x.TM b ∨ w.heap.size ≤ b) (hTL : ∀ b, TL' b → TL b ∨ w.heap.size ≤ b) (m : Mod (fun b => b = Y ∨ b = F ∨ x.TM b ∨ TL b) w w') (hd : ∀ i, i < r.length * 60 ∨ r.length * 60 + 52 ≤ i → d' i = d i)
    (hsv : f'.saved = x.f.saved) (hst : st' = { st with now := W'.abs }) : YZ O' TL' w' Y F n c' d' W' start { st' with frames := f' :: r.map (·.f) } tot (⟨f', x.sv, TM'⟩ :: r) := by
  have hs : ∀ b, ¬ O b → ¬ (b = Y ∨ b = F ∨ x.TM b ∨ TL b) := fun b hb q => by
    rcases q with q | q | q | q
    · exact hb (q ▸ h.oY)
    · exact hb (q ▸ h.oF)
    · exact hb (h.tm x (by simp) b q).1
    · exact hb (h.tl b q).1
  have hO' : ∀ b, b < w'.heap.size → O' b → (w.heap.size ≤ b ∨ O b) := fun b _ q => by
    rcases Nat.lt_or_ge b w.heap.size with k | k
    · exact Or.inr ((hO b k).1 q)
    · exact Or.inl k
  have hc : ∀ i, 8 ≤ i → c' i = c i := hX.hi
  have htd := List.pairwise_cons.1 h.td
  obtain ⟨cap, h1, h2, h3, h4, h5⟩ : ∃ cap, c 9 = .slice (some ⟨F, 0, none⟩) (r.length + 1) cap ∧ r.length + 1 ≤ cap ∧ cap ≤ 9223372036854775807 ∧ Blk w F n 156 d ∧ (cap * 60 = n ∨ (cap = r.length + 1 ∧ (r.length + 1) * 60 ≤ n)) := by
    rcases h.fv with q | q
    · simp at q
    · exact q
  have hOo : ∀ b, b < w.heap.size → O' b → O b := fun b hb q => (hO b hb).1 q
  have hs' : ∀ b, ¬ O' b → b < w.heap.size → ¬ (b = Y ∨ b = F ∨ x.TM b ∨ TL b) := fun b hb hl q => hs b (fun k => hb ((hO b hl).2 k)) q
  have hst2 : st' = { st with now := W'.abs } := hst
  subst hst
  -- the frames below and what the top keeps, first with the new tags, then in the new world
  have hfl : YFL O w' d r := YFL.keep m hs h.fl.2 (fun y hy b hb q => by
    rcases q with q | q | q | q
    · exact (h.tm y (by simp [hy]) b hb).2.1 q
    · exact (h.tm y (by simp [hy]) b hb).2.2.1 q
    · exact htd.1 y hy b q hb
    · exact (h.tm y (by simp [hy]) b hb).2.2.2 q)
  have reW : ∀ {v : Value} {y : Nat}, NV O w v y → NV O' w' v y := fun k => by
    have k1 := k.reo hOo
    obtain ⟨l, ⟨o, cp, q1, q2, q3, q4⟩, q5⟩ := k1
    refine ⟨l, ⟨o, cp, q1, q2, q3, q4.lt, fun hl => ?_⟩, q5⟩
    obtain ⟨b, off, k1, k2, k3, k4⟩ := q4.spot hl
    exact ⟨b, off, k1, k2, Nat.lt_of_lt_of_le k3 m.size, fun i hi => (m.cell (p := ⟨b, off + i, none⟩) k3 (hs' b k2 k3)).trans (k4 i hi)⟩
  have h0 := h.fl.1
  have hsc : YWC O' w' d (r.length * 60 + 52) x.sv ∧ LogL (fun b => ¬ O' b) O' w' (d (r.length * 60 + 56)) x.sv.logs := by
    have a1 := h0.sc.reo hOo
    have a2 := GRow.reo (R' := LgC O' w) h0.slg hOo (fun _ _ _ k => k.reo hOo)
    have m2 : Mod (fun b => (b = Y ∨ b = F ∨ x.TM b ∨ TL b) ∧ b < w.heap.size) w w' := ⟨m.os, m.tape, m.output, m.size, fun i hi q => m.block i hi (fun k => q ⟨k, hi⟩), m.fz, m.new, m.shape⟩
    have hs2 : ∀ b, ¬ O' b → ¬ ((b = Y ∨ b = F ∨ x.TM b ∨ TL b) ∧ b < w.heap.size) := fun b hb q => hs' b hb q.2 q.1
    exact ⟨a1.keep m2 hs2, LogL.keep a2 m2 hs2 hs2⟩
  have hfl' : YFL O' w' d r := by
    have a1 := YFL.reo (O' := O') hOo h.fl.2
    have m2 : Mod (fun b => (b = Y ∨ b = F ∨ x.TM b ∨ TL b) ∧ b < w.heap.size) w w' := ⟨m.os, m.tape, m.output, m.size, fun i hi q => m.block i hi (fun k => q ⟨k, hi⟩), m.fz, m.new, m.shape⟩
    have hs2 : ∀ b, ¬ O' b → ¬ ((b = Y ∨ b = F ∨ x.TM b ∨ TL b) ∧ b < w.heap.size) := fun b hb q => hs' b hb q.2 q.1
    exact YFL.keep m2 hs2 a1 (fun y hy b hb q => by
      rcases q.1 with q | q | q | q
      · exact (h.tm y (by simp [hy]) b hb).2.1 q
      · exact (h.tm y (by simp [hy]) b hb).2.2.1 q
      · exact htd.1 y hy b q hb
      · exact (h.tm y (by simp [hy]) b hb).2.2.2 q)
  exact
  { bY := hX.bY
    wc := hX.wc
    lim := hX.lim
    wf := hwf
    st8 := hX.st8
    sl := h.sl
    fv := Or.inr ⟨cap, by rw [hc _ (by decide)]; exact h1, h2, h3, hX.bF, h5⟩
    few := h.few
    small := hX.small
    ret := hX.ret
    phase := by rw [hc _ (by decide)]; exact h.phase
    hLt := h.hLt
    status := by rw [hc _ (by decide)]; exact h.status
    applied := by rw [hc _ (by decide)]; exact h.applied
    limit := by rw [hc _ (by decide)]; exact reW h.limit
    left := fun q => by rw [hc _ (by decide)]; exact reW (h.left q)
    price := hX.price
    pLt := h.pLt
    total := by rw [hc _ (by decide)]; exact reW h.total
    tg := by rw [hc _ (by decide)]; exact reW h.tg
    origin := hX.origin
    oLt := h.oLt
    made := h.made.same h.mLt (fun j hj => hc _ (by omega))
    mLt := h.mLt
    env := hX.env
    now := rfl
    orig := h.orig
    oY := hX.oY
    oF := hX.oF
    ne := h.ne
    frs := rfl
    fl := ⟨⟨hX.fc, hX.ok, hsc.1.cells (fun j hj => hd _ (by right; omega)), by rw [hd _ (by right; omega)]; exact hsc.2, by rw [hd _ (by right; omega)]; exact h0.full, h0.lim, h0.wf, hsv.trans h0.sav⟩, YFL.same hfl' (fun j hj => hd j (Or.inl hj))⟩
    tm := fun y hy b hb => by
      rcases List.mem_cons.1 hy with e | hy
      · subst e
        exact ⟨(hX.tm b hb).1, (hX.tm b hb).2.1, (hX.tm b hb).2.2, fun q => (hX.tl b q).2.2.2 hb⟩
      · have k := h.tm y (by simp [hy]) b hb
        have hl := h.small b k.1
        refine ⟨(hO b hl).2 k.1, k.2.1, k.2.2.1, fun q => ?_⟩
        rcases hTL b q with q | q
        · exact k.2.2.2 q
        · omega
    td := List.pairwise_cons.2 ⟨fun y hy b hb q => by
      have k := h.tm y (by simp [hy]) b q
      have hl := h.small b k.1
      rcases hTM b hb with q2 | q2
      · exact htd.1 y hy b q2 q
      · omega, htd.2⟩
    tl := fun b hb => ⟨(hX.tl b hb).1, (hX.tl b hb).2.1, (hX.tl b hb).2.2.1⟩
    lg := hX.lg }
end
end Go.Proofs.YgvahwGreat
