import Derived.Test.YgvahwGreatYZ
namespace Go.Proofs.YgvahwGreat
open Go.RowKit
set_option linter.unusedSimpArgs false
section
variable {O TL : Nat → Prop} {w w' : World} {Y F n : Nat} {c c' d : Nat → Value} {W W' : YW} {start : List (Nat × Nat × Nat)} {st : ASt} {tot : Nat} {L : List YFrm}
theorem FV.mod {S : Nat → Prop} {e : TypeId} {sz : Nat} {v : Value} {k : Nat} (h : FV w e sz v k F n d) (m : Mod S w w') (hF : ¬ S F) : FV w' e sz v k F n d := by
  rcases h with h | ⟨cap, h1, h2, h3, h4, h5⟩
  · exact Or.inl h
  · exact Or.inr ⟨cap, h1, h2, h3, h4.mod m hF, h5⟩
theorem YZ.hsY (h : YZ O TL w Y F n c d W start st tot L) : ∀ b, ¬ O b → ¬ b = Y := fun _ hb q => hb (q ▸ h.oY)
theorem YZ.hsF (h : YZ O TL w Y F n c d W start st tot L) : ∀ b, ¬ O b → ¬ b = F := fun _ hb q => hb (q ▸ h.oF)
theorem YZ.flY (h : YZ O TL w Y F n c d W start st tot L) (m : Mod (· = Y) w w') : YFL O w' d L := YFL.keep m h.hsY h.fl (fun x hx b hb q => (h.tm x hx b hb).2.1 q)
/-- The world's cells are written. -/
theorem YZ.keepY (h : YZ O TL w Y F n c d W start st tot L) (m : Mod (· = Y) w w') (hB : Blk w' Y 179 118 c') (hc : ∀ i, 8 ≤ i → c' i = c i) (hwc : YWC O w' c' 0 W') (hlim : YLim W') (hwf : W'.WF)
    (hlg : LogL TL O w' (c' 4) W'.logs ∨ (LogL (fun b => ¬ O b) O w' (c' 4) W'.logs ∧ Full (c' 4))) : YZ O TL w' Y F n c' d W' start { st with now := W'.abs } tot L :=
  have hs := h.hsY
  { bY := hB
    wc := hwc
    lim := hlim
    wf := hwf
    st8 := by rw [hc _ (by decide)]; exact TmpL.keep h.st8 m hs
    sl := h.sl
    fv := by rw [hc _ (by decide)]; exact h.fv.mod m (fun q => h.ne q.symm)
    few := h.few
    small := h.small.mod m
    ret := by rw [hc _ (by decide)]; exact h.ret.keep m hs
    phase := by rw [hc _ (by decide)]; exact h.phase
    hLt := h.hLt
    status := by rw [hc _ (by decide)]; exact h.status
    applied := by rw [hc _ (by decide)]; exact h.applied
    limit := by rw [hc _ (by decide)]; exact h.limit.keep m hs
    left := fun q => by rw [hc _ (by decide)]; exact (h.left q).keep m hs
    price := by rw [hc _ (by decide)]; exact h.price.keep m hs
    pLt := h.pLt
    total := by rw [hc _ (by decide)]; exact h.total.keep m hs
    tg := by rw [hc _ (by decide)]; exact h.tg.keep m hs
    origin := h.origin.same h.oLt (fun j hj => hc _ (by omega))
    oLt := h.oLt
    made := h.made.same h.mLt (fun j hj => hc _ (by omega))
    mLt := h.mLt
    env := h.env.same (fun j hj _ => hc j (by omega)) (fun _ _ q => q.keep m hs)
    now := rfl
    orig := h.orig
    oY := h.oY
    oF := h.oF
    ne := h.ne
    frs := h.frs
    fl := h.flY m
    tm := h.tm
    td := h.td
    tl := h.tl
    lg := hlg }
/-- The returned bytes are written. -/
theorem YZ.putRet (h : YZ O TL w Y F n c d W start st tot L) (m : Mod (· = Y) w w') {v : Value} {l : List Nat} (hv : NL O w' v l) (hB : Blk w' Y 179 118 (updv c 10 v)) : YZ O TL w' Y F n (updv c 10 v) d W start { st with ret := l } tot L :=
  have hs := h.hsY
  have hc : ∀ i, i ≠ 10 → updv c 10 v i = c i := fun i hi => updv_ne _ _ hi
  { bY := hB
    wc := (h.wc.keep m hs).cells (fun j hj => by rw [hc _ (by omega)])
    lim := h.lim
    wf := h.wf
    st8 := by rw [hc _ (by decide)]; exact TmpL.keep h.st8 m hs
    sl := h.sl
    fv := by rw [hc _ (by decide)]; exact h.fv.mod m (fun q => h.ne q.symm)
    few := h.few
    small := h.small.mod m
    ret := by rw [updv_same]; exact hv
    phase := by rw [hc _ (by decide)]; exact h.phase
    hLt := h.hLt
    status := by rw [hc _ (by decide)]; exact h.status
    applied := by rw [hc _ (by decide)]; exact h.applied
    limit := by rw [hc _ (by decide)]; exact h.limit.keep m hs
    left := fun q => by rw [hc _ (by decide)]; exact (h.left q).keep m hs
    price := by rw [hc _ (by decide)]; exact h.price.keep m hs
    pLt := h.pLt
    total := by rw [hc _ (by decide)]; exact h.total.keep m hs
    tg := by rw [hc _ (by decide)]; exact h.tg.keep m hs
    origin := h.origin.same h.oLt (fun j hj => hc _ (by omega))
    oLt := h.oLt
    made := h.made.same h.mLt (fun j hj => hc _ (by omega))
    mLt := h.mLt
    env := h.env.same (fun j hj _ => hc j (by omega)) (fun _ _ q => q.keep m hs)
    now := h.now
    orig := h.orig
    oY := h.oY
    oF := h.oF
    ne := h.ne
    frs := h.frs
    fl := h.flY m
    tm := h.tm
    td := h.td
    tl := h.tl
    lg := h.lg.imp (fun k => by rw [hc _ (by decide)]; exact LogL.keep k m hs (fun b hb => (h.tl b hb).2.1)) (fun k => by rw [hc _ (by decide)]; exact ⟨LogL.keep k.1 m hs (fun b hb => hs b hb), k.2⟩) }
/-- A frame more: the slice has grown, then it is written. -/
theorem YZ.push {x : YFrm} {news : List Value} {v' : Value} {F' : Nat} {d' : Nat → Value} {w2 : World} (h : YZ O TL w Y F n c d W start st tot L) (hG : Grown w 156 60 (c 9) L.length F d news v' w' F' d') (m2 : Mod (· = Y) w' w2) (hB : Blk w2 Y 179 118 (updv c 9 v'))
    (hfew : L.length < 7) (hx : (∀ j u, news[j]? = some u → d' (L.length * 60 + j) = u) → YFr O w d' (L.length * 60) x) (hTM : ∀ b, ¬ x.TM b) :
    ∃ O' n', YZ O' TL w2 Y F' n' (updv c 9 v') d' W start { st with frames := x.f :: st.frames } tot (x :: L) ∧ (∀ b, b < w.heap.size → (O' b ↔ O b)) ∧ Mod (fun b => b = Y ∨ b = F) w w2 := by
  have hc : ∀ i, i ≠ 9 → updv c 9 v' i = c i := fun i hi => updv_ne _ _ hi
  obtain ⟨cap', hcap⟩ := hG.some
  obtain ⟨cp, q1, q2, q3, q4⟩ : ∃ cp, v' = .slice (some ⟨F', 0, none⟩) (L.length + 1) cp ∧ L.length + 1 ≤ cp ∧ cp ≤ 9223372036854775807 ∧ Blk w' F' (cp * 60) 156 d' := by
    rcases hG.arn with ⟨q, _⟩ | q
    · omega
    · exact q
  have hYl : Y < w.heap.size := h.bY.lt
  -- what the append has changed
  have hm1 : Mod (· = F) w w' := by
    rcases hG.how with ⟨_, _, m⟩ | ⟨_, e⟩
    · exact m
    · exact e.mod _
  have hFY : F' ≠ Y := by
    rcases hG.how with ⟨e, _, _⟩ | ⟨e, _⟩
    · rw [e]; exact fun q => h.ne q.symm
    · rw [e]; omega
  have hOF : ∀ b, b < w.heap.size → ((O b ∨ b = F') ↔ O b) := fun b hb => by
    refine ⟨fun q => ?_, Or.inl⟩
    rcases q with q | q
    · exact q
    · rcases hG.how with ⟨e, _, _⟩ | ⟨e, _⟩
      · rw [q, e]; exact h.oF
      · omega
  have hr : ∀ b, b < w.heap.size → (O b ∨ b = F') → O b := fun b hb q => (hOF b hb).1 q
  have hM : Mod (fun b => b = Y ∨ b = F) w w2 := (hm1.sub (fun b q => Or.inr q)).trans (m2.sub (fun b q => Or.inl q))
  have hM' : Mod (fun b => (b = Y ∨ b = F) ∧ b < w.heap.size) w w2 := ⟨hM.os, hM.tape, hM.output, hM.size, fun i hi q => hM.block i hi (fun k => q ⟨k, hi⟩), hM.fz, hM.new, hM.shape⟩
  have hs : ∀ b, ¬ (O b ∨ b = F') → ¬ ((b = Y ∨ b = F) ∧ b < w.heap.size) := fun b hb q => hb (Or.inl (by
    rcases q.1 with q | q
    · rw [q]; exact h.oY
    · rw [q]; exact h.oF))
  have htl : ∀ b, TL b → ¬ ((b = Y ∨ b = F) ∧ b < w.heap.size) := fun b hb q => by
    rcases q.1 with q | q
    · exact (h.tl b hb).2.1 q
    · exact (h.tl b hb).2.2 q
  have hnl : ∀ {v : Value} {l : List Nat}, NL O w v l → NL (fun b => O b ∨ b = F') w2 v l := fun k => (k.reo hr).keep hM' hs
  have hnv : ∀ {v : Value} {y : Nat}, NV O w v y → NV (fun b => O b ∨ b = F') w2 v y := fun k => (k.reo hr).keep hM' hs
  have hFn : ∀ b, O b → b < w.heap.size := fun b hb => h.small b hb
  have hF'n : ∀ b, (∃ y ∈ L, y.TM b) ∨ TL b → b ≠ F' := fun b hb q => by
    have hb2 : O b ∧ b ≠ F := by
      rcases hb with ⟨y, hy, k⟩ | k
      · exact ⟨(h.tm y hy b k).1, (h.tm y hy b k).2.2.1⟩
      · exact ⟨(h.tl b k).1, (h.tl b k).2.2⟩
    have := hFn b hb2.1
    rcases hG.how with ⟨e, _, _⟩ | ⟨e, _⟩
    · exact hb2.2 (q.trans e)
    · omega
  refine ⟨fun b => O b ∨ b = F', cp * 60, ?_, hOF, hM⟩
  exact
  { bY := hB
    wc := ((h.wc.reo hr).keep hM' hs).cells (fun j hj => by rw [hc _ (by omega)])
    lim := h.lim
    wf := h.wf
    st8 := by rw [hc _ (by decide)]; exact TmpL.keep (GRow.reo h.st8 hr (fun _ _ _ k => ⟨k.addr, k.aLt, k.key.reo hr, k.val.reo hr⟩)) hM' hs
    sl := h.sl
    fv := by rw [updv_same]; exact Or.inr ⟨cp, q1, q2, q3, q4.mod m2 hFY, Or.inl rfl⟩
    few := by simp; omega
    small := fun b hb => by
      rcases hb with hb | hb
      · exact Nat.lt_of_lt_of_le (hFn b hb) hM.size
      · rw [hb]; exact Nat.lt_of_lt_of_le q4.lt m2.size
    ret := by rw [hc _ (by decide)]; exact hnl h.ret
    phase := by rw [hc _ (by decide)]; exact h.phase
    hLt := h.hLt
    status := by rw [hc _ (by decide)]; exact h.status
    applied := by rw [hc _ (by decide)]; exact h.applied
    limit := by rw [hc _ (by decide)]; exact hnv h.limit
    left := fun q => by rw [hc _ (by decide)]; exact hnv (h.left q)
    price := by rw [hc _ (by decide)]; exact hnv h.price
    pLt := h.pLt
    total := by rw [hc _ (by decide)]; exact hnv h.total
    tg := by rw [hc _ (by decide)]; exact hnv h.tg
    origin := h.origin.same h.oLt (fun j hj => hc _ (by omega))
    oLt := h.oLt
    made := h.made.same h.mLt (fun j hj => hc _ (by omega))
    mLt := h.mLt
    env := (h.env.reo hr).same (fun j hj _ => hc j (by omega)) (fun _ _ q => q.keep hM' hs)
    now := h.now
    orig := h.orig
    oY := Or.inl h.oY
    oF := Or.inr rfl
    ne := fun q => hFY q.symm
    frs := by show x.f :: st.frames = _; rw [h.frs]; rfl
    fl := by
      have a1 : YFL (fun b => O b ∨ b = F') w2 d L := YFL.keep hM' hs (YFL.reo hr h.fl) (fun y hy b hb q => by
        rcases q.1 with q | q
        · exact (h.tm y hy b hb).2.1 q
        · exact (h.tm y hy b hb).2.2.1 q)
      exact ⟨((hx hG.new).reo hr).keep hM' hs (fun b hb => absurd hb (hTM b)), YFL.same a1 (fun j hj => hG.old j hj)⟩
    tm := fun y hy b hb => by
      rcases List.mem_cons.1 hy with e | hy
      · subst e; exact absurd hb (hTM b)
      · have k := h.tm y hy b hb
        exact ⟨Or.inl k.1, k.2.1, hF'n b (Or.inl ⟨y, hy, hb⟩), k.2.2.2⟩
    td := List.pairwise_cons.2 ⟨fun y hy b hb => absurd hb (hTM b), h.td⟩
    tl := fun b hb => ⟨Or.inl (h.tl b hb).1, (h.tl b hb).2.1, hF'n b (Or.inr hb)⟩
    lg := by
      rw [hc _ (by decide)]
      exact h.lg.imp (fun k => LogL.keep (k.mono (fun _ _ _ k => k.reo hr) (fun _ _ k => k) (fun _ _ _ _ k _ => k)) hM' hs htl) (fun k => ⟨LogL.keep (GRow.reo k.1 hr (fun _ _ _ k => k.reo hr)) hM' hs hs, k.2⟩) }
end
end Go.Proofs.YgvahwGreat
