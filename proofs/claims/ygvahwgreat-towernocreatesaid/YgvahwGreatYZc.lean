import Derived.Test.YgvahwGreatYZb
namespace Go.Proofs.YgvahwGreat
open Go.RowKit
set_option linter.unusedSimpArgs false
section
variable {O TL : Nat → Prop} {w w' : World} {Y F n : Nat} {c c' d : Nat → Value} {W W' : YW} {start : List (Nat × Nat × Nat)} {st : ASt} {tot : Nat} {L : List YFrm}
/-- The top frame is cut off. -/
theorem YZ.pop {x : YFrm} {r : List YFrm} {v' : Value} (h : YZ O TL w Y F n c d W start st tot (x :: r)) (m : Mod (· = Y) w w') (hB : Blk w' Y 179 118 (updv c 9 v')) (hv : v' = .slice (some ⟨F, 0, none⟩) r.length r.length ∨ (r = [] ∧ v' = .slice none 0 0)) :
    YZ O TL w' Y F n (updv c 9 v') d W start { st with frames := r.map (·.f) } tot r :=
  have hs := h.hsY
  have hc : ∀ i, i ≠ 9 → updv c 9 v' i = c i := fun i hi => updv_ne _ _ hi
  { bY := hB
    wc := (h.wc.keep m hs).cells (fun j hj => by rw [hc _ (by omega)])
    lim := h.lim
    wf := h.wf
    st8 := by rw [hc _ (by decide)]; exact TmpL.keep h.st8 m hs
    sl := h.sl
    fv := by
      rw [updv_same]
      rcases hv with hv | ⟨hr, hv⟩
      · rcases h.fv with q | ⟨cap, _, h2, h3, h4, h5⟩
        · simp at q
        · simp only [List.length_cons] at h2 h5
          exact Or.inr ⟨r.length, hv, Nat.le_refl _, by omega, h4.mod m (fun q => h.ne q.symm), Or.inr ⟨rfl, by omega⟩⟩
      · exact Or.inl ⟨by rw [hr]; rfl, hv⟩
    few := by have := h.few; simp only [List.length_cons] at this; omega
    small := h.small.mod m
    ret := by rw [hc _ (by decide)]; exact h.ret.keep m hs
    phase := by rw [hc _ (by decide)]; exact h.phase
    hLt := h.hLt
    status := by rw [hc _ (by decide)]; exact h.status
    applied := by rw [hc _ (by decide)]; exact h.applied
    limit := by rw [hc _ (by decide)]; exact h.limit.keep m hs
    left := fun q => by rw [hc _ (by decide)]; exact (h.left q).keep m hs
    price := by rw [hc _ (by decide)]; exact h.price.keep m hs
    pLt := h.pLt
    total := by rw [hc _ (by decide)]; exact h.total.keep m hs
    tg := by rw [hc _ (by decide)]; exact h.tg.keep m hs
    origin := h.origin.same h.oLt (fun j hj => hc _ (by omega))
    oLt := h.oLt
    made := h.made.same h.mLt (fun j hj => hc _ (by omega))
    mLt := h.mLt
    env := h.env.same (fun j hj _ => hc j (by omega)) (fun _ _ q => q.keep m hs)
    now := h.now
    orig := h.orig
    oY := h.oY
    oF := h.oF
    ne := h.ne
    frs := rfl
    fl := (h.flY m).2
    tm := fun y hy => h.tm y (by simp [hy])
    td := (List.pairwise_cons.1 h.td).2
    tl := h.tl
    lg := h.lg.imp (fun k => by rw [hc _ (by decide)]; exact LogL.keep k m hs (fun b hb => (h.tl b hb).2.1)) (fun k => by rw [hc _ (by decide)]; exact ⟨LogL.keep k.1 m hs (fun b hb => hs b hb), k.2⟩) }
/-- The transaction is done. -/
theorem YZ.ended {v : Value} {sx lf : Nat} (h : YZ O TL w Y F n c d W start st tot []) (m : Mod (· = Y) w w') (hv : NV O w v lf) (hB : Blk w' Y 179 118 (updv (updv (updv c 11 (.int .u8 (2 : Nat))) 12 (.int .u8 (sx : Nat))) 16 v)) :
    YZ O TL w' Y F n (updv (updv (updv c 11 (.int .u8 (2 : Nat))) 12 (.int .u8 (sx : Nat))) 16 v) d W start { st with phase := 2, status := sx, left := lf } tot [] :=
  have hs := h.hsY
  have hc : ∀ i, i ≠ 11 → i ≠ 12 → i ≠ 16 → updv (updv (updv c 11 (.int .u8 (2 : Nat))) 12 (.int .u8 (sx : Nat))) 16 v i = c i := fun i h1 h2 h3 => by rw [updv_ne _ _ h3, updv_ne _ _ h2, updv_ne _ _ h1]
  { bY := hB
    wc := (h.wc.keep m hs).cells (fun j hj => by rw [hc _ (by omega) (by omega) (by omega)])
    lim := h.lim
    wf := h.wf
    st8 := by rw [hc _ (by decide) (by decide) (by decide)]; exact TmpL.keep h.st8 m hs
    sl := h.sl
    fv := by rw [hc _ (by decide) (by decide) (by decide)]; exact h.fv.mod m (fun q => h.ne q.symm)
    few := h.few
    small := h.small.mod m
    ret := by rw [hc _ (by decide) (by decide) (by decide)]; exact h.ret.keep m hs
    phase := by rw [updv_ne _ _ (by decide), updv_ne _ _ (by decide), updv_same]
    hLt := Nat.le_refl 2
    status := by rw [updv_ne _ _ (by decide), updv_same]
    applied := by rw [hc _ (by decide) (by decide) (by decide)]; exact h.applied
    limit := by rw [hc _ (by decide) (by decide) (by decide)]; exact h.limit.keep m hs
    left := fun _ => by rw [updv_same]; exact hv.keep m hs
    price := by rw [hc _ (by decide) (by decide) (by decide)]; exact h.price.keep m hs
    pLt := h.pLt
    total := by rw [hc _ (by decide) (by decide) (by decide)]; exact h.total.keep m hs
    tg := by rw [hc _ (by decide) (by decide) (by decide)]; exact h.tg.keep m hs
    origin := h.origin.same h.oLt (fun j hj => hc _ (by omega) (by omega) (by omega))
    oLt := h.oLt
    made := h.made.same h.mLt (fun j hj => hc _ (by omega) (by omega) (by omega))
    mLt := h.mLt
    env := h.env.same (fun j hj _ => hc j (by omega) (by omega) (by omega)) (fun _ _ q => q.keep m hs)
    now := h.now
    orig := h.orig
    oY := h.oY
    oF := h.oF
    ne := h.ne
    frs := h.frs
    fl := h.flY m
    tm := h.tm
    td := h.td
    tl := h.tl
    lg := h.lg.imp (fun k => by rw [hc _ (by decide) (by decide) (by decide)]; exact LogL.keep k m hs (fun b hb => (h.tl b hb).2.1)) (fun k => by rw [hc _ (by decide) (by decide) (by decide)]; exact ⟨LogL.keep k.1 m hs (fun b hb => hs b hb), k.2⟩) }
/-- The world of the top frame is put back. -/
theorem YZ.restore {x : YFrm} {r : List YFrm} (h : YZ O TL w Y F n c d W start st tot (x :: r)) (m : Mod (· = Y) w w') (hB : Blk w' Y 179 118 c') (hc : ∀ i, 8 ≤ i → c' i = c i) (hd : ∀ j, j < 8 → c' j = d (r.length * 60 + 52 + j)) :
    YZ O TL w' Y F n c' d x.sv start { st with now := x.f.saved } tot (x :: r) := by
  have k := h.fl.1
  have e : x.f.saved = x.sv.abs := k.sav
  rw [e]
  refine h.keepY m hB hc ((k.sc.keep m h.hsY).cells (fun j hj => by rw [Nat.zero_add]; exact hd j hj)) k.lim k.wf (Or.inr ⟨?_, ?_⟩)
  · rw [hd 4 (by decide)]; exact LogL.keep k.slg m h.hsY h.hsY
  · rw [hd 4 (by decide)]; exact k.full
end
end Go.Proofs.YgvahwGreat
