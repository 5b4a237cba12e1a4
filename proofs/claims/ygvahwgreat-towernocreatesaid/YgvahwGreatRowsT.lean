import Derived.Test.YgvahwGreatRowsS
namespace Go.Proofs.YgvahwGreat
open Go.RowKit
section
variable {own own' : Nat → Nat} {w w' : World} {g : Nat} {c c' : Nat → Value} {V : EV} {st : ASt} {sn sn' stale stale' : List Nat} {f : AFrame} {rest frs' : List AFrame} {s n : Nat} {ret' : List Nat}
/-- The machine with other frames, memories, return data, phase and status. -/
theorem MRep.gen2 {ph sts lf : Nat} (h : MRep own w g c V st sn stale) (K : Keep own own' g 7 w w') (hfr : ∀ b, w'.heap.size ≤ b → own' b = 0) (hB : Blk w' g 27024 105 c') (h0 : c' 0 = c 0) (hcF : ∀ i, 2260 ≤ i → i ≠ 2404 → i ≠ 2405 → c' i = c i) (hmem : MemC own' w' c' (frs'.map (·.mem)) stale') (hfs : FrL (Mu own') w' c' frs' sn') (htop : c' 2258 = .int .i8 ((frs'.length : Int) - 1)) (hret : NL (Mu own') w' (c' 2259) ret') (hp1 : c' 2404 = .int .u8 (ph : Nat)) (hp2 : ph ≤ 2) (hs1 : c' 2405 = .int .u8 (sts : Nat)) (hs2 : sts < 256) (hl1 : frs' = [] → ph = 2 → c' 1810 = .int .u64 (lf : Nat)) (hl2 : lf < 18446744073709551616) (hsl : ∀ s ∈ sn', s < V.marks.length) (hsr : sn'.Pairwise fun x y => y < x) (hsv : ∀ i (h : i < frs'.length), V.savedAt (sn'.getD i 0) = (frs'[i]).saved) :
    MRep own' w' g c' V { st with frames := frs', ret := ret', phase := ph, status := sts, left := lf } sn' stale' :=
  ⟨h.v.low7 K hfr hB (fun i hi => hcF i (by omega) (by omega) (by omega)), ⟨h0.trans h.m.ptr, hmem, hfs, htop, hret, h.m.env.same (fun j h1 h2 => hcF j (by omega) (by omega) (by omega)) (fun v l k => K.wl k), h.m.origin.same h.m.oLt (fun j hj => hcF _ (by omega) (by omega) (by omega)), h.m.oLt, ⟨by rw [hcF _ (by omega) (by omega) (by omega)]; exact h.m.price.c0, by rw [hcF _ (by omega) (by omega) (by omega)]; exact h.m.price.c1, by rw [hcF _ (by omega) (by omega) (by omega)]; exact h.m.price.c2, by rw [hcF _ (by omega) (by omega) (by omega)]; exact h.m.price.c3⟩, h.m.pLt, hp1, hp2, hs1, hs2, (hcF _ (by omega) (by omega) (by omega)).trans h.m.applied, h.m.aLt, (hcF _ (by omega) (by omega) (by omega)).trans h.m.limit, h.m.lLt, h.m.made.same h.m.mLt (fun j hj => hcF _ (by omega) (by omega) (by omega)), h.m.mLt, hl1, hl2⟩, h.abs, h.jok, h.orig, hsl, hsr, hsv, (hcF _ (by omega) (by omega) (by omega)).trans h.built⟩
theorem Keep.nl7 (K : Keep own own' g 7 w w') : ∀ v l, NL (Mu own) w v l → NL (Mu own') w' v l := fun _ _ k => K.nl k
/-- A block of one's own is kept apart. -/
theorem MRep.reserve {B : Nat} (h : MRep own w g c V st sn stale) (e : Ext w w') (hB : w.heap.size ≤ B) (hl : B < w'.heap.size) : ∃ own7, own7 B = 7 ∧ (∀ b, b < w.heap.size → own7 b = own b) ∧ (∀ b, b ≠ B → own7 b = own b) ∧ MRep own7 w' g c V st sn stale := by
  refine ⟨fun b => if b = B then 7 else own b, if_pos rfl, fun b hb => if_neg (by omega), fun b hb => if_neg hb, ?_⟩
  have K : Keep own (fun b => if b = B then 7 else own b) g 7 w w' := ⟨fun b hb => if_neg (by omega), e.mod _, h.v.tag, by decide⟩
  have hl7 : st.frames.length ≤ 7 := by have := h.m.mem.few; simpa using this
  have hm := h.m.mem
  refine h.gen K (fun b hb => ?_) (h.v.blk.ext e) rfl (fun _ _ => rfl) ⟨hm.top, hm.base, hm.buf.mono (fun _ _ _ q => q) (fun b hb q => ?_) (fun b m t cc q _ => q.ext e), hm.few, hm.size, hm.stl⟩ (FrL.same (fun _ _ _ => rfl) K.nl7 hl7 h.m.frs) h.m.top (K.nl h.m.ret) h.m.left h.snl h.snr h.saved
  · show (if b = B then 7 else own b) = 0
    rw [if_neg (by omega)]; exact h.v.fresh b (Nat.le_trans e.size hb)
  · unfold Ow at *
    exact (K.tags b hb).trans q
/-- The memories' buffer is none of one's own blocks. -/
theorem MRep.bufOld {B : Nat} (h : MRep own w g c V st sn stale) (hB : w.heap.size ≤ B) : ∀ o n cap, c 1 = .slice o n cap → ∀ a, o = some a → a.block ≠ B := by
  intro o n cap hq a ha he
  rcases h.m.mem.buf with ⟨_, q⟩ | ⟨b, cp, cc, q1, _, _, q4, _, _⟩
  · rw [hq] at q; injection q with q; rw [q] at ha; cases ha
  · rw [hq] at q1
    injection q1 with q1
    rw [q1] at ha
    injection ha with ha
    rw [← ha] at he
    have := q4.lt
    have he2 : b = B := he
    omega
/-- A snapshot is taken. -/
theorem MRep.snap (h : MRep own w g c V st sn stale) (hv : VRep own w' g c' V.snap) (k : VStep own w c own w' c') : MRep own w' g c' V.snap st sn stale :=
  ⟨hv, h.m.step k, h.abs, JOK_snap h.jok, h.orig, fun s hs => Nat.lt_succ_of_lt (h.snl s hs), h.snr, fun i hi => by
    have hsl := h.m.frs.len
    rw [savedAt_snap, if_neg]
    · exact h.saved i hi
    · have : sn.getD i 0 ∈ sn := by
        rw [List.getD_eq_getElem?_getD, List.getElem?_eq_getElem (by omega)]
        exact List.getElem_mem _
      have := h.snl _ this
      omega, (k.far _ (Or.inr (by omega))).trans h.built⟩
/-- A block kept apart is written. -/
theorem MRep.apart {B : Nat} (h : MRep own w g c V st sn stale) (hB : own B = 7) (hm : Mod (· = B) w w') (hbuf : ∀ o n cap, c 1 = .slice o n cap → ∀ a, o = some a → a.block ≠ B) : MRep own w' g c V st sn stale := by
  have K : Keep own own g 7 w w' := ⟨fun b hb => rfl, hm.sub (fun x hx => Or.inr (by rw [hx]; exact hB)), h.v.tag, by decide⟩
  have hl7 : st.frames.length ≤ 7 := by have := h.m.mem.few; simpa using this
  have hgB : ¬ g = B := fun q => by have := h.v.tag; rw [q, hB] at this; cases this
  have hmm := h.m.mem
  refine h.gen K (fun b hb => h.v.fresh b (Nat.le_trans hm.size hb)) (h.v.blk.mod hm hgB) rfl (fun _ _ => rfl) ⟨hmm.top, hmm.base, ?_, hmm.few, hmm.size, hmm.stl⟩ (FrL.same (fun _ _ _ => rfl) K.nl7 hl7 h.m.frs) h.m.top (K.nl h.m.ret) h.m.left h.snl h.snr h.saved
  rcases hmm.buf with q | ⟨b, cap, cc, q1, q2, q3, q4, q5, q6⟩
  · exact Or.inl q
  · exact Or.inr ⟨b, cap, cc, q1, q2, q3, q4.mod hm (hbuf _ _ _ q1 _ rfl), q5, q6⟩
/-- The machine with a new frame on top. -/
theorem MRep.entered2 (h : MRep own w g c V st sn stale) (hm : Mod (· = g) w w') (hB : Blk w' g 27024 105 c') (hn : st.frames.length = n) (hn7 : n < 7)
    (hc : ∀ i, i ≠ 10 → i ≠ 2 + (n + 1) → i ≠ 2258 → i ≠ 2259 → i ≠ 2404 → (i < 1803 + n * 65 ∨ 1803 + n * 65 + 65 ≤ i) → c' i = c i) (h10 : c' 10 = .int .u8 (n + 1 : Nat)) (hb : c' (2 + (n + 1)) = c (2 + n))
    (hf : FrC (Mu own) w' c' n s f) (hfm : f.mem = []) (hfs : f.saved = V.savedAt s) (hs : s < V.marks.length) (hsn : ∀ x ∈ sn, x < s) (ht : c' 2258 = .int .i8 (n : Int)) (hph : c' 2404 = .int .u8 1) (hret : c' 2259 = .slice none 0 0) :
    MRep own w' g c' V { st with frames := f :: st.frames, ret := [], phase := 1 } (s :: sn) stale ∧ MStep own w own w' := by
  have K : Keep own own g 7 w w' := ⟨fun _ _ => rfl, hm.sub (fun x hx => Or.inl hx), h.v.tag, by decide⟩
  have hmm := h.m.mem
  have hlen : (st.frames.map (·.mem)).length = n := by rw [List.length_map, hn]
  have hnl := K.nl7
  refine ⟨h.gen2 (frs' := f :: st.frames) (ret' := []) (ph := 1) (sts := st.status) (lf := st.left) K (fun b hb => h.v.fresh b (Nat.le_trans hm.size hb)) hB (hc 0 (by omega) (by omega) (by omega) (by omega) (by omega) (by omega)) (fun i h1 h2 h3 => hc i (by omega) (by omega) (by omega) (by omega) h2 (by omega)) ?_ ⟨?_, ?_⟩ ?_ ?_ hph (by decide) ((hc _ (by omega) (by omega) (by omega) (by omega) (by omega) (by omega)).trans h.m.status) h.m.sLt (fun q => by cases q) h.m.fLt ?_ ?_ ?_, MStep.ofG h.v.tag hm⟩
  · show MemC own w' c' (f.mem :: st.frames.map (·.mem)) stale
    rw [hfm]
    have hl0 : lowB ([] :: st.frames.map (·.mem)) = lowB (st.frames.map (·.mem)) := by simp [lowB]
    refine ⟨by rw [h10]; simp [hn], ⟨?_, ?_⟩, ?_, by simp [hn]; omega, ?_, by rw [hl0]; exact hmm.stl⟩
    · rw [hl0, hlen, hb]
      have := hmm.base.at_
      rwa [hlen] at this
    · have hgo : ∀ ms : List (List Nat), ms.length ≤ n → BaseL c ms → BaseL c' ms := by
        intro ms
        induction ms with
        | nil => intro _ q; exact (hc 2 (by omega) (by omega) (by omega) (by omega) (by omega) (by omega)).trans q
        | cons a r ih =>
          intro hl q
          rw [List.length_cons] at hl
          exact ⟨(hc _ (by omega) (by omega) (by omega) (by omega) (by omega) (by omega)).trans q.1, ih (by omega) q.2⟩
      exact hgo _ (by rw [hlen]; exact Nat.le_refl _) hmm.base
    · rw [hl0, hc 1 (by omega) (by omega) (by omega) (by omega) (by omega) (by omega)]
      exact (Keep.here h.v hm).row hmm.buf (fun _ _ _ q => q) (by decide) (by decide)
    · intro x hx
      rcases List.mem_cons.1 hx with rfl | hx
      · exact ⟨by decide, by decide⟩
      · exact hmm.size x hx
  · rw [hn]; exact hf
  · have hgo : ∀ (l : List AFrame) (sn : List Nat), l.length ≤ n → FrL (Mu own) w c l sn → FrL (Mu own) w' c' l sn := by
      intro l
      induction l with
      | nil => intro sn _ q; cases sn with
        | nil => trivial
        | cons a b => cases q
      | cons a r ih =>
        intro sn hl q
        cases sn with
        | nil => cases q
        | cons b sn =>
          rw [List.length_cons] at hl
          exact ⟨q.1.area (fun j h1 h2 => hc j (by omega) (by omega) (by omega) (by omega) (by omega) (by omega)) (fun j h1 h2 => hc j (by omega) (by omega) (by omega) (by omega) (by omega) (by omega)) hnl, ih sn (by omega) q.2⟩
    exact hgo _ _ (by rw [hn]; exact Nat.le_refl _) h.m.frs
  · show c' 2258 = .int .i8 (((f :: st.frames).length : Int) - 1)
    rw [ht, List.length_cons, hn]; congr 1; omega
  · rw [hret]; exact NL.nil
  · intro x hx
    rcases List.mem_cons.1 hx with rfl | hx
    · exact hs
    · exact h.snl x hx
  · exact List.pairwise_cons.2 ⟨hsn, h.snr⟩
  · intro i hi
    cases i with
    | zero => exact hfs.symm
    | succ j => exact h.saved j (by simpa using hi)
end
end Go.Proofs.YgvahwGreat
