import Derived.Test.YgvahwGreatRowsQ
namespace Go.Proofs.YgvahwGreat
open Go.RowKit
section
variable {own own' : Nat → Nat} {w w' : World} {g : Nat} {c c' : Nat → Value} {V : EV} {st : ASt} {sn sn' stale stale' : List Nat} {f f' : AFrame} {rest frs' : List AFrame} {s : Nat} {ret' : List Nat}
/-- The vault stands where the cells below 2435 and the memories change. -/
theorem VRep.low7 (h : VRep own w g c V) (K : Keep own own' g 7 w w') (hfr : ∀ b, w'.heap.size ≤ b → own' b = 0) (hB : Blk w' g 27024 105 c') (hcF : ∀ i, 2435 ≤ i → c' i = c i) : VRep own' w' g c' V := by
  refine ⟨hB, (K.tags g h.blk.lt).trans h.tag, hfr, h.wf, h.jok, h.nA, h.nS, h.nT, h.nJ, h.nL, h.nM, ?_, ?_, ?_, ?_, ?_, ?_, ?_, ?_, ?_, ?_, ?_, h.rLt⟩
  · rw [hcF 2435 (by omega)]; exact K.row h.accts (fun _ _ _ k => K.acct (fun _ _ => rfl) k) (by decide) (by decide)
  · rw [hcF 2436 (by omega)]; exact K.row h.slots (fun _ _ _ k => k) (by decide) (by decide)
  · rw [hcF 27017 (by omega)]; exact K.row h.temps (fun _ _ _ k => k) (by decide) (by decide)
  · rw [hcF 10629 (by omega)]; exact K.row h.jrn (fun _ _ _ k => K.je (fun _ _ => rfl) k) (by decide) (by decide)
  · rw [hcF 27016 (by omega)]; exact K.row h.logs (fun _ _ _ k => K.log (fun _ _ => rfl) k) (by decide) (by decide)
  · obtain ⟨t2, q1, q2⟩ := h.tA
    exact ⟨t2, fun p hp => by rw [hcF _ (by omega)]; exact q1 p hp, q2⟩
  · obtain ⟨t2, q1, q2⟩ := h.tS
    exact ⟨t2, fun p hp => by rw [hcF _ (by omega)]; exact q1 p hp, q2⟩
  · rw [hcF 27018 (by omega)]
    rcases h.tT with q | ⟨t2, q1, q2⟩
    · exact Or.inl q
    · exact Or.inr ⟨t2, K.tab q1 (by decide), q2⟩
  · intro id hid
    have := h.nM
    rw [hcF _ (by omega)]; exact h.marks id hid
  · rw [hcF 27014 (by omega)]; exact h.nm
  · rw [hcF 27015 (by omega)]; exact h.ref
/-- The machine with other frames, memories and return data. -/
theorem MRep.gen (h : MRep own w g c V st sn stale) (K : Keep own own' g 7 w w') (hfr : ∀ b, w'.heap.size ≤ b → own' b = 0) (hB : Blk w' g 27024 105 c') (h0 : c' 0 = c 0) (hcF : ∀ i, 2260 ≤ i → c' i = c i) (hmem : MemC own' w' c' (frs'.map (·.mem)) stale') (hfs : FrL (Mu own') w' c' frs' sn') (htop : c' 2258 = .int .i8 ((frs'.length : Int) - 1)) (hret : NL (Mu own') w' (c' 2259) ret') (hlf : frs' = [] → st.phase = 2 → c' 1810 = .int .u64 (st.left : Nat)) (hsl : ∀ s ∈ sn', s < V.marks.length) (hsr : sn'.Pairwise fun x y => y < x) (hsv : ∀ i (h : i < frs'.length), V.savedAt (sn'.getD i 0) = (frs'[i]).saved) :
    MRep own' w' g c' V { st with frames := frs', ret := ret' } sn' stale' :=
  ⟨h.v.low7 K hfr hB (fun i hi => hcF i (by omega)), ⟨h0.trans h.m.ptr, hmem, hfs, htop, hret, h.m.env.same (fun j h1 h2 => hcF j (by omega)) (fun v l k => K.wl k), h.m.origin.same h.m.oLt (fun j hj => hcF _ (by omega)), h.m.oLt, ⟨by rw [hcF _ (by omega)]; exact h.m.price.c0, by rw [hcF _ (by omega)]; exact h.m.price.c1, by rw [hcF _ (by omega)]; exact h.m.price.c2, by rw [hcF _ (by omega)]; exact h.m.price.c3⟩, h.m.pLt, (hcF _ (by omega)).trans h.m.phase, h.m.hLt, (hcF _ (by omega)).trans h.m.status, h.m.sLt, (hcF _ (by omega)).trans h.m.applied, h.m.aLt, (hcF _ (by omega)).trans h.m.limit, h.m.lLt, h.m.made.same h.m.mLt (fun j hj => hcF _ (by omega)), h.m.mLt, hlf, h.m.fLt⟩, h.abs, h.jok, h.orig, hsl, hsr, hsv, (hcF _ (by omega)).trans h.built⟩
theorem FrC.withMem {O : Nat → Prop} {i : Nat} (h : FrC O w c i s f) (m : List Nat) (hok : FOK { f with mem := m }) : FrC O w c i s { f with mem := m } :=
  ⟨h.kind, h.pre, h.static, h.pc, h.sb, h.sp, h.gas, h.snap, h.self, h.caller, h.value, h.code, h.input, h.dests, h.outOff, h.outLen, h.stack, hok⟩
theorem FOK.withMem (h : FOK f) (m : List Nat) (h1 : f.mem.length ≤ m.length) (h2 : m.length ≤ 717280) (h3 : m.length % 32 = 0) : FOK { f with mem := m } :=
  ⟨h.kind, h.pre, h.pc, h.sLen, h.sLt, h.gas, h.self, h.caller, h.value, h.code, h2, h3, h.oLt, h.lLt, fun q => Nat.le_trans (h.out q) h1⟩
theorem layN_mid {a m z : List Nat} {off : Nat} {bs : List Nat} (h : off + bs.length ≤ m.length) : layN (a ++ m ++ z) (a.length + off) bs = a ++ layN m off bs ++ z := by
  unfold layN
  have e1 : (a ++ m ++ z).take (a.length + off) = a ++ m.take off := by
    rw [List.append_assoc, List.take_length_add_append, List.take_append_of_le_length (by omega)]
  have e2 : (a ++ m ++ z).drop (a.length + off + bs.length) = m.drop (off + bs.length) ++ z := by
    rw [List.append_assoc, Nat.add_assoc, List.drop_length_add_append, List.drop_append_of_le_length h]
  rw [e1, e2]
  simp [List.append_assoc]
/-- The top memory, whole. -/
theorem MRep.top2 (h : MRep own w g c V st (s :: sn) stale) (hst : st.frames = f :: rest) : ∃ cap b o cc, TopM own w c rest.length (lowB (rest.map (·.mem))).length ((lowB (rest.map (·.mem))).length + f.mem.length) (lowB (rest.map (·.mem)) ++ f.mem ++ stale).length cap b o cc (lowB (rest.map (·.mem)) ++ f.mem ++ stale) := by
  have hm := h.m.mem
  rw [hst, List.map_cons] at hm
  obtain ⟨cap, b, o, cc, ht⟩ := hm.open_
  rw [List.length_map] at ht
  exact ⟨cap, b, o, cc, ht⟩
/-- The top memory is another. -/
theorem MRep.memSet (h : MRep own w g c V st (s :: sn) stale) (hst : st.frames = f :: rest) (K : Keep own own' g 7 w w') (hfr : ∀ b, w'.heap.size ≤ b → own' b = 0) (hB : Blk w' g 27024 105 c') (hc : ∀ j, j ≠ 1 → j ≠ 2 + (rest.length + 1) → c' j = c j) (m : List Nat) (hb : c' (2 + (rest.length + 1)) = .int .u32 ((lowB (rest.map (·.mem))).length + m.length : Nat)) (hbuf : GRow 5 1 BC (Ow own' 7) w' (c' 1) (lowB (rest.map (·.mem)) ++ m ++ stale')) (hok : FOK { f with mem := m }) (hstl : (lowB (rest.map (·.mem)) ++ m ++ stale').length ≤ 5020960) :
    MRep own' w' g c' V { st with frames := { f with mem := m } :: rest } (s :: sn) stale' := by
  obtain ⟨hf, hl7⟩ := h.frame hst
  have hmm := h.m.mem
  have hfs := h.m.frs
  have htop := h.m.top
  have hsv := h.saved
  rw [hst] at hmm hfs htop hsv
  have hlow : ∀ j, 10 < j → c' j = c j := fun j hj => hc j (by omega) (by omega)
  have hnl : ∀ v l, NL (Mu own) w v l → NL (Mu own') w' v l := fun v l k => K.nl k
  refine h.gen (frs' := { f with mem := m } :: rest) (ret' := st.ret) K hfr hB (hc 0 (by omega) (by omega)) (fun i hi => hlow i (by omega)) ?_ ?_ ((hlow _ (by omega)).trans htop) (by rw [hlow _ (by omega)]; exact hnl _ _ h.m.ret) (fun q => by cases q) h.snl h.snr ?_
  · have hb2 := hmm.base.2
    refine ⟨(hc _ (by omega) (by omega)).trans (by simpa using hmm.top), ⟨?_, ?_⟩, hbuf, by simpa using hmm.few, ?_, hstl⟩
    · have : (lowB (m :: rest.map (·.mem))).length = (lowB (rest.map (·.mem))).length + m.length := by simp [lowB]
      rw [this]
      simpa using hb
    · have hlen : (rest.map (·.mem)).length = rest.length := List.length_map ..
      have hgo : ∀ ms : List (List Nat), ms.length ≤ rest.length → BaseL c ms → BaseL c' ms := by
        intro ms
        induction ms with
        | nil => intro _ q; exact (hc 2 (by omega) (by omega)).trans q
        | cons a r ih =>
          intro hl q
          rw [List.length_cons] at hl
          exact ⟨(hc _ (by omega) (by omega)).trans q.1, ih (by omega) q.2⟩
      exact hgo _ (by rw [hlen]; exact Nat.le_refl _) hb2
    · intro x hx
      rcases List.mem_cons.1 hx with rfl | hx
      · exact ⟨hok.mLen, hok.m32⟩
      · exact hmm.size x (List.mem_cons_of_mem _ hx)
  · refine ⟨?_, FrL.same (fun j h1 h2 => hlow j (by omega)) hnl (by omega) hfs.2⟩
    exact (hf.same hl7 (fun j h1 h2 => hlow j (by omega)) hnl).withMem m hok
  · intro i hi
    cases i with
    | zero => exact hsv 0 (by simp)
    | succ k => exact hsv (k + 1) (by simpa using hi)
/-- Bytes are laid over the top memory. -/
theorem MRep.lay (h : MRep own w g c V st (s :: sn) stale) (hst : st.frames = f :: rest) {cap b off : Nat} {o : Option Addr} {cc' : Nat → Value} {bs : List Nat} (hfit : off + bs.length ≤ f.mem.length) (hbs : 0 < bs.length) (hm : Mod (· = b) w w')
    (ht : TopM own w' c rest.length (lowB (rest.map (·.mem))).length ((lowB (rest.map (·.mem))).length + f.mem.length) (lowB (rest.map (·.mem)) ++ f.mem ++ stale).length cap b o cc' (layN (lowB (rest.map (·.mem)) ++ f.mem ++ stale) ((lowB (rest.map (·.mem))).length + off) bs)) :
    MRep own w' g c V { st with frames := { f with mem := layN f.mem off bs } :: rest } (s :: sn) stale ∧ MStep own w own w' := by
  obtain ⟨hf, hl7⟩ := h.frame hst
  have hmm := h.m.mem
  rw [hst] at hmm
  have hn : 0 < (lowB (rest.map (·.mem)) ++ f.mem ++ stale).length := by simp; omega
  obtain ⟨q1, q2, q3⟩ := ht.blk hn
  have hlen := layN_len hfit
  rw [layN_mid hfit] at ht q3
  have K : Keep own own g 7 w w' := ⟨fun _ _ => rfl, hm.sub (fun x hx => Or.inr (by rw [hx]; exact q1)), h.v.tag, by decide⟩
  have hgb : ¬ g = b := fun e => by have := h.v.tag; rw [e, q1] at this; cases this
  have hB := h.v.blk.mod hm hgb
  refine ⟨h.memSet hst K (fun x hx => h.v.fresh x (Nat.le_trans hm.size hx)) hB (fun _ _ _ => rfl) _ ?_ ?_ (hf.ok.withMem _ (by omega) (by rw [hlen]; exact hf.ok.mLen) (by rw [hlen]; exact hf.ok.m32)) ?_, ⟨fun _ _ => rfl, hm.sub (fun x hx => by rw [hx, q1]; decide)⟩⟩
  · rw [hlen]
    have := hmm.base.1
    simpa [lowB] using this
  · rcases hmm.buf with ⟨e1, _⟩ | ⟨b0, cap0, cc0, e1, e2, e3, _, _, _⟩
    · rw [List.map_cons, lowB] at e1; rw [e1] at hn; simp at hn
    · have k1 := ht.k1
      have k2 := e1.symm.trans k1
      injection k2 with k3 k4 k5
      have ho : o = some ⟨b, 0, none⟩ := by
        rcases ht.ho with ⟨z, _, _⟩ | z
        · rw [← k3] at z; cases z
        · exact z
      have hl2 : (lowB (rest.map (·.mem)) ++ layN f.mem off bs ++ stale).length = (lowB (rest.map (·.mem)) ++ f.mem ++ stale).length := by simp [hlen]
      refine Or.inr ⟨b, cap, cc', ?_, ?_, by omega, by rw [Nat.mul_one]; exact q2, q1, fun i hi => ⟨by rw [Nat.mul_one]; exact q3 i hi, ht.lt _ (List.getElem_mem hi)⟩⟩
      · rw [k1, ho, hl2]
      · rw [hl2]; exact ht.hn
  · have := hmm.stl
    simpa [lowB, hlen] using this
theorem mMWrite (h : MRep own w g c V st (s :: sn) stale) (hst : st.frames = f :: rest) (O : Nat → Prop) (v : Value) (L : List Nat) (hv : NL O w v L) (from_ : Nat) (hfr : from_ < 18446744073709551616) (off k : Nat) (hk : 0 < k) (hfit : off + k ≤ f.mem.length) :
    Calls Hvah.prog 267 #[.pointer (some ⟨g, 1, none⟩), .int .u32 off, v, .int .u64 from_, .int .u32 k] w fun e w' => e = .returned (.bool true) ∧ MRep own w' g c V { st with frames := { f with mem := layN f.mem off (cutA L from_ k) } :: rest } (s :: sn) stale ∧ MStep own w own w' := by
  obtain ⟨cap, b, o, cc, ht⟩ := h.top2 hst
  have hcl : (cutA L from_ k).length = k := by simp [cutA]
  refine (tWrite O ht h.v.blk v L hv from_ hfr hk (by omega : off + k ≤ _ - _)).mono ?_
  rintro e w1 ⟨rfl, cc', ht2, hm⟩
  exact ⟨rfl, h.lay hst (by rw [hcl]; exact hfit) (by rw [hcl]; exact hk) hm ht2⟩
theorem mMStore8 (h : MRep own w g c V st (s :: sn) stale) (hst : st.frames = f :: rest) (x : Nat) (hx : x < 256) (off : Nat) (hfit : off + 1 ≤ f.mem.length) :
    Calls Hvah.prog 312 #[.pointer (some ⟨g, 1, none⟩), .int .u32 off, .int .u8 x] w fun e w' => e = .returned (.bool true) ∧ MRep own w' g c V { st with frames := { f with mem := layN f.mem off [x] } :: rest } (s :: sn) stale ∧ MStep own w own w' := by
  obtain ⟨cap, b, o, cc, ht⟩ := h.top2 hst
  refine (tStore8 ht h.v.blk x hx (by omega : off + 1 ≤ _ - _)).mono ?_
  rintro e w1 ⟨rfl, cc', ht2, hm⟩
  exact ⟨rfl, h.lay hst hfit (by simp) hm ht2⟩
theorem mMStore32 (h : MRep own w g c V st (s :: sn) stale) (hst : st.frames = f :: rest) (L : List Nat) (hL : L.length = 32) (hL2 : ∀ x ∈ L, x < 256) (off : Nat) (hfit : off + 32 ≤ f.mem.length) :
    Calls Hvah.prog 311 #[.pointer (some ⟨g, 1, none⟩), .int .u32 off, .agg (bcells L).toArray] w fun e w' => e = .returned (.bool true) ∧ MRep own w' g c V { st with frames := { f with mem := layN f.mem off L } :: rest } (s :: sn) stale ∧ MStep own w own w' := by
  obtain ⟨cap, b, o, cc, ht⟩ := h.top2 hst
  refine (tStore32 ht h.v.blk L hL hL2 (by omega : off + 32 ≤ _ - _)).mono ?_
  rintro e w1 ⟨rfl, cc', ht2, hm⟩
  exact ⟨rfl, h.lay hst (by rw [hL]; exact hfit) (by rw [hL]; decide) hm ht2⟩
theorem mMMove (h : MRep own w g c V st (s :: sn) stale) (hst : st.frames = f :: rest) (dst src k : Nat) (hk : 0 < k) (hd : dst + k ≤ f.mem.length) (hs : src + k ≤ f.mem.length) :
    Calls Hvah.prog 307 #[.pointer (some ⟨g, 1, none⟩), .int .u32 dst, .int .u32 src, .int .u32 k] w fun e w' => e = .returned (.bool true) ∧ MRep own w' g c V { st with frames := { f with mem := layN f.mem dst ((f.mem.drop src).take k) } :: rest } (s :: sn) stale ∧ MStep own w own w' := by
  obtain ⟨cap, b, o, cc, ht⟩ := h.top2 hst
  refine (tMove ht h.v.blk dst src hk (by omega : dst + k ≤ _ - _) (by omega : src + k ≤ _ - _)).mono ?_
  rintro e w1 ⟨rfl, cc', ht2, hm⟩
  have e2 : ((lowB (rest.map (·.mem)) ++ f.mem ++ stale).drop ((lowB (rest.map (·.mem))).length + src)).take k = (f.mem.drop src).take k := by
    rw [List.append_assoc, List.drop_length_add_append, List.drop_append_of_le_length (by omega), List.take_append_of_le_length (by rw [List.length_drop]; omega)]
  rw [e2] at ht2
  have hl : ((f.mem.drop src).take k).length = k := by simp; omega
  exact ⟨rfl, h.lay hst (by rw [hl]; exact hd) (by rw [hl]; exact hk) hm ht2⟩
end
end Go.Proofs.YgvahwGreat
