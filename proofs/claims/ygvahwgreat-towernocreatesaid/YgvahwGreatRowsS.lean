import Derived.Test.YgvahwGreatOf
import Derived.Test.YgvahwGreatOg
import Derived.Test.YgvahwGreatVaPc
namespace Go.Proofs.YgvahwGreat
open Go.RowKit
/-- A new frame's row. -/
structure FrR (O : Nat → Prop) (w : World) (r : Array Value) (f : AFrame) : Prop where
  size : r.size = 65
  ones : Ones r
  kind : cf r 0 = .int .u8 (f.kind : Nat)
  pre : cf r 2 = .int .u8 (f.pre : Nat)
  static : cf r 3 = .bool f.static
  pc : cf r 4 = .int .u16 (f.pc : Nat)
  sp : cf r 6 = .int .u16 0
  gas : cf r 7 = .int .u64 (f.gas : Nat)
  self : AAt (cf r) 9 f.self
  caller : AAt (cf r) 29 f.caller
  value : WAt (cf r) 49 f.value
  code : NL O w (cf r 53) f.code
  input : NL O w (cf r 54) f.input
  outOff : cf r 63 = .int .u32 (f.outOff : Nat)
  outLen : cf r 64 = .int .u32 (f.outLen : Nat)
  stk : f.stack = []
  mem : f.mem = []
  ok : FOK f
theorem FrR.ext {O : Nat → Prop} {w w' : World} {r : Array Value} {f : AFrame} (h : FrR O w r f) (e : Ext w w') : FrR O w' r f :=
  ⟨h.size, h.ones, h.kind, h.pre, h.static, h.pc, h.sp, h.gas, h.self, h.caller, h.value, h.code.ext e, h.input.ext e, h.outOff, h.outLen, h.stk, h.mem, h.ok⟩
theorem yieldsRow {S : World → Prop} {ops : Array Oper} {o : Oper} {a : Act} {x : Operand} {t tt : TypeId} {b i n m : Nat} {c : Nat → Value} (rt : RowT t m) (hw : Region.wanted o (yielded ops a.tmps) = true) (hop : o.op = .load t x) (hx : a.eval x = .pointer (some ⟨b, i, none⟩)) (hB : ∀ w, S w → Blk w b n tt c) (hi : i + m ≤ n) : YieldsIf Hvah.prog ops S o (.agg (rowOf c i m)) a := by
  obtain ⟨d, h1, h2⟩ := rt.desc
  exact yieldsIf_load_mid hw t x hop b i hx (rowOf c i m).toList d (fun w h j v hv => (hB w h).rowIn hi j v (by simpa using hv)) h1 h2 (by rw [rt.size]; simp [rowOf_size])
section
variable {own own' : Nat → Nat} {w w' : World} {g : Nat} {c c' : Nat → Value} {V : EV} {st : ASt} {sn stale : List Nat} {f : AFrame} {rest : List AFrame} {s n : Nat}
theorem VStep.wl (k : VStep own w c own' w' c') {v : Value} {l : List Nat} (hv : WL (Mu own) w v l) : WL (Mu own') w' v l := by
  rcases hv with hv | ⟨b, off, cap, h1, h2, h3, h4, h5, h6⟩
  · exact Or.inl hv
  · have h4' : own b = 0 := by apply Decidable.byContradiction; exact h4
    refine Or.inr ⟨b, off, cap, h1, h2, h3, by unfold Mu; rw [k.keep b h5]; exact h4, Nat.lt_of_lt_of_le h5 k.mod.size, fun i hi => ⟨(h6 i hi).1, fun j u hu => ?_⟩⟩
    rw [k.mod.cell (p := ⟨b, _, none⟩) h5 (fun q => q.1.1 h4')]
    exact (h6 i hi).2 j u hu
/-- The machine with a new frame on top. -/
theorem MRep.entered (h : MRep own w g c V st sn stale) (hv : VRep own w' g c' V.snap) (hm : Mod (fun b => (own b ≠ 0 ∧ own b ≠ 9) ∧ own b ≠ 7) w w') (hn : st.frames.length = n) (hn7 : n < 7)
    (hc : ∀ i, i < 2435 → i ≠ 10 → i ≠ 2 + (n + 1) → i ≠ 2258 → i ≠ 2259 → i ≠ 2404 → (i < 1803 + n * 65 ∨ 1803 + n * 65 + 65 ≤ i) → c' i = c i) (h10 : c' 10 = .int .u8 (n + 1 : Nat)) (hb : c' (2 + (n + 1)) = c (2 + n))
    (hf : FrC (Mu own) w' c' n V.marks.length f) (hfm : f.mem = []) (hfs : f.saved = st.now) (ht : c' 2258 = .int .i8 (n : Int)) (hph : c' 2404 = .int .u8 1) (hret : c' 2259 = .slice none 0 0) (hbt : c' 27023 = c 27023) :
    MRep own w' g c' V.snap { st with frames := f :: st.frames, ret := [], phase := 1 } (V.marks.length :: sn) stale := by
  have k : VStep own w (fun i => c i) own w' (fun i => if i < 2435 ∨ 27019 ≤ i then c i else c' i) := ⟨fun _ _ => rfl, fun i hi => by simp only [hi, if_true], hm⟩
  have hnl : ∀ v l, NL (Mu own) w v l → NL (Mu own) w' v l := fun v l q => k.nl q
  have hwl : ∀ v l, WL (Mu own) w v l → WL (Mu own) w' v l := fun v l q => k.wl q
  have hm0 := h.m
  have hmm := hm0.mem
  have hlen : (st.frames.map (·.mem)).length = n := by rw [List.length_map, hn]
  have hlow : ∀ j, 2260 ≤ j → j < 2435 → j ≠ 2404 → c' j = c j := fun j h1 h2 h3 => hc j h2 (by omega) (by omega) (by omega) (by omega) h3 (by omega)
  refine ⟨hv, ⟨(hc 0 (by omega) (by omega) (by omega) (by omega) (by omega) (by omega) (by omega)).trans hm0.ptr, ?_, ⟨?_, ?_⟩, ?_, ?_, hm0.env.same (fun j h1 h2 => hlow j (by omega) (by omega) (by omega)) hwl, hm0.origin.same hm0.oLt (fun j hj => hlow _ (by omega) (by omega) (by omega)), hm0.oLt, ⟨by rw [hlow _ (by omega) (by omega) (by omega)]; exact hm0.price.c0, by rw [hlow _ (by omega) (by omega) (by omega)]; exact hm0.price.c1, by rw [hlow _ (by omega) (by omega) (by omega)]; exact hm0.price.c2, by rw [hlow _ (by omega) (by omega) (by omega)]; exact hm0.price.c3⟩, hm0.pLt, hph, (by decide : (1 : Nat) ≤ 2), (hlow _ (by omega) (by omega) (by omega)).trans hm0.status, hm0.sLt, (hlow _ (by omega) (by omega) (by omega)).trans hm0.applied, hm0.aLt, (hlow _ (by omega) (by omega) (by omega)).trans hm0.limit, hm0.lLt, hm0.made.same hm0.mLt (fun j hj => hlow _ (by omega) (by omega) (by omega)), hm0.mLt, fun q => (by cases q), hm0.fLt⟩, h.abs, JOK_snap h.jok, h.orig, ?_, ?_, ?_, hbt.trans h.built⟩
  · show MemC own w' c' (f.mem :: st.frames.map (·.mem)) stale
    rw [hfm]
    have hl0 : lowB ([] :: st.frames.map (·.mem)) = lowB (st.frames.map (·.mem)) := by simp [lowB]
    refine ⟨by rw [h10]; simp [hn], ⟨?_, ?_⟩, ?_, by simp [hn]; omega, ?_, by rw [hl0]; exact hmm.stl⟩
    · rw [hl0, hlen, hb]
      have := hmm.base.at_
      rwa [hlen] at this
    · have hgo : ∀ ms : List (List Nat), ms.length ≤ n → BaseL c ms → BaseL c' ms := by
        intro ms
        induction ms with
        | nil => intro _ q; exact (hc 2 (by omega) (by omega) (by omega) (by omega) (by omega) (by omega) (by omega)).trans q
        | cons a r ih =>
          intro hl q
          rw [List.length_cons] at hl
          exact ⟨(hc _ (by omega) (by omega) (by omega) (by omega) (by omega) (by omega) (by omega)).trans q.1, ih (by omega) q.2⟩
      exact hgo _ (by rw [hlen]; exact Nat.le_refl _) hmm.base
    · rw [hl0, hc 1 (by omega) (by omega) (by omega) (by omega) (by omega) (by omega) (by omega)]
      exact hmm.buf.mono (fun _ _ _ q => q) (fun b _ q => q) (fun b m t cc hB hT => hB.mod hm (fun q => q.2 hT))
    · intro x hx
      rcases List.mem_cons.1 hx with rfl | hx
      · exact ⟨by decide, by decide⟩
      · exact hmm.size x hx
  · rw [hn]; exact hf
  · refine FrL.low (n := n) hn7 (c := c') (c' := c') (fun j _ _ => rfl) (fun v l q => q) (by rw [hn]; exact Nat.le_refl _) ?_
    have hgo : ∀ (l : List AFrame) (sn : List Nat), l.length ≤ n → FrL (Mu own) w c l sn → FrL (Mu own) w' c' l sn := by
      intro l
      induction l with
      | nil => intro sn _ q; cases sn with
        | nil => trivial
        | cons a b => cases q
      | cons a r ih =>
        intro sn hl q
        cases sn with
        | nil => cases q
        | cons b sn =>
          rw [List.length_cons] at hl
          exact ⟨q.1.area (fun j h1 h2 => hc j (by omega) (by omega) (by omega) (by omega) (by omega) (by omega) (by omega)) (fun j h1 h2 => hc j (by omega) (by omega) (by omega) (by omega) (by omega) (by omega) (by omega)) hnl, ih sn (by omega) q.2⟩
    exact hgo _ _ (by rw [hn]; exact Nat.le_refl _) hm0.frs
  · show c' 2258 = .int .i8 (((f :: st.frames).length : Int) - 1)
    rw [ht, List.length_cons, hn]; congr 1; omega
  · show NL (Mu own) w' (c' 2259) []
    rw [hret]; exact NL.nil
  · intro x hx
    show x < V.marks.length + 1
    rcases List.mem_cons.1 hx with rfl | hx
    · omega
    · have := h.snl x hx; omega
  · exact List.pairwise_cons.2 ⟨fun y hy => h.snl y hy, h.snr⟩
  · intro i hi
    cases i with
    | zero =>
      show V.snap.savedAt V.marks.length = f.saved
      rw [savedAt_snap, if_pos rfl, hfs]; exact h.abs
    | succ j =>
      have hj : j < st.frames.length := by simpa using hi
      have hsl := hm0.frs.len
      show V.snap.savedAt (sn.getD j 0) = (st.frames[j]).saved
      rw [savedAt_snap, if_neg]
      · exact h.saved j hj
      · have : sn.getD j 0 ∈ sn := by
          rw [List.getD_eq_getElem?_getD, List.getElem?_eq_getElem (by omega)]
          exact List.getElem_mem _
        have := h.snl _ this
        omega
end
end Go.Proofs.YgvahwGreat
