import Derived.Test.YgvahwGreatMachC
namespace Go.Proofs.YgvahwGreat
open Go.RowKit
attribute [local go_sem] wv_fold

set_option maxHeartbeats 1600000 in
theorem mSettle_pop (g F sp pc takes step x : Nat) (c : Nat → Value) (w : World) (hB : Blk w g 27024 105 c) (hF0 : 1803 ≤ F) (hF : F + 65 ≤ 2258) (c6 : c (F + 6) = .int .u16 sp) (c4 : c (F + 4) = .int .u16 pc) (ht : takes ≤ sp) (hpc : pc + step < 65536) (hsp : sp < 65536) :
    Calls Hvah.prog 268 #[.pointer (some ⟨g, 0, none⟩), .pointer (some ⟨g, F, none⟩), .int .u16 takes, .bool false, wv x, .int .u16 step] w fun e w' => e = .returned (.tuple #[]) ∧ Blk w' g 27024 105 (updv (updv c (F + 6) (.int .u16 (sp - takes : Nat))) (F + 4) (.int .u16 (pc + step : Nat))) ∧ Mod (· = g) w w' := by
  have hlt := hB.lt
  have k6 := hB.cell (i := F + 6) (by omega)
  have k4 := hB.cell (i := F + 4) (by omega)
  rw [c6] at k6
  rw [c4] at k4
  have hfz := hB.fz
  go_enter Hvah.func268, Hvah.ntmps268
  go_wp2
  go_end0
  refine ⟨rfl, ?_, (((Mod.refl (· = g) w).setCell (Or.inl rfl) _).setCell (Or.inl rfl) _).alloc _ _⟩
  have := ((hB.set (F + 6) (.int .u16 (sp - takes : Nat))).set (F + 4) (.int .u16 (pc + step : Nat))).alloc #[.int .u64 (lim x 0 : Nat), .int .u64 (lim x 1 : Nat), .int .u64 (lim x 2 : Nat), .int .u64 (lim x 3 : Nat)] 79
  rw [show ((sp - takes : Nat) : Int) = (sp : Int) - takes by omega, show ((pc + step : Nat) : Int) = (pc : Int) + step by omega] at this ⊢
  exact this
section
variable {own own' : Nat → Nat} {w w' : World} {g : Nat} {c c' : Nat → Value} {V V' : EV} {st : ASt} {sn stale : List Nat} {f : AFrame} {rest : List AFrame} {s : Nat}
/-- settle without a word. -/
theorem mSettleN (h : MRep own w g c V st (s :: sn) stale) (hst : st.frames = f :: rest) (takes step x : Nat) (ht : takes ≤ f.stack.length) (hpc : f.pc + step ≤ 60000) :
    Calls Hvah.prog 268 #[.pointer (some ⟨g, 0, none⟩), .pointer (some ⟨g, 1803 + rest.length * 65, none⟩), .int .u16 takes, .bool false, wv x, .int .u16 step] w fun e w' => e = .returned (.tuple #[]) ∧ ∃ c', MRep own w' g c' V { st with frames := f.settle takes [] step :: rest } (s :: sn) stale ∧ MStep own w own w' := by
  obtain ⟨hf, hl7⟩ := h.frame hst
  have hl := hf.ok.sLen
  refine (mSettle_pop g (1803 + rest.length * 65) f.stack.length f.pc takes step x c w h.v.blk (by omega) (by omega) hf.sp hf.pc ht (by omega) (by omega)).mono ?_
  rintro e w1 ⟨rfl, hB, hm⟩
  refine ⟨rfl, _, h.top_ hst hm hB ?_ ?_ rfl rfl, MStep.ofG h.v.tag hm⟩
  · intro j hj
    rw [updv_ne _ _ (by have := hj.2; omega), updv_ne _ _ (by have := hj.2; omega)]
  · refine hf.settle (fun v l k => (Keep.here h.v hm).nl k) ?_ (by simp) ht ?_ ?_ ?_ ?_ hl7
    · exact ⟨hf.ok.kind, hf.ok.pre, hpc, by simp [AFrame.settle]; omega, fun y hy => hf.ok.sLt y (List.mem_of_mem_drop hy), hf.ok.gas, hf.ok.self, hf.ok.caller, hf.ok.value, hf.ok.code, hf.ok.mLen, hf.ok.m32, hf.ok.oLt, hf.ok.lLt, hf.ok.out⟩
    · intro j h1 h2 h3
      rw [updv_ne _ _ h2, updv_ne _ _ h1]
    · rw [updv_ne _ _ (by omega), updv_same]; rfl
    · rw [updv_same]
    · intro y hy
      cases hy
/-- The world grows. -/
theorem MRep.ext (h : MRep own w g c V st sn stale) (e : Ext w w') : MRep own w' g c V st sn stale := by
  refine ⟨h.v.ext e, ?_, h.abs, h.jok, h.orig, h.snl, h.snr, h.saved, h.built⟩
  have hm := h.m
  have hl : st.frames.length ≤ 7 := by have := hm.mem.few; simpa using this
  exact ⟨hm.ptr, ⟨hm.mem.top, hm.mem.base, hm.mem.buf.ext e (fun _ _ _ k => k), hm.mem.few, hm.mem.size, hm.mem.stl⟩, FrL.same (fun _ _ _ => rfl) (fun v l k => k.ext e) hl hm.frs, hm.top, hm.ret.ext e, hm.env.same (fun _ _ _ => rfl) (fun v l k => k.ext e), hm.origin, hm.oLt, hm.price, hm.pLt, hm.phase, hm.hLt, hm.status, hm.sLt, hm.applied, hm.aLt, hm.limit, hm.lLt, hm.made, hm.mLt, hm.left, hm.fLt⟩
/-- The vault's part has changed. -/
theorem MC.step (h : MC own w g c st sn stale) (k : VStep own w c own' w' c') : MC own' w' g c' st sn stale := by
  have hl : st.frames.length ≤ 7 := by have := h.mem.few; simpa using this
  have hc : ∀ i, i < 2435 → c' i = c i := fun i hi => k.far i (Or.inl hi)
  have hbs : ∀ (o : Option Addr) (l : List Nat), BS (Mu own) w o l → BS (Mu own') w' o l := fun o l hb => ⟨hb.lt, fun hl => by
    obtain ⟨b, off, h1, h2, h3, h4⟩ := hb.spot hl
    have h2' : own b = 0 := by apply Decidable.byContradiction; exact h2
    exact ⟨b, off, h1, by unfold Mu; rw [k.keep b h3]; exact h2, Nat.lt_of_lt_of_le h3 k.mod.size, fun i hi => (k.mod.cell (p := ⟨b, off + i, none⟩) h3 (fun q => q.1.1 h2')).trans (h4 i hi)⟩⟩
  have hnl : ∀ v l, NL (Mu own) w v l → NL (Mu own') w' v l := fun v l hv => by
    obtain ⟨o, cap, h1, h2, h3, h4⟩ := hv
    exact ⟨o, cap, h1, h2, h3, hbs _ _ h4⟩
  have hwl : ∀ v l, WL (Mu own) w v l → WL (Mu own') w' v l := fun v l hv => by
    rcases hv with hv | ⟨b, off, cap, h1, h2, h3, h4, h5, h6⟩
    · exact Or.inl hv
    · have h4' : own b = 0 := by apply Decidable.byContradiction; exact h4
      refine Or.inr ⟨b, off, cap, h1, h2, h3, by unfold Mu; rw [k.keep b h5]; exact h4, Nat.lt_of_lt_of_le h5 k.mod.size, fun i hi => ⟨(h6 i hi).1, fun j u hu => ?_⟩⟩
      rw [k.mod.cell (p := ⟨b, _, none⟩) h5 (fun q => q.1.1 h4')]
      exact (h6 i hi).2 j u hu
  exact ⟨(hc _ (by omega)).trans h.ptr, ⟨(hc _ (by omega)).trans h.mem.top, h.mem.base.same h.mem.few (fun j _ _ => hc j (by omega)), by
      rw [hc _ (by omega)]
      exact h.mem.buf.mono (fun _ _ _ q => q) (fun b hb ht => by unfold Ow at *; rw [k.keep b hb]; exact ht) (fun b n t cc hb ht => hb.mod k.mod (fun q => q.2 ht)), h.mem.few, h.mem.size, h.mem.stl⟩, FrL.same (fun j _ _ => hc j (by omega)) hnl hl h.frs, (hc _ (by omega)).trans h.top, by rw [hc _ (by omega)]; exact hnl _ _ h.ret, h.env.same (fun j _ _ => hc j (by omega)) hwl, h.origin.same h.oLt (fun j hj => hc _ (by omega)), h.oLt, ⟨by rw [hc _ (by omega)]; exact h.price.c0, by rw [hc _ (by omega)]; exact h.price.c1, by rw [hc _ (by omega)]; exact h.price.c2, by rw [hc _ (by omega)]; exact h.price.c3⟩, h.pLt, (hc _ (by omega)).trans h.phase, h.hLt, (hc _ (by omega)).trans h.status, h.sLt, (hc _ (by omega)).trans h.applied, h.aLt, (hc _ (by omega)).trans h.limit, h.lLt, h.made.same h.mLt (fun j hj => hc _ (by omega)), h.mLt, fun q r => (hc _ (by omega)).trans (h.left q r), h.fLt⟩
/-- running. -/
theorem mRun (h : MRep own w g c V st (s :: sn) stale) (hst : st.frames = f :: rest) (hph : st.phase = 1) : Calls Hvah.prog 192 #[.pointer (some ⟨g, 0, none⟩)] w fun e w' => e = .returned (.pointer (some ⟨g, 1803 + rest.length * 65, none⟩)) ∧ Ext w w' := by
  obtain ⟨hf, hl7⟩ := h.frame hst
  have ht := h.m.top
  rw [hst] at ht
  have hp := h.m.phase
  rw [hph] at hp
  refine mRunning g rest.length c w h.v.blk hl7 h.m.ptr ?_ hp
  rw [ht]
  congr 1
  simp
/-- arg. -/
theorem mArg (h : MRep own w g c V st (s :: sn) stale) (hst : st.frames = f :: rest) (i : Nat) (hi : i < 64) : Calls Hvah.prog 273 #[.pointer (some ⟨g, 0, none⟩), .pointer (some ⟨g, 1803 + rest.length * 65, none⟩), .int .i64 i] w fun e w' => e = .returned (wv (f.arg i)) ∧ Ext w w' := by
  obtain ⟨hf, hl7⟩ := h.frame hst
  have hl := hf.ok.sLen
  by_cases hlt : i < f.stack.length
  · have e : f.arg i = f.stack[i] := by simp [AFrame.arg, List.getD, hlt]
    rw [e]
    exact mArgYes g (1803 + rest.length * 65) f.stack.length (64 * rest.length) i (64 * rest.length + (f.stack.length - 1 - i)) f.stack[i] c w h.v.blk (by omega) (by omega) hf.sb hf.sp hlt hl (by omega) (by omega) (hf.stack i hlt) (hf.ok.sLt _ (List.getElem_mem hlt))
  · have e : f.arg i = 0 := by simp [AFrame.arg, List.getD, Nat.le_of_not_lt hlt]
    rw [e]
    exact mArgNo g (1803 + rest.length * 65) f.stack.length (64 * rest.length) i c w h.v.blk (by omega) (by omega) hf.sb hf.sp (by omega) hi hl (by omega)
/-- Opcode. -/
theorem mOp (h : MRep own w g c V st (s :: sn) stale) (hst : st.frames = f :: rest) (hph : st.phase = 1) : Calls Hvah.prog 117 #[.pointer (some ⟨g, 0, none⟩)] w fun e w' => e = .returned (.int .u8 (f.opcode : Nat)) ∧ Ext w w' := by
  obtain ⟨hf, hl7⟩ := h.frame hst
  have ht := h.m.top
  rw [hst] at ht
  have hp := h.m.phase
  rw [hph] at hp
  refine mOpcode (Mu own) g rest.length (1803 + rest.length * 65) f.pc c f.code w h.v.blk hl7 rfl h.m.ptr ?_ hp hf.pc hf.ok.pc hf.code
  rw [ht]
  congr 1
  simp
theorem arg_lt {f : AFrame} (h : FOK f) (i : Nat) : f.arg i < P256 := by
  unfold AFrame.arg
  rw [List.getD_eq_getElem?_getD]
  cases q : f.stack[i]? with
  | none => exact (by decide : 0 < P256)
  | some x => exact h.sLt x (List.mem_of_getElem? q)
end
end Go.Proofs.YgvahwGreat
