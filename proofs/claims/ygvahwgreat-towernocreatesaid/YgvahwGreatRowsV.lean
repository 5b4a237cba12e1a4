import Derived.Test.YgvahwGreatRowsU
namespace Go.Proofs.YgvahwGreat
open Go.RowKit
section
variable {own own' : Nat → Nat} {w w' : World} {g : Nat} {c c' : Nat → Value} {V : EV} {st : ASt} {sn stale : List Nat} {f : AFrame} {rest : List AFrame} {s : Nat}
/-- The return data is forgotten. -/
theorem MRep.noRet (h : MRep own w g c V st sn stale) (hm : Mod (· = g) w w') (hB : Blk w' g 27024 105 (updv c 2259 (.slice none 0 0))) : MRep own w' g (updv c 2259 (.slice none 0 0)) V { st with ret := [] } sn stale ∧ MStep own w own w' := by
  have K : Keep own own g 7 w w' := ⟨fun _ _ => rfl, hm.sub (fun x hx => Or.inl hx), h.v.tag, by decide⟩
  have hmm := h.m.mem
  have hl7 : st.frames.length ≤ 7 := by have := hmm.few; simpa using this
  have hc : ∀ i, i ≠ 2259 → updv c 2259 (.slice none 0 0) i = c i := fun i hi => updv_ne _ _ hi
  refine ⟨h.gen (frs' := st.frames) (ret' := []) K (fun b hb => h.v.fresh b (Nat.le_trans hm.size hb)) hB (hc 0 (by omega)) (fun i hi => hc i (by omega)) ⟨(hc _ (by omega)).trans hmm.top, hmm.base.same hmm.few (fun j h1 h2 => hc j (by omega)), ?_, hmm.few, hmm.size, hmm.stl⟩ (FrL.same (fun j h1 h2 => hc j (by omega)) K.nl7 hl7 h.m.frs) ((hc _ (by omega)).trans h.m.top) (by rw [updv_same]; exact NL.nil) (fun q r => (hc _ (by omega)).trans (h.m.left q r)) h.snl h.snr h.saved, MStep.ofG h.v.tag hm⟩
  rw [hc 1 (by omega)]
  exact (Keep.here h.v hm).row hmm.buf (fun _ _ _ q => q) (by decide) (by decide)
/-- Where the output goes. -/
theorem MRep.setOO (h : MRep own w g c V st (s :: sn) stale) (hst : st.frames = f :: rest) (x : Nat) (hx : x < 4294967296) (hout : f.outLen ≠ 0 → x + f.outLen ≤ f.mem.length) (hm : Mod (· = g) w w') (hB : Blk w' g 27024 105 (updv c (1803 + rest.length * 65 + 63) (.int .u32 x))) : MRep own w' g (updv c (1803 + rest.length * 65 + 63) (.int .u32 x)) V { st with frames := { f with outOff := x } :: rest } (s :: sn) stale ∧ MStep own w own w' := by
  obtain ⟨hf, hl7⟩ := h.frame hst
  refine ⟨h.top_ hst hm hB ?_ ?_ rfl rfl, MStep.ofG h.v.tag hm⟩
  · intro j hj
    rw [updv_ne _ _ (by have := hj.2; omega)]
  · have := hf.scal (pre := f.pre) (pc := f.pc) (gas := f.gas) (oo := x) (ol := f.outLen) (O' := Mu own) (w' := w') (c' := updv c (1803 + rest.length * 65 + 63) (.int .u32 x)) (fun j h1 h2 => updv_ne _ _ (by omega)) (fun j _ _ _ _ _ h63 _ => updv_ne _ _ h63) (fun v l k => (Keep.here h.v hm).nl k) ⟨hf.ok.kind, hf.ok.pre, hf.ok.pc, hf.ok.sLen, hf.ok.sLt, hf.ok.gas, hf.ok.self, hf.ok.caller, hf.ok.value, hf.ok.code, hf.ok.mLen, hf.ok.m32, hx, hf.ok.lLt, hout⟩ (by rw [updv_ne _ _ (by omega)]; exact hf.pre) (by rw [updv_ne _ _ (by omega)]; exact hf.pc) (by rw [updv_ne _ _ (by omega)]; exact hf.gas) (updv_same ..) (by rw [updv_ne _ _ (by omega)]; exact hf.outLen)
    exact this
theorem MRep.setOL (h : MRep own w g c V st (s :: sn) stale) (hst : st.frames = f :: rest) (x : Nat) (hx : x < 4294967296) (hout : x ≠ 0 → f.outOff + x ≤ f.mem.length) (hm : Mod (· = g) w w') (hB : Blk w' g 27024 105 (updv c (1803 + rest.length * 65 + 64) (.int .u32 x))) : MRep own w' g (updv c (1803 + rest.length * 65 + 64) (.int .u32 x)) V { st with frames := { f with outLen := x } :: rest } (s :: sn) stale ∧ MStep own w own w' := by
  obtain ⟨hf, hl7⟩ := h.frame hst
  refine ⟨h.top_ hst hm hB ?_ ?_ rfl rfl, MStep.ofG h.v.tag hm⟩
  · intro j hj
    rw [updv_ne _ _ (by have := hj.2; omega)]
  · have := hf.scal (pre := f.pre) (pc := f.pc) (gas := f.gas) (oo := f.outOff) (ol := x) (O' := Mu own) (w' := w') (c' := updv c (1803 + rest.length * 65 + 64) (.int .u32 x)) (fun j h1 h2 => updv_ne _ _ (by omega)) (fun j _ _ _ _ _ _ h64 => updv_ne _ _ h64) (fun v l k => (Keep.here h.v hm).nl k) ⟨hf.ok.kind, hf.ok.pre, hf.ok.pc, hf.ok.sLen, hf.ok.sLt, hf.ok.gas, hf.ok.self, hf.ok.caller, hf.ok.value, hf.ok.code, hf.ok.mLen, hf.ok.m32, hf.ok.oLt, hx, hout⟩ (by rw [updv_ne _ _ (by omega)]; exact hf.pre) (by rw [updv_ne _ _ (by omega)]; exact hf.pc) (by rw [updv_ne _ _ (by omega)]; exact hf.gas) (by rw [updv_ne _ _ (by omega)]; exact hf.outOff) (updv_same ..)
    exact this
end
end Go.Proofs.YgvahwGreat
