import Derived.Test.YgvahwGreatMx
namespace Go.Proofs.YgvahwGreat
open Go.RowKit
section
variable {own : Nat → Nat} {w w' : World} {g : Nat} {c c' : Nat → Value} {V : EV} {st : ASt} {sn stale : List Nat} {f : AFrame} {rest : List AFrame} {s : Nat}
/-- A frame with other plain fields. -/
def AFrame.plainer (f : AFrame) (pre pc gas oo ol : Nat) : AFrame := { f with pre := pre, pc := pc, gas := gas, outOff := oo, outLen := ol }
theorem FrC.scal {O O' : Nat → Prop} {i pre pc gas oo ol : Nat} (h : FrC O w c i s f) (hs : ∀ j, 11 + 256 * i ≤ j → j < 11 + 256 * i + 256 → c' j = c j) (hc : ∀ j, 1803 + i * 65 ≤ j → j < 1803 + i * 65 + 65 → j ≠ 1803 + i * 65 + 2 → j ≠ 1803 + i * 65 + 4 → j ≠ 1803 + i * 65 + 7 → j ≠ 1803 + i * 65 + 63 → j ≠ 1803 + i * 65 + 64 → c' j = c j) (hn : ∀ v l, NL O w v l → NL O' w' v l) (hok : FOK (f.plainer pre pc gas oo ol)) (h2 : c' (1803 + i * 65 + 2) = .int .u8 (pre : Nat)) (h4 : c' (1803 + i * 65 + 4) = .int .u16 (pc : Nat)) (h7 : c' (1803 + i * 65 + 7) = .int .u64 (gas : Nat)) (h63 : c' (1803 + i * 65 + 63) = .int .u32 (oo : Nat)) (h64 : c' (1803 + i * 65 + 64) = .int .u32 (ol : Nat)) : FrC O' w' c' i s (f.plainer pre pc gas oo ol) where
  kind := by rw [hc _ (by omega) (by omega) (by omega) (by omega) (by omega) (by omega) (by omega)]; exact h.kind
  pre := h2
  static := by rw [hc _ (by omega) (by omega) (by omega) (by omega) (by omega) (by omega) (by omega)]; exact h.static
  pc := h4
  sb := by rw [hc _ (by omega) (by omega) (by omega) (by omega) (by omega) (by omega) (by omega)]; exact h.sb
  sp := by rw [hc _ (by omega) (by omega) (by omega) (by omega) (by omega) (by omega) (by omega)]; exact h.sp
  gas := h7
  snap := by rw [hc _ (by omega) (by omega) (by omega) (by omega) (by omega) (by omega) (by omega)]; exact h.snap
  self := h.self.same h.ok.self fun j hj => hc _ (by omega) (by omega) (by omega) (by omega) (by omega) (by omega) (by omega)
  caller := h.caller.same h.ok.caller fun j hj => hc _ (by omega) (by omega) (by omega) (by omega) (by omega) (by omega) (by omega)
  value := ⟨by rw [hc _ (by omega) (by omega) (by omega) (by omega) (by omega) (by omega) (by omega)]; exact h.value.c0, by rw [hc _ (by omega) (by omega) (by omega) (by omega) (by omega) (by omega) (by omega)]; exact h.value.c1, by rw [hc _ (by omega) (by omega) (by omega) (by omega) (by omega) (by omega) (by omega)]; exact h.value.c2, by rw [hc _ (by omega) (by omega) (by omega) (by omega) (by omega) (by omega) (by omega)]; exact h.value.c3⟩
  code := by rw [hc _ (by omega) (by omega) (by omega) (by omega) (by omega) (by omega) (by omega)]; exact hn _ _ h.code
  input := by rw [hc _ (by omega) (by omega) (by omega) (by omega) (by omega) (by omega) (by omega)]; exact hn _ _ h.input
  dests := fun j hj => by rw [hc _ (by omega) (by omega) (by omega) (by omega) (by omega) (by omega) (by omega)]; exact h.dests j hj
  outOff := h63
  outLen := h64
  stack := fun j hj => by
    have h1 := h.ok.sLen
    have h2 := h.stack j hj
    have hj2 : j < f.stack.length := hj
    have hlen : (f.plainer pre pc gas oo ol).stack.length = f.stack.length := rfl
    exact ⟨by rw [hs _ (by omega) (by omega)]; exact h2.c0, by rw [hs _ (by omega) (by omega)]; exact h2.c1, by rw [hs _ (by omega) (by omega)]; exact h2.c2, by rw [hs _ (by omega) (by omega)]; exact h2.c3⟩
  ok := hok
/-- The top frame's place is set. -/
theorem MRep.setPc (h : MRep own w g c V st (s :: sn) stale) (hst : st.frames = f :: rest) (p : Nat) (hp : p ≤ 60000) (hm : Mod (· = g) w w') (hB : Blk w' g 27024 105 (updv c (1803 + rest.length * 65 + 4) (.int .u16 p))) : MRep own w' g (updv c (1803 + rest.length * 65 + 4) (.int .u16 p)) V { st with frames := { f with pc := p } :: rest } (s :: sn) stale ∧ MStep own w own w' := by
  obtain ⟨hf, hl7⟩ := h.frame hst
  refine ⟨h.top_ hst hm hB ?_ ?_ rfl rfl, MStep.ofG h.v.tag hm⟩
  · intro j hj
    rw [updv_ne _ _ (by have := hj.2; omega)]
  · have := hf.scal (pre := f.pre) (pc := p) (gas := f.gas) (oo := f.outOff) (ol := f.outLen) (O' := Mu own) (w' := w') (c' := updv c (1803 + rest.length * 65 + 4) (.int .u16 p)) (fun j h1 h2 => updv_ne _ _ (by omega)) (fun j _ _ _ h4 _ _ _ => updv_ne _ _ h4) (fun v l k => (Keep.here h.v hm).nl k) ⟨hf.ok.kind, hf.ok.pre, hp, hf.ok.sLen, hf.ok.sLt, hf.ok.gas, hf.ok.self, hf.ok.caller, hf.ok.value, hf.ok.code, hf.ok.mLen, hf.ok.m32, hf.ok.oLt, hf.ok.lLt, hf.ok.out⟩ (by rw [updv_ne _ _ (by omega)]; exact hf.pre) (updv_same ..) (by rw [updv_ne _ _ (by omega)]; exact hf.gas) (by rw [updv_ne _ _ (by omega)]; exact hf.outOff) (by rw [updv_ne _ _ (by omega)]; exact hf.outLen)
    exact this
end
end Go.Proofs.YgvahwGreat
