import Derived.Test.YgvahwGreatMz
namespace Go.Proofs.YgvahwGreat
open Go.RowKit
section
variable {own : Nat → Nat} {w : World} {g : Nat} {c : Nat → Value} {V : EV} {st : ASt} {sn stale : List Nat} {s : Nat} {f : AFrame} {rest : List AFrame}
theorem mOpSwap (h : MRep own w g c V st (s :: sn) stale) (hst : st.frames = f :: rest) (hph : st.phase = 1) (ho : 144 ≤ f.opcode ∧ f.opcode ≤ 159) (hl : f.opcode - 142 ≤ f.stack.length) (hpc : f.pc ≤ 50000) : Calls Hvah.prog 327 #[.pointer (some ⟨g, 0, none⟩)] w fun e w' => e = .returned (.tuple #[]) ∧ ∃ c', MRep own w' g c' V { st with frames := { f with stack := swapL f.stack (f.opcode - 144), pc := f.pc + 1 } :: rest } (s :: sn) stale ∧ MStep own w own w' := by
  obtain ⟨hf, h7⟩ := h.frame hst
  have hsl := hf.ok.sLen
  have HR := fun W (hW : Ext w W) => mRun (h.ext hW) hst hph
  have HO := fun W (hW : Ext w W) => mOp (h.ext hW) hst hph
  have hs0 := hf.stack 0 (by omega)
  have hsk := hf.stack (f.opcode - 144 + 1) (by omega)
  have a0 : f.stack[0]'(by omega) = f.arg 0 := by simp [AFrame.arg, List.getD_eq_getElem?_getD, show 0 < f.stack.length by omega]
  have ak : f.stack[f.opcode - 144 + 1]'(by omega) = f.arg (f.opcode - 144 + 1) := by simp [AFrame.arg, List.getD_eq_getElem?_getD, show f.opcode - 144 + 1 < f.stack.length by omega]
  rw [a0] at hs0
  rw [ak] at hsk
  rw [Nat.sub_zero] at hs0
  refine (mSwap_raw g (1803 + rest.length * 65) f.stack.length (64 * rest.length) f.pc (f.opcode - 144) (64 * rest.length + (f.stack.length - 1)) (64 * rest.length + (f.stack.length - 1 - (f.opcode - 144 + 1))) (f.arg 0) (f.arg (f.opcode - 144 + 1)) f.opcode c w h.v.blk (by omega) (by omega) hf.sb hf.sp hf.pc hpc (by omega) hsl (by omega) (by rw [IntKind.wrap_u8]; omega) (by omega) (by omega) (by omega) hs0 hsk HR HO).mono ?_
  rintro e w' ⟨rfl, c', hB, hm, hc, h4, hx, hy⟩
  exact ⟨rfl, c', h.swap hst (by omega) (by omega) hm hB hc h4 hx hy⟩
end
end Go.Proofs.YgvahwGreat
