import Derived.Test.YgvahwGreatOhA
import Derived.Test.YgvahwGreatRowsV
import Derived.Test.YgvahwGreatRowsW
import Derived.Test.YgvahwGreatMq
import Derived.Test.YgvahwGreatMs
import Derived.Test.YgvahwGreatYpR
import Derived.Test.YgvahwGreatKc
namespace Go.Proofs.YgvahwGreat
open Go.RowKit
set_option linter.unusedSimpArgs false
theorem onet4q : OneT 4 := oneT_of (by kernel_rfl) (by kernel_rfl)
theorem onet5q : OneT 5 := oneT_of (by kernel_rfl) (by kernel_rfl)
theorem onet26q : OneT 24 := oneT_of (by kernel_rfl) (by kernel_rfl)
theorem onet32q : OneT 23 := oneT_of (by kernel_rfl) (by kernel_rfl)
theorem onet60q : OneT 73 := oneT_of (by kernel_rfl) (by kernel_rfl)
theorem onet74q : OneT 87 := oneT_of (by kernel_rfl) (by kernel_rfl)
theorem onet61q : OneT 74 := oneT_of (by kernel_rfl) (by kernel_rfl)
section
variable {own : Nat → Nat} {w : World} {g : Nat} {c : Nat → Value} {V : EV} {st : ASt} {sn stale : List Nat} {s : Nat} {f : AFrame} {rest : List AFrame}
theorem mSettleNg (h : MRep own w g c V st (s :: sn) stale) (hst : st.frames = f :: rest) (takes step x : Nat) (ht : takes ≤ f.stack.length) (hpc : f.pc + step ≤ 60000) :
    Calls Hvah.prog 268 #[.pointer (some ⟨g, 0, none⟩), .pointer (some ⟨g, 1803 + rest.length * 65, none⟩), .int .u16 takes, .bool false, wv x, .int .u16 step] w fun e w' => e = .returned (.tuple #[]) ∧ ∃ c', MRep own w' g c' V { st with frames := f.settle takes [] step :: rest } (s :: sn) stale ∧ MStep own w own w' ∧ Mod (· = g) w w' := by
  obtain ⟨hf, hl7⟩ := h.frame hst
  have hl := hf.ok.sLen
  refine (mSettle_pop g (1803 + rest.length * 65) f.stack.length f.pc takes step x c w h.v.blk (by omega) (by omega) hf.sp hf.pc ht (by omega) (by omega)).mono ?_
  rintro e w1 ⟨rfl, hB, hm⟩
  refine ⟨rfl, _, h.top_ hst hm hB ?_ ?_ rfl rfl, MStep.ofG h.v.tag hm, hm⟩
  · intro j hj
    rw [updv_ne _ _ (by have := hj.2; omega), updv_ne _ _ (by have := hj.2; omega)]
  · refine hf.settle (fun v l k => (Keep.here h.v hm).nl k) ?_ (by simp) ht ?_ ?_ ?_ ?_ hl7
    · exact ⟨hf.ok.kind, hf.ok.pre, hpc, by simp [AFrame.settle]; omega, fun y hy => hf.ok.sLt y (List.mem_of_mem_drop hy), hf.ok.gas, hf.ok.self, hf.ok.caller, hf.ok.value, hf.ok.code, hf.ok.mLen, hf.ok.m32, hf.ok.oLt, hf.ok.lLt, hf.ok.out⟩
    · intro j h1 h2 h3
      rw [updv_ne _ _ h2, updv_ne _ _ h1]
    · rw [updv_ne _ _ (by omega), updv_same]; rfl
    · rw [updv_same]
    · intro y hy
      cases hy
end
theorem NL.oneq {O : Nat → Prop} {w : World} {v : Value} {l : List Nat} (h : NL O w v l) : v.oneCell' = true := by obtain ⟨_, _, rfl, _⟩ := h; rfl
end Go.Proofs.YgvahwGreat
