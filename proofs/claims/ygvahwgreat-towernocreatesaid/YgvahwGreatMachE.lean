import Derived.Test.YgvahwGreatMachD
namespace Go.Proofs.YgvahwGreat
open Go.RowKit
section
variable {own : Nat → Nat} {w : World} {g : Nat} {c : Nat → Value} {V : EV} {st : ASt} {sn stale : List Nat} {f : AFrame} {rest : List AFrame} {s : Nat}
theorem mSetP (h : MRep own w g c V st (s :: sn) stale) (hst : st.frames = f :: rest) (takes step x : Nat) (ht : takes ≤ f.stack.length) (hs : f.stack.length - takes < 64) (hx : x < P256) (hpc : f.pc + step ≤ 60000) : ∀ W, Ext w W →
    Calls Hvah.prog 268 #[.pointer (some ⟨g, 0, none⟩), .pointer (some ⟨g, 1803 + rest.length * 65, none⟩), .int .u16 takes, .bool true, wv x, .int .u16 step] W fun e w' => e = .returned (.tuple #[]) ∧ ∃ c', MRep own w' g c' V { st with frames := f.settle takes [x] step :: rest } (s :: sn) stale ∧ MStep own w own w' := fun W hW => by
  refine (mSettleP (h.ext hW) hst takes step x ht hs hx hpc).mono ?_
  rintro e w' ⟨rfl, c', h1, h2⟩
  exact ⟨rfl, c', h1, (MStep.ext hW).trans h2⟩
theorem mSetN (h : MRep own w g c V st (s :: sn) stale) (hst : st.frames = f :: rest) (takes step x : Nat) (ht : takes ≤ f.stack.length) (hpc : f.pc + step ≤ 60000) : ∀ W, Ext w W →
    Calls Hvah.prog 268 #[.pointer (some ⟨g, 0, none⟩), .pointer (some ⟨g, 1803 + rest.length * 65, none⟩), .int .u16 takes, .bool false, wv x, .int .u16 step] W fun e w' => e = .returned (.tuple #[]) ∧ ∃ c', MRep own w' g c' V { st with frames := f.settle takes [] step :: rest } (s :: sn) stale ∧ MStep own w own w' := fun W hW => by
  refine (mSettleN (h.ext hW) hst takes step x ht hpc).mono ?_
  rintro e w' ⟨rfl, c', h1, h2⟩
  exact ⟨rfl, c', h1, (MStep.ext hW).trans h2⟩
theorem b2n_lt (b : Bool) : b2n b < P256 := by
  cases b
  · exact (by decide : 0 < P256)
  · exact (by decide : 1 < P256)
end
end Go.Proofs.YgvahwGreat
