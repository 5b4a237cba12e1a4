import Derived.Test.YgvahwGreatZr4
import Derived.Test.YgvahwGreatAp1
import Derived.Test.YgvahwGreatYs
import Derived.Test.YgvahwGreatTop
import Derived.Test.YgvahwGreatZq
namespace Go.Proofs.YgvahwGreat
open Go.RowKit
set_option linter.unusedVariables false
/-- The specification while a transaction runs, its blocks told. -/
def ZJ (K T B Y : Nat) (start : List (Nat × Nat × Nat)) (tot : Nat) (st : ASt) (P : Nat → Prop) (W : World) : Prop :=
  ∃ TL F n c d V L, YZ P TL W Y F n c d V start st tot L ∧ SInv K V (gsum st.frames) L ∧ AInv T B st ∧ InLe st.frames ∧ PhOK st
section
variable {K T B Y : Nat} {start : List (Nat × Nat × Nat)} {tot : Nat} {st : ASt} {P : Nat → Prop} {W : World}
theorem ZJ.small (h : ZJ K T B Y start tot st P W) : ∀ b, P b → b < W.heap.size := by
  obtain ⟨TL, F, n, c, d, V, L, hz, _⟩ := h
  exact hz.small
theorem zjStep (HLG : ∀ {O T : Nat → Prop} {w : World} {v : Value} {l : List ALog}, Small O w → LogL T O w v l → l.length ≤ 100000 → Calls Hvah.prog 80 #[v] w fun e w' => ∃ r, e = .returned r ∧ GRow 141 22 (LgC O w') (fun b => ¬ O b) w' r l ∧ Full r ∧ Ext w w') (HCA : ∀ {O : Nat → Prop} {w : World} {cr n : Nat} {vs : Value}, cr < 2 ^ 160 → Small O w → NV O w vs n → n < 18446744073709551616 → Calls Hvah.prog 54 #[.agg (av cr), vs] w fun e w' => e = .returned (.agg (av (createAddrA cr n))) ∧ Ext w w') (HC2 : ∀ {O O' : Nat → Prop} {w : World} {cr salt : Nat} {vs v : Value} {init : List Nat}, cr < 2 ^ 160 → NV O w vs salt → salt < P256 → NL O' w v init → init.length ≤ 1000000 → Calls Hvah.prog 234 #[.agg (av cr), vs, v] w fun e w' => e = .returned (.agg (av (create2AddrA cr salt init))) ∧ Ext w w') (HK : KSum) (hT : T < P256) (hK : K ≤ 4400000) (h : ZJ K T B Y start tot st P W) (hne : st.frames ≠ []) (hok : ∀ x ∈ st.step.frames, FOK x) :
    Calls Hvah.prog 30 #[.pointer (some ⟨Y, 0, none⟩)] W fun e w' => ∃ P', e = .returned (.bool true) ∧ ZJ K T B Y start tot st.step P' w' ∧ Kept P P' W w' := by
  obtain ⟨TL, F, n, c, d, V, L, hz, hs, hA, hI, hP⟩ := h
  cases L with
  | nil => exact absurd (by rw [hz.frs]; rfl) hne
  | cons x r =>
  have hfr : st.frames = x.f :: r.map (·.f) := hz.frs
  have e : st.step = st.stepF x.f (r.map (·.f)) := by unfold ASt.step; rw [hfr]
  have hph : st.phase = 1 := by
    rcases hP with q | q
    · exact q.2
    · exact absurd q.1 hne
  have hA2 := hA.step hne hok
  have hI2 := hI.step hA
  have hP2 : PhOK st.step := by rw [e]; exact stepF_ph _ _ _ hph
  rw [e] at hok
  refine (zrStep HLG HCA HC2 HK (⟨hz, hph, hA, hs, hT, hK, hok⟩ : ZrP K T B P TL W Y F n c d V start st tot x r) (hI x.f (by rw [hfr]; simp))).mono ?_
  rintro e2 w' ⟨rfl, O', TL', F', n', c', d', W', L', hz', hs', hO', hM'⟩
  rw [← e] at hz' hs'
  exact ⟨O', rfl, ⟨TL', F', n', c', d', W', L', hz', hs', hA2.1, hI2, hP2⟩, ⟨hO', hM'⟩⟩
theorem zjIdle (h : ZJ K T B Y start tot st P W) (hne : st.frames = []) : Calls Hvah.prog 30 #[.pointer (some ⟨Y, 0, none⟩)] W fun e w' => e = .returned (.bool false) ∧ w' = W := by
  obtain ⟨TL, F, n, c, d, V, L, hz, hs, hA, hI, hP⟩ := h
  have hph : st.phase = 2 := by
    rcases hP with q | q
    · exact absurd hne q.1
    · exact q.2
  exact yStepIdle hz.bY 2 (by rw [hz.phase, hph]) (by decide)
end
end Go.Proofs.YgvahwGreat
