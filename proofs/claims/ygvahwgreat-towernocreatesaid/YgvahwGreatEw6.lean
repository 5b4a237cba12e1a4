import Derived.Test.YgvahwGreatEw5
import Derived.Test.YgvahwGreatAp
import Derived.Test.YgvahwGreatEndV
import Derived.Test.YgvahwGreatMg
namespace Go.Proofs.YgvahwGreat
open Go.RowKit
set_option linter.unusedVariables false
section
variable {own : Nat → Nat} {w : World} {g k : Nat} {c : Nat → Value} {l : List IAcct} {e : AEnv} {t : ATx} {x : Array Value}
theorem MRep.endV {V : EV} {st : ASt} {sn stale : List Nat} (h : MRep own w g c V st sn stale) : EndV st := by
  refine ⟨fun a ha => ?_, fun a k => ?_⟩
  · rw [← h.abs] at ha
    have ha2 : (V.acct a).gone = true := ha
    unfold EV.acct at ha2
    cases q : look EAcct.addr a V.accts with
    | none => rw [q] at ha2; cases ha2
    | some y =>
      obtain ⟨hm, e⟩ := look_some q
      obtain ⟨i, hi, rfl⟩ := List.getElem_of_mem hm
      obtain ⟨b, cap, cc, _, _, _, _, _, hrow⟩ := GRow.at_ h.v.accts (fun q => by rw [q] at hi; cases hi)
      rw [← e]; exact (hrow i hi).aLt
  · rw [← h.abs]; exact (h.v.slLt a k).1
/-- The engine has applied a transaction. -/
def EG (l : List IAcct) (e : AEnv) (t : ATx) (g n0 : Nat) (o0 : Nat → Nat) (P : Nat → Prop) (q : Array Value) (N : Nat) (w : World) : Prop :=
  Ones q ∧ ∃ m stE, Runs ((st0 l e).begin_ t) m ∧ ASt.steps m ((st0 l e).begin_ t) = stE ∧ EndOK stE ∧ EndV stE ∧ ER g n0 o0 stE P q N w
theorem eApplyGo (h : EIdle k l e own w g c) (hl : worldOKI l = true) (hxl : ∀ y ∈ l, y.nonce < 18446744073709551616 ∧ y.bal < P256) (hx : x.size = 174) (hT : TxC (Mu own) w (cf x) t) (hv : (st0 l e).verdict t = 0) : Calls Hvah.prog 11 #[.pointer (some ⟨g, 0, none⟩), .agg x] w fun r w' => ∃ P' q N, r = .returned (.agg q) ∧ q.size = 25 ∧ EG l e t g w.heap.size own P' q N w' ∧ Kept (EP own) P' w w' := by
  have hTl : sumI l < P256 := ((worldOKI_iff l).1 hl).2.2.2
  have hidle : WIdle (sumI l) (st0 l e).now := newW_idle hl hxl
  have hend : ∀ m, Runs ((st0 l e).begin_ t) m → EndOK (ASt.steps m ((st0 l e).begin_ t)) := fun m hr => end_ok hidle hTl (verdict_zero hv) hT.fLt hT.tLt hT.vLt hr
  refine eApplyDone (P0 := EP own) hx (fun b hb q => absurd (h.h.v.fresh b hb) q.1) (EB l e t g w.heap.size own) (EB l e t g w.heap.size own 0) (EG l e t g w.heap.size own) ?_ (fun W eW => eBeginGo h hl hxl hx hT hv eW) ?_ ?_ ?_
  · rintro P q N W W' B ⟨ho, m, stE, h1, h2, h3, hv, h4⟩ hB hn hN hm
    exact ⟨ho, m, stE, h1, h2, h3, hv, h4.stable hB hn hN hm⟩
  · rintro n P W ⟨m, stE, h1, h2, h3⟩
    refine (eStepW (fun v w' => v = .bool true ∧ ∃ P', EB l e t g w.heap.size own n P' w' ∧ Kept P P' W w') ?_).mono ?_
    · refine (enStep hTl h3).mono ?_
      rintro r w' ⟨P', rfl, h4, h5⟩
      exact ⟨_, rfl, rfl, P', ⟨m, stE, h1, h2, h4⟩, h5⟩
    · rintro r w' ⟨v, rfl, rfl, P', h4, h5⟩
      exact ⟨P', rfl, h4, h5⟩
  · rintro P W ⟨m, stE, h1, h2, h3⟩
    refine (eStepW (fun v w' => v = .bool false ∧ ∃ P', EB l e t g w.heap.size own 0 P' w' ∧ Kept P P' W w') ?_).mono ?_
    · refine (enIdle h3).mono ?_
      rintro r w' ⟨P', rfl, h4, h5⟩
      exact ⟨_, rfl, rfl, P', ⟨m, stE, h1, h2, h4⟩, h5⟩
    · rintro r w' ⟨v, rfl, rfl, P', h4, h5⟩
      exact ⟨P', rfl, h4, h5⟩
  · rintro P W ⟨m, stE, h1, h2, h3⟩
    have hE : EndOK stE := by rw [← h2]; exact hend m h1
    have hV : EndV stE := by
      obtain ⟨own1, c1, V1, st1, hR1, _⟩ := h3.last
      exact hR1.endV
    refine (eFinishGo h3 hE).mono ?_
    rintro r w' ⟨P', q, rfl, hq1, hq2, hr, hk⟩
    exact ⟨P', q, rfl, hq1, hq2, ⟨hq2, m, stE, h1, h2, hE, hV, hr⟩, hk⟩
theorem eApplyNo (h : EIdle k l e own w g c) (hx : x.size = 174) (hT : TxC (Mu own) w (cf x) t) (hv : (st0 l e).verdict t ≠ 0) : Calls Hvah.prog 11 #[.pointer (some ⟨g, 0, none⟩), .agg x] w fun r w' => r = .returned (.agg (recV ((st0 l e).verdict t))) ∧ Ext w w' := by
  refine (eApplyRefused (P0 := EP own) ((st0 l e).verdict t) hv hx (fun b hb q => absurd (h.h.v.fresh b hb) q.1) (fun _ W => Ext w W) (fun P W W' B hr _ hB m => Ext.trans_mod hr m (fun q hq => by have hq2 : q = B := hq; rw [hq2]; exact hB)) (fun W eW => ?_)).mono ?_
  · refine (eBeginNo h hx hT hv eW).mono ?_
    rintro r w' ⟨rfl, e2⟩
    exact ⟨EP own, rfl, eW.trans e2, Kept.ext e2⟩
  · rintro r w' ⟨P', rfl, h1, _⟩
    exact ⟨rfl, h1⟩
end
end Go.Proofs.YgvahwGreat
