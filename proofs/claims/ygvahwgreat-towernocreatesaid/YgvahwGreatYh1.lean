import Derived.Test.YgvahwGreatYh0
import Derived.Test.YgvahwGreatAp2
import Derived.Test.YgvahwGreatZs0
import Derived.Test.YgvahwGreatYb7
import Derived.Test.YgvahwGreatYf2
import Derived.Test.YgvahwGreatPp
import Derived.Test.YgvahwGreatPt
import Derived.Test.YgvahwGreatKm
import Derived.Test.YgvahwGreatBg4
import Derived.Test.YgvahwGreatNz0
namespace Go.Proofs.YgvahwGreat
open Go.RowKit
set_option linter.unusedVariables false
theorem newW_siz {l : List IAcct} (h : worldOKI l = true) : (newW l).siz ≤ 136 := by
  obtain ⟨h8, hr, hok, _⟩ := (worldOKI_iff l).1 h
  have key : ∀ m : List IAcct, (∀ x ∈ m, x.slots.length ≤ 16) → wts (m.map IAcct.ya) ≤ 17 * m.length := fun m => by
    induction m with
    | nil => intro _; exact Nat.le_refl _
    | cons x m ih =>
      intro hm
      have h1 := ih (fun y hy => hm y (by simp [hy]))
      have h2 := hm x (by simp)
      rw [List.map_cons, wts_cons, List.length_cons]
      have h3 : x.ya.wt = 1 + x.slots.length := rfl
      omega
  have hs : ∀ x ∈ l, x.slots.length ≤ 16 := fun x hx => by
    obtain ⟨i, hi, e⟩ := List.getElem_of_mem hx
    have ho := hok i hi
    rw [e] at ho
    unfold IAcct.ok at ho
    simp only [Bool.and_eq_true, decide_eq_true_iff] at ho
    exact ho.1.2.2
  have := key l hs
  show wts (l.map IAcct.ya) + 0 + 0 + 0 + 0 + 0 + 0 ≤ 136
  omega
section
variable {O : Nat → Prop} {w : World} {Y tot : Nat} {c : Nat → Value} {l : List IAcct} {e : AEnv} {t : ATx} {x : Array Value} {st : ASt}
/-- The specification runs a transaction, so many steps before its end stE. -/
def ZN (K T B Y : Nat) (start : List (Nat × Nat × Nat)) (tot : Nat) (stE : ASt) (n : Nat) (P : Nat → Prop) (w : World) : Prop :=
  ∃ st, ZJ K T B Y start tot st P w ∧ Runs st n ∧ ASt.steps n st = stE
theorem yBeginGo {T n : Nat} {W0 : YW} (h : YI O w Y c W0 st tot) (h10 : c 10 = .slice none 0 0) (hx : x.size = 174) (hT : TxC O w (cf x) t) (hv : st.verdict t = 0) (hi : WIdle T st.now) (hTl : T < P256) (hsz : W0.siz ≤ 136) (hr : Runs (st.begin_ t) n) : Calls Hvah.prog 29 #[.pointer (some ⟨Y, 0, none⟩), .agg x] w fun r w' => ∃ P', r = .returned (.int .u8 0) ∧ ZN 1100000 T (t.gas - t.intrinsic) Y (startL W0.accts) tot (ASt.steps n (st.begin_ t)) n P' w' ∧ Kept O P' w w' := by
  refine (yBegin (fun a b c => yLogsOf a b c) (fun a b c d => yCreateAddr a b c d) h h10 hx hT hv hi hTl (by omega)).mono ?_
  rintro r w' ⟨rfl, O', TL', F', n', c', d', W', L', hz, hs1, hs2, hO, hm⟩
  have hvk := verdict_zero hv
  obtain ⟨hA, hP, hin⟩ := begin_inv hi hvk hT.fLt hT.tLt hT.vLt
  have hg : gsum (st.begin_ t).frames ≤ 1048576 := by have := hA.gas; have := hA.hB; omega
  refine ⟨O', rfl, ⟨st.begin_ t, ⟨TL', F', n', c', d', W', L', hz, ⟨by omega, fun y hy => by have := hs2 y hy; omega⟩, hA, hin, hP⟩, hr, rfl⟩, ⟨hO, hm⟩⟩
theorem zStep {K T B n : Nat} {start : List (Nat × Nat × Nat)} {stE : ASt} {P : Nat → Prop} (hT : T < P256) (hK : K ≤ 4400000) (h : ZN K T B Y start tot stE (n + 1) P w) : Calls Hvah.prog 30 #[.pointer (some ⟨Y, 0, none⟩)] w fun r w' => ∃ P', r = .returned (.bool true) ∧ ZN K T B Y start tot stE n P' w' ∧ Kept P P' w w' := by
  obtain ⟨st, hJ, hr, he⟩ := h
  refine (zjStep (fun a b c => yLogsOf a b c) (fun a b c d => yCreateAddr a b c d) (fun a b c d e => yCreate2 a b c d.x e) kSum hT hK hJ (hr.more 0 (by omega)) (hr.ok 1 (by omega))).mono ?_
  rintro r w' ⟨P', rfl, h', k'⟩
  exact ⟨P', rfl, ⟨st.step, h', hr.tail, he⟩, k'⟩
theorem zIdle {K T B : Nat} {start : List (Nat × Nat × Nat)} {stE : ASt} {P : Nat → Prop} (h : ZN K T B Y start tot stE 0 P w) : Calls Hvah.prog 30 #[.pointer (some ⟨Y, 0, none⟩)] w fun r w' => ∃ P', r = .returned (.bool false) ∧ ZN K T B Y start tot stE 0 P' w' ∧ Kept P P' w w' := by
  have h0 := h
  obtain ⟨st, hJ, hr, he⟩ := h
  refine (zjIdle hJ hr.last).mono ?_
  rintro r w' ⟨rfl, rfl⟩
  exact ⟨P, rfl, h0, Kept.ext (Ext.refl _)⟩
end
end Go.Proofs.YgvahwGreat
