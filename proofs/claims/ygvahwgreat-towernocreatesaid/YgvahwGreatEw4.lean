import Derived.Test.YgvahwGreatEw3
import Derived.Test.YgvahwGreatOpn8
import Derived.Test.YgvahwGreatT9
import Derived.Test.YgvahwGreatLf
namespace Go.Proofs.YgvahwGreat
open Go.RowKit
set_option linter.unusedVariables false
set_option maxRecDepth 20000
section
variable {own : Nat → Nat} {w w' : World} {g k : Nat} {c : Nat → Value} {l : List IAcct} {e : AEnv} {t : ATx} {x : Array Value}
/-- A machine that stands, with what others made meanwhile marked. -/
theorem MRep.marked {V : EV} {st : ASt} {sn stale : List Nat} {n0 : Nat} {o0 : Nat → Nat} {P : Nat → Prop} (h : MRep own w g c V st sn stale) (hp : PW n0 o0 own P w) (ex : Ext w w') : ∃ own9, MRep own9 w' g c V st sn stale ∧ PW n0 o0 own9 P w' ∧ (∀ b, b < w.heap.size → own9 b = own b) ∧ (∀ b, ¬ (w.heap.size ≤ b ∧ b < w'.heap.size) → own9 b = own b) := by
  obtain ⟨own9, h1, h2, h3⟩ := h.tag9 (P := fun b => w.heap.size ≤ b ∧ b < w'.heap.size) ex (fun b hb => hb)
  exact ⟨own9, h3, hp.tag ex h1 h2, fun b hb => h2 b (by omega), h2⟩
theorem TxC.marked {own9 : Nat → Nat} (hT : TxC (Mu own) w (cf x) t) (ex : Ext w w') (ho : ∀ b, b < w.heap.size → own9 b = own b) : TxC (Mu own9) w' (cf x) t :=
  TxC.vstep (c := fun _ => undef) (c' := fun _ => undef) ⟨ho, fun _ _ => rfl, ex.mod _⟩ hT
/-- The engine runs a transaction; its end is told. -/
def EB (l : List IAcct) (e : AEnv) (t : ATx) (g n0 : Nat) (o0 : Nat → Nat) (n : Nat) (P : Nat → Prop) (w : World) : Prop :=
  ∃ m stE, Runs ((st0 l e).begin_ t) m ∧ ASt.steps m ((st0 l e).begin_ t) = stE ∧ EN (sumI l) 100 192 (t.gas - t.intrinsic) g n0 o0 stE n P w
theorem EIdle.pw (h : EIdle k l e own w g c) : PW w.heap.size own own (EP own) w :=
  ⟨fun _ q => q, fun b h1 h2 _ => by omega, fun b hb => by
    rcases Nat.lt_or_ge b w.heap.size with q | q
    · exact q
    · exact absurd (h.h.v.fresh b q) hb.1, Nat.le_refl _, fun _ _ => rfl⟩
theorem begin_einv {V V' : EV} {st' : ASt} {B N K : Nat} (hB : B ≤ 1027576) (hN : N ≤ 80) (hK : K ≤ 64) (ha : V.accts.length ≤ 8) (hs : V.slots.length ≤ 128) (hb : V.Bare) (q : V.Grew V' (12 + N) (12 + N) K 0 0 1) (hg : gsum st'.frames ≤ B) : EInv 100 192 B V' st' := by
  have h1 := q.j
  have h2 := q.a
  have h3 := q.s
  have h4 := q.t
  have h5 := q.l
  have h6 := q.m
  rw [hb.journal] at h1
  rw [hb.temps] at h4
  rw [hb.logs] at h5
  rw [hb.marks] at h6
  simp only [List.length_nil] at h1 h4 h5 h6
  exact ⟨by omega, by omega, by omega, by omega, by omega, by omega, hB, by decide, by decide⟩
theorem intr_ge (t : ATx) : 21000 ≤ t.intrinsic := by unfold ATx.intrinsic; omega
theorem eBeginGo (h : EIdle k l e own w g c) (hl : worldOKI l = true) (hxl : ∀ y ∈ l, y.nonce < 18446744073709551616 ∧ y.bal < P256) (hx : x.size = 174) (hT : TxC (Mu own) w (cf x) t) (hv : (st0 l e).verdict t = 0) {W : World} (eW : Ext w W) : Calls Hvah.prog 24 #[.pointer (some ⟨g, 0, none⟩), .agg x] W fun r w' => ∃ P', r = .returned (.int .u8 0) ∧ (∃ n, EB l e t g w.heap.size own n P' w') ∧ Kept (EP own) P' W w' := by
  obtain ⟨own9, h9, p9, o9, o9'⟩ := h.h.marked h.pw eW
  have hT9 : TxC (Mu own9) W (cf x) t := TxC.marked hT eW o9
  obtain ⟨hok, ha8, hs128⟩ := fillV_ok hl
  have hbare := hok.bare
  have hvk := verdict_zero hv
  have hlist : t.access.length ≤ 16 ∧ keysN t.access ≤ 64 := by have := hvk.list; unfold ATx.listOK at this; simpa using this
  have hidle : WIdle (sumI l) (st0 l e).now := newW_idle hl hxl
  have hTl : sumI l < P256 := ((worldOKI_iff l).1 hl).2.2.2
  have hroom : Room (fillV l) (12 + (t.access.length + keysN t.access)) := by
    have e1 : (fillV l).journal.length = 0 := by rw [hbare.journal]; rfl
    have e2 : (fillV l).temps.length = 0 := by rw [hbare.temps]; rfl
    have e3 : (fillV l).logs.length = 0 := by rw [hbare.logs]; rfl
    have e4 : (fillV l).marks.length = 0 := by rw [hbare.marks]; rfl
    exact ⟨by omega, by omega, by omega, by omega, by omega, by omega⟩
  have hor : ∀ a k, ((fillV l).sl a k).orig = (st0 l e).now.slot a k := hok.orig
  have hj0 : (fillV l).journal.length ≤ 65445 := by rw [hbare.journal]; exact Nat.zero_le _
  have hm0 : (fillV l).marks.length < 16384 := by rw [hbare.marks]; exact (by decide : (0 : Nat) < 16384)
  refine (eBeginW hx (fun v w' => v = .int .u8 0 ∧ ∃ P', (∃ n, EB l e t g w.heap.size own n P' w') ∧ Kept (EP own) P' W w') (fun W2 hW2 => ?_)).mono ?_
  · refine (eOpen (h9.ext hW2) rfl hx (hT9.ext hW2) rfl (show (0 : Nat) < 4 by decide) hv hidle hTl hor (by omega) (by omega) hj0 hm0 hroom).mono ?_
    rintro r w' ⟨rfl, own', c', V', sn', hR, hS, hG⟩
    have hS2 : MStep own9 W own' w' := (MStep.ext hW2).trans hS
    obtain ⟨p1, p2⟩ := p9.step hS2 hR.v.fresh
    have hin := begin_inv hidle hvk hT.fLt hT.tLt hT.vLt
    have hgs : gsum ((st0 l e).begin_ t).frames ≤ t.gas - t.intrinsic := by have := hin.1.gas; omega
    have hJ : EJ (sumI l) 100 192 (t.gas - t.intrinsic) g ((st0 l e).begin_ t) own' w' := ⟨c', V', sn', [], hR, hin.1, begin_einv (by have := hvk.gas; have := intr_ge t; omega) (by omega) hlist.2 ha8 hs128 hbare hG hgs, hin.2.1⟩
    obtain ⟨n, hn⟩ := EJ.runs hTl _ (Nat.le_refl _) hJ
    refine ⟨_, rfl, rfl, _, ⟨n, n, _, hn, rfl, (st0 l e).begin_ t, own', hJ, hn, rfl, p1⟩, ?_⟩
    refine ⟨fun b hb => (p2.keep b hb).trans Iff.rfl, p2.mod⟩
  · rintro r w' ⟨v, rfl, rfl, P', h1, h2⟩
    exact ⟨P', rfl, h1, h2⟩
theorem eBeginNo (h : EIdle k l e own w g c) (hx : x.size = 174) (hT : TxC (Mu own) w (cf x) t) (hv : (st0 l e).verdict t ≠ 0) {W : World} (eW : Ext w W) : Calls Hvah.prog 24 #[.pointer (some ⟨g, 0, none⟩), .agg x] W fun r w' => r = .returned (.int .u8 ((st0 l e).verdict t : Nat)) ∧ Ext W w' := by
  refine (eBeginW hx (fun v w' => v = .int .u8 ((st0 l e).verdict t : Nat) ∧ Ext W w') (fun W2 hW2 => ?_)).mono ?_
  · refine (eOpenNo (h.h.ext (eW.trans hW2)) hx (hT.ext (eW.trans hW2)) rfl (show (0 : Nat) < 4 by decide) hv).mono ?_
    rintro r w' ⟨rfl, e2⟩
    exact ⟨_, rfl, rfl, hW2.trans e2⟩
  · rintro r w' ⟨v, rfl, rfl, h1⟩
    exact ⟨rfl, h1⟩
end
end Go.Proofs.YgvahwGreat
