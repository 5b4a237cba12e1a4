import Derived.Test.YgvahwGreatTw0
import Derived.Test.YgvahwGreatVt1
import Derived.Test.YgvahwGreatNx2
import Derived.Test.YgvahwGreatIh
namespace Go.Proofs.YgvahwGreat
open Go.RowKit
set_option linter.unusedVariables false
section
variable {w : World} {v : Value} {r x : Array Value} {l : List IAcct} {e : AEnv} {t : ATx} {tb tc : Nat}
theorem CBc.ext {n0 g Y n1 : Nat} {W W' : World} {own : Nat → Nat} {c cY : Nat → Value} (h : CBc n0 l e g Y W own c cY n1) (ex : Ext W W') : MRep own W' g c (fillV l) (st0 l e) [] [] ∧ YI (OY (fun b => n0 ≤ b ∧ b < n1) Y) W' Y cY (newW l) (st0 l e) (sumI l) := ⟨h.h.ext ex, h.yi.ext ex⟩
/-- What the engine may write is none of what the specification points at. -/
theorem CBc.apart {n0 g Y n1 : Nat} {W W' : World} {own : Nat → Nat} {c cY : Nat → Value} (h : CBc n0 l e g Y W own c cY n1) (ex : Ext W W') : (∀ b, ¬ OY (fun b => n0 ≤ b ∧ b < n1) Y b → b < W'.heap.size → ¬ EP own b) ∧ ¬ EP own Y := by
  have hY9 : own Y = 9 := h.nine Y h.yl h.yi.bY.lt
  refine ⟨fun b hb hl q => ?_, fun q => q.2 hY9⟩
  have h1 : ¬ (n0 ≤ b ∧ b < n1) := fun k => hb (Or.inr k)
  rcases Nat.lt_or_ge b n0 with k | k
  · exact q.1 (h.old b k)
  · have k2 : n1 ≤ b := by omega
    rcases Nat.lt_or_ge b W.heap.size with k3 | k3
    · exact q.2 (h.nine b k2 k3)
    · exact q.1 (h.h.v.fresh b k3)
/-- Behind the engine's Apply. -/
def C1G (w0 : World) (l : List IAcct) (e : AEnv) (t : ATx) (g Y : Nat) (P : Nat → Prop) (q : Array Value) (w : World) : Prop :=
  ∃ W cY n0' o0 N Pe stE m, Runs ((st0 l e).begin_ t) m ∧ ASt.steps m ((st0 l e).begin_ t) = stE ∧ EndOK stE ∧ EndV stE ∧ ER g n0' o0 stE Pe q N W ∧ YI (fun b => b = Y) W Y cY (newW l) (st0 l e) (sumI l) ∧ cY 10 = .slice none 0 0 ∧ w0.heap.size ≤ Y ∧ Y < n0' ∧ o0 Y = 9 ∧ (∀ b, P b ↔ Pe b ∨ b = Y) ∧ q.size = 25 ∧ Ext w0 W ∧ Ext W w
/-- Behind the specification's. -/
def C2G (g Y : Nat) (P : Nat → Prop) (q q2 : Array Value) (w : World) : Prop :=
  ∃ W n0' o0 N Pe Py stE, EndOK stE ∧ ER g n0' o0 stE Pe q N W ∧ YR Y stE Py q2 W ∧ q.size = 25 ∧ q2.size = 25 ∧ Ext W w
def C3G (Y : Nat) (q q2 : Array Value) (v1 : Value) (w : World) : Prop :=
  ∃ (W : World) (Py : Nat → Prop) (stE : ASt) (O O2 : Nat → Prop) (L1 : List YA), EndOK stE ∧ RecC O W (cf q) stE.receipt ∧ EL 55 (IAcC O2 W) O2 W v1 (L1.map YA.out) ∧ ExpOf stE.paid.goes L1 ∧ YR Y stE Py q2 W ∧ q.size = 25 ∧ q2.size = 25 ∧ Ext W w
def C4G (q q2 : Array Value) (v1 v2 : Value) (w : World) : Prop :=
  ∃ (W : World) (stE : ASt) (O O2 O3 O4 : Nat → Prop) (L1 : List YA), EndOK stE ∧ RecC O W (cf q) stE.receipt ∧ RecC O3 W (cf q2) stE.receipt ∧ EL 55 (IAcC O2 W) O2 W v1 (L1.map YA.out) ∧ EL 55 (IAcC O4 W) O4 W v2 (L1.map YA.out) ∧ q.size = 25 ∧ q2.size = 25 ∧ Ext W w
theorem YR.ext {Y : Nat} {stE : ASt} {P : Nat → Prop} {q : Array Value} {w w' : World} (h : YR Y stE P q w) (ex : Ext w w') : YR Y stE P q w' := h.keep (ex.mod (fun _ => False)) (fun _ _ q => q) (fun q => q)
theorem ER.ext {g n0 N : Nat} {o0 : Nat → Nat} {stE : ASt} {P : Nat → Prop} {q : Array Value} {w w' : World} (h : ER g n0 o0 stE P q N w) (ex : Ext w w') : ER g n0 o0 stE P q N w' := by
  obtain ⟨own, c, V, hx⟩ := h
  exact ⟨own, c, V, hx.keep (ex.mod (fun _ => False)) (fun _ q => q.elim)⟩
set_option maxHeartbeats 4000000 in
theorem towerGo (hin : EL 55 (IAcC (fun _ => False) w) (fun _ => False) w v l) (hl : worldOKI l = true) (hr : r.size = 120) (h : EnvI (fun _ => False) w (cf r) e) (hf : e.hashes.length ≤ 4) (hx : x.size = 174) (hT : TxC (fun _ => False) w (cf x) t) (hrow : RowIn w tb 0 x) (htb : tb < w.heap.size) (hv : (st0 l e).verdict t = 0) : Calls Hvah.prog 4 #[v, .agg r, .slice (some ⟨tb, 0, none⟩) 1 tc] w fun r w' => r = .returned (.bool true) ∧ Mod (fun _ => False) w w' := by
  have hinx : ∀ y ∈ l, y.nonce < 18446744073709551616 ∧ y.bal < P256 := fun y hy => by
    rcases hin with ⟨rfl, _⟩ | ⟨b, off, cap, cs, hv, hcap, hc2', hOb, hb, hcell, hrow⟩
    · exact absurd hy List.not_mem_nil
    obtain ⟨i, hi, rfl⟩ := List.getElem_of_mem hy
    exact ⟨(hrow i hi).nLt, (hrow i hi).bLt⟩
  have hidle : WIdle (sumI l) (st0 l e).now := newW_idle hl hinx
  have hTl : sumI l < P256 := ((worldOKI_iff l).1 hl).2.2.2
  refine lTower hr hx (tx_ones hx hT) hrow htb (CB w l e) ?_ ?_ ?_ (C1G w l e t) ?_ ?_ (C2G) (fun g Y P q q2 v1 W => C3G Y q q2 v1 W) (fun g Y P q q2 v1 v2 W => C4G q q2 v1 v2 W) (fun W eW => bothGood hin hl hr h hf eW) ?_ ?_ ?_ ?_ ?_
  · rintro g Y P W W' ⟨W0, own, c, cY, n1, h1, h2, h0, h3⟩ e2
    exact ⟨W0, own, c, cY, n1, h1, h2, h0, h3.trans e2⟩
  · rintro g Y P W ⟨W0, own, c, cY, n1, h1, h2, h0, h3⟩ b hb q
    rcases (h2 b).1 q with k | k
    · exact k.1 (h1.h.v.fresh b (Nat.le_trans h3.size hb))
    · have := h1.yi.bY.lt; have := h3.size; omega
  · rintro g Y P W ⟨W0, own, c, cY, n1, h1, h2, h0, h3⟩ b q
    rcases (h2 b).1 q with k | k
    · rcases Nat.lt_or_ge b w.heap.size with k2 | k2
      · exact absurd (h1.old b k2) k.1
      · exact k2
    · have := h1.yl; have := h1.nl; omega
  · rintro g Y P q W W' ⟨W0, cY, n0', o0, N, Pe, stE, m, a1, a2, a3, a4, a5, a6, a7, a8, a9, a10, a11, a12, a0, a13⟩ e2
    exact ⟨W0, cY, n0', o0, N, Pe, stE, m, a1, a2, a3, a4, a5, a6, a7, a8, a9, a10, a11, a12, a0, a13.trans e2⟩
  · rintro g Y P q W ⟨W0, cY, n0', o0, N, Pe, stE, m, a1, a2, a3, a4, ⟨own, c, V, a5⟩, a6, a7, a8, a9, a10, a11, a12, a0, a13⟩ b hb k
    rcases (a11 b).1 k with k | k
    · have := a5.lt b k; have := a13.size; omega
    · have := a6.bY.lt; have := a13.size; omega
  · rintro g Y P W ⟨W0, own, c, cY, n1, h1, h2, h0, h3⟩
    obtain ⟨k1, k2⟩ := h1.ext h3
    obtain ⟨p1, p2⟩ := h1.apart h3
    have hI : EIdle w.heap.size l e own W g c := ⟨k1, h1.old, h1.gl⟩
    have hwW : w.heap.size ≤ W.heap.size := by have := h1.nl; have := h1.yl; have := h1.yi.bY.lt; have := h3.size; omega
    have hewW : ∀ b, b < w.heap.size → own b = 0 := h1.old
    have hTW : TxC (Mu own) W (cf x) t := by
      exact hT.reoE (h0.trans h3) (fun b hb k => k (h1.old b hb))
    refine (eApplyGo hI hl hinx hx hTW hv).mono ?_
    rintro r2 w' ⟨P', q, N, rfl, hq, ⟨ho, m, stE, b1, b2, b3, b4, b5⟩, hk⟩
    have hyi : YI (OY (fun b => w.heap.size ≤ b ∧ b < n1) Y) w' Y cY (newW l) (st0 l e) (sumI l) := k2.keepE hk.mod p1 p2
    have hyi2 : YI (fun b => b = Y) w' Y cY (newW l) (st0 l e) (sumI l) := hyi.reoE (Ext.refl _) (fun b _ q => Or.inl q) rfl (fun b hb => by have hb2 : b = Y := hb; rw [hb2]; exact hyi.bY.lt)
    refine ⟨fun b => P' b ∨ b = Y, q, rfl, hq, ho, ⟨w', cY, W.heap.size, own, N, P', stE, m, b1, b2, b3, b4, b5, hyi2, h1.y10, Nat.le_trans h1.nl h1.yl, k2.bY.lt, h1.nine Y h1.yl h1.yi.bY.lt, fun b => Iff.rfl, hq, Ext.trans_mod (h0.trans h3) hk.mod (fun b k => Classical.byContradiction fun k2 => k.1 (h1.old b (by omega))), Ext.refl _⟩, ⟨fun b hb => ?_, hk.mod.sub (fun b q => (h2 b).2 (Or.inl q))⟩⟩
    rw [h2 b]
    have := hk.keep b hb
    constructor
    · rintro (q | q)
      · exact Or.inl (this.1 q)
      · exact Or.inr q
    · rintro (q | q)
      · exact Or.inl (this.2 q)
      · exact Or.inr q
  · rintro g Y P q W ⟨W0, cY, n0', o0, N, Pe, stE, m, a1, a2, a3, a4, a5, a6, a7, a8, a9, a10, a11, a12, a0, a13⟩
    have hTW : TxC (fun b => b = Y) W (cf x) t := by
      exact hT.reoE (a0.trans a13) (fun b hb k => by have k2 : b = Y := k; omega)
    refine (yApplyGo (a6.ext a13) a7 hx hTW hv hidle hTl (newW_siz hl) a1 a2 a3 a4).mono ?_
    rintro r2 w' ⟨P', q2, rfl, hq2, hy, hk⟩
    obtain ⟨own, c, V, hX⟩ := a5.ext a13
    have hX2 := hX.keep hk.mod (fun b q => by have q2 : b = Y := q; rw [q2, hX.old Y a9]; exact a10)
    refine ⟨fun b => Pe b ∨ P' b, q2, rfl, ⟨w', n0', o0, N, Pe, P', stE, a3, ⟨own, c, V, hX2⟩, hy, a12, hq2, Ext.refl _⟩, ⟨fun b hb => ?_, hk.mod.sub (fun b q => (a11 b).2 (Or.inr q))⟩⟩
    rw [a11 b]
    have := hk.keep b hb
    constructor
    · rintro (q | q)
      · exact Or.inl q
      · exact Or.inr (this.1 q)
    · rintro (q | q)
      · exact Or.inl q
      · exact Or.inr (this.2 q)
  · rintro g Y P q q2 W ⟨W0, n0', o0, N, Pe, Py, stE, a1, a2, a3, a4, a5, a6⟩
    obtain ⟨own, c, V, hX⟩ := a2.ext a6
    have hy := a3.ext a6
    have hw2 := restV_wf hX.wf
    refine (eExportW (fun v1 w' => C3G Y q q2 v1 w' ∧ Ext W w') ?_).mono ?_
    · refine (vExport (O := fun _ => False) (fun b hb => hb.elim) hX.x (fun s hs => hw2.sA s hs)).mono ?_
      rintro r2 w' ⟨v1, A, S, rfl, hA, sA, hS, sS, hel, ex⟩
      have hexp : ExpOf stE.paid.goes (exE (restV V).accts (restV V).slots A S) := by
        have q1 := expE hw2 hA sA hS sS
        have q3 := restV_same hX.wf
        rw [hX.abs] at q3
        exact q1.same ⟨q3.nonce.symm, q3.bal.symm, q3.code.symm, q3.slot.symm⟩
      exact ⟨v1, rfl, ⟨w', Py, stE, Mu own, fun _ => False, exE (restV V).accts (restV V).slots A S, a1, hX.rc.ext ex, hel, hexp, hy.ext ex, a4, a5, Ext.refl _⟩, ex⟩
    · rintro r2 w' ⟨v1, rfl, h1, h2⟩
      exact ⟨v1, rfl, h1, h2⟩
  · rintro g Y P q q2 v1 W ⟨W0, Py, stE, O, O2, L1, a1, a2, a3, a4, a5, a6, a7, a8⟩
    obtain ⟨ho, c, L, hB, hacc, hrec, hsm, hPY, hll, hall, hexp⟩ := a5.ext a8
    refine (yExport hsm hB hacc hll hall).mono ?_
    rintro r2 w' ⟨v2, rfl, hel, ex⟩
    have el : (L.filter fun x => !x.empty) = L1 := hexp.uniq a4
    have hel2 : EL 55 (IAcC Py w') Py w' v2 (L1.map YA.out) := by
      rw [← el]; exact hel
    exact ⟨v2, rfl, ⟨w', stE, O, O2, Py, Py, L1, a1, (a2.ext a8).ext ex, hrec.ext ex, a3.mono (a8.trans ex) (fun _ _ _ k => k.ext (a8.trans ex)), hel2, a6, a7, Ext.refl _⟩, ex⟩
  · rintro g Y P q q2 v1 v2 W ⟨W0, stE, O, O2, O3, O4, L1, a1, a2, a3, a4, a5, a6, a7, a8⟩
    exact lTowerHolds (O := fun _ => False) (O' := fun _ => False) a6 a7 ((a2.reoW (fun _ _ q => q.elim)).ext a8) ((a3.reoW (fun _ _ q => q.elim)).ext a8) a1.status ((a4.reoS (R' := IAcC (fun _ => False) W0) (fun _ _ q => q.elim) (fun _ _ _ k => k.reoS (fun _ _ q => q.elim))).mono a8 (fun _ _ _ k => k.ext a8)) ((a5.reoS (R' := IAcC (fun _ => False) W0) (fun _ _ q => q.elim) (fun _ _ _ k => k.reoS (fun _ _ q => q.elim))).mono a8 (fun _ _ _ k => k.ext a8))
end
end Go.Proofs.YgvahwGreat
