import Derived.Test.YgvahwGreatTw1
namespace Go.Proofs.YgvahwGreat
open Go.RowKit
set_option linter.unusedVariables false
theorem recV_zeros (k : Nat) : (List.range 20).map (fun j => cf (recV k) (5 + j)) = List.replicate 20 (.int .u8 0) := rfl
theorem recV_rec {O : Nat → Prop} {w : World} (k : Nat) : RecC O w (cf (recV k)) ⟨k, 0, 0, [], [], 0⟩ where
  verdict := rfl
  status := rfl
  used := rfl
  out := NL.nil.x
  logs := Or.inl ⟨rfl, _, rfl⟩
  made := aat_zeroW (fun j hj => range_get (recV_zeros k) hj)
  mLt := (by decide : (0 : Nat) < 2 ^ 160)
section
variable {w : World} {v : Value} {r x : Array Value} {l : List IAcct} {e : AEnv} {t : ATx} {tb tc : Nat}
theorem CB.ext {w0 : World} {g Y : Nat} {P : Nat → Prop} {W W' : World} (h : CB w0 l e g Y P W) (ex : Ext W W') : CB w0 l e g Y P W' := by
  obtain ⟨W0, own, c, cY, n1, h1, h2, h0, h3⟩ := h
  exact ⟨W0, own, c, cY, n1, h1, h2, h0, h3.trans ex⟩
theorem CB.fresh {w0 : World} {g Y : Nat} {P : Nat → Prop} {W : World} (h : CB w0 l e g Y P W) : ∀ b, W.heap.size ≤ b → ¬ P b := by
  obtain ⟨W0, own, c, cY, n1, h1, h2, h0, h3⟩ := h
  intro b hb q
  rcases (h2 b).1 q with k | k
  · exact k.1 (h1.h.v.fresh b (Nat.le_trans h3.size hb))
  · have := h1.yi.bY.lt; have := h3.size; omega
theorem CB.above {w0 : World} {g Y : Nat} {P : Nat → Prop} {W : World} (h : CB w0 l e g Y P W) : ∀ b, P b → w0.heap.size ≤ b := by
  obtain ⟨W0, own, c, cY, n1, h1, h2, h0, h3⟩ := h
  intro b q
  rcases (h2 b).1 q with k | k
  · exact Classical.byContradiction fun k2 => k.1 (h1.old b (by omega))
  · have := h1.yl; have := h1.nl; omega
def C3N (l : List IAcct) (Y : Nat) (v1 : Value) (w : World) : Prop :=
  ∃ (W : World) (O O2 : Nat → Prop) (cY : Nat → Value) (L1 : List YA) (st : ASt), YI O W Y cY (newW l) st (sumI l) ∧ EL 55 (IAcC O2 W) O2 W v1 (L1.map YA.out) ∧ ExpOf (newW l).abs L1 ∧ Ext W w
def C4N (v1 v2 : Value) (w : World) : Prop :=
  ∃ (W : World) (O2 O4 : Nat → Prop) (L1 : List YA), EL 55 (IAcC O2 W) O2 W v1 (L1.map YA.out) ∧ EL 55 (IAcC O4 W) O4 W v2 (L1.map YA.out) ∧ Ext W w
set_option maxHeartbeats 4000000 in
theorem towerNo (hin : EL 55 (IAcC (fun _ => False) w) (fun _ => False) w v l) (hl : worldOKI l = true) (hr : r.size = 120) (h : EnvI (fun _ => False) w (cf r) e) (hf : e.hashes.length ≤ 4) (hx : x.size = 174) (hT : TxC (fun _ => False) w (cf x) t) (hrow : RowIn w tb 0 x) (htb : tb < w.heap.size) (hv : (st0 l e).verdict t ≠ 0) : Calls Hvah.prog 4 #[v, .agg r, .slice (some ⟨tb, 0, none⟩) 1 tc] w fun r w' => r = .returned (.bool true) ∧ Mod (fun _ => False) w w' := by
  obtain ⟨vd, evd⟩ : ∃ z, (st0 l e).verdict t = z := ⟨_, rfl⟩
  have hall : ∀ y ∈ (newW l).accts, y.nonce < 18446744073709551616 ∧ y.bal < P256 ∧ y.slots.length ≤ 90000 ∧ ∀ s ∈ y.slots, s.1 < P256 ∧ s.2 < P256 := fun y hy => by
    obtain ⟨z, hz, rfl⟩ := List.mem_map.1 hy
    rcases hin with ⟨rfl, _⟩ | ⟨b, off, cap, cs, hv, hcap, hc2', hOb, hb, hcell, hrow⟩
    · exact absurd hz List.not_mem_nil
    obtain ⟨i, hi, rfl⟩ := List.getElem_of_mem hz
    have hri := hrow i hi
    have hok := ((worldOKI_iff l).1 hl).2.2.1 i hi
    unfold IAcct.ok at hok
    simp only [Bool.and_eq_true, decide_eq_true_iff] at hok
    refine ⟨hri.nLt, hri.bLt, Nat.le_trans hok.1.2.2 (by decide), fun s hs => ?_⟩
    have hs2 : s ∈ (l[i]).slots := hs
    rcases hri.slots with ⟨k, _⟩ | ⟨_, _, _, _, _, _, _, _, _, _, k⟩
    · rw [k] at hs2; exact absurd hs2 List.not_mem_nil
    · obtain ⟨j, hj, rfl⟩ := List.getElem_of_mem hs2
      exact ⟨(k j hj).kLt, (k j hj).vLt⟩
  refine lTower hr hx (tx_ones hx hT) hrow htb (CB w l e) (fun g Y P W W' q ex => q.ext ex) (fun g Y P W q => q.fresh) (fun g Y P W q => q.above) (fun g Y P q W => CB w l e g Y P W ∧ q = recV vd) (fun g Y P q W W' k ex => ⟨k.1.ext ex, k.2⟩) (fun g Y P q W k => k.1.fresh) (fun g Y P q q2 W => CB w l e g Y P W ∧ q = recV vd ∧ q2 = recV vd) (fun g Y P q q2 v1 W => C3N l Y v1 W ∧ q = recV vd ∧ q2 = recV vd) (fun g Y P q q2 v1 v2 W => C4N v1 v2 W ∧ q = recV vd ∧ q2 = recV vd) (fun W eW => bothGood hin hl hr h hf eW) ?_ ?_ ?_ ?_ ?_
  · rintro g Y P W hC
    have hC0 := hC
    obtain ⟨W0, own, c, cY, n1, h1, h2, h0, h3⟩ := hC
    have hI : EIdle w.heap.size l e own W g c := ⟨h1.h.ext h3, h1.old, h1.gl⟩
    refine (eApplyNo hI hx (hT.reoE (h0.trans h3) (fun b hb k => k (h1.old b hb))) hv).mono ?_
    rintro r2 w' ⟨rfl, ex⟩
    rw [evd]
    exact ⟨P, _, rfl, recV_size _, recV_ones _, ⟨hC0.ext ex, rfl⟩, Kept.ext ex⟩
  · rintro g Y P q W ⟨hC, rfl⟩
    have hC0 := hC
    obtain ⟨W0, own, c, cY, n1, h1, h2, h0, h3⟩ := hC
    refine (yApplyNo (O := fun b => b = Y) ((h1.yi.ext h3).reoE (Ext.refl _) (fun b _ q => Or.inl q) rfl (fun b hb => by have hb2 : b = Y := hb; rw [hb2]; exact (h1.yi.ext h3).bY.lt)) hx (hT.reoE (h0.trans h3) (fun b hb k => by have k2 : b = Y := k; have := h1.yl; have := h1.nl; omega)) (show (0 : Nat) < 4 by decide) hv).mono ?_
    rintro r2 w' ⟨rfl, ex⟩
    rw [evd]
    exact ⟨P, _, rfl, ⟨hC0.ext ex, rfl, rfl⟩, Kept.ext ex⟩
  · rintro g Y P q q2 W ⟨hC, rfl, rfl⟩
    obtain ⟨W0, own, c, cY, n1, h1, h2, h0, h3⟩ := hC
    have hV := (h1.h.ext h3).v
    have habs : (fillV l).abs = (newW l).abs := (fillV_ok hl).1.abs
    refine (eExportW (fun v1 w' => C3N l Y v1 w' ∧ Ext W w') ?_).mono ?_
    · refine (vExport (O := fun _ => False) (fun b hb => hb.elim) (⟨hV.blk, hV.accts, hV.slots, hV.nA, hV.nS⟩ : XR own W g c (fillV l).accts (fillV l).slots) (fun s hs => hV.wf.sA s hs)).mono ?_
      rintro r2 w' ⟨v1, A, S, rfl, hA, sA, hS, sS, hel, ex⟩
      have hexp := expE hV.wf hA sA hS sS
      rw [habs] at hexp
      exact ⟨v1, rfl, ⟨w', _, fun _ => False, cY, exE (fillV l).accts (fillV l).slots A S, st0 l e, (h1.yi.ext h3).ext ex, hel, hexp, Ext.refl _⟩, ex⟩
    · rintro r2 w' ⟨v1, rfl, k1, k2⟩
      exact ⟨v1, rfl, ⟨k1, rfl, rfl⟩, k2⟩
  · rintro g Y P q q2 v1 W ⟨⟨W0, O, O2, cY, L1, st, a1, a2, a3, a4⟩, rfl, rfl⟩
    have hy := a1.ext a4
    refine (yExport hy.small hy.bY hy.wc.accts hy.lim.accts hall).mono ?_
    rintro r2 w' ⟨v2, rfl, hel, ex⟩
    have el : ((newW l).accts.filter fun x => !x.empty) = L1 := (YW.shown_exp hy.wf).uniq a3
    have hel2 : EL 55 (IAcC O w') O w' v2 (L1.map YA.out) := by
      rw [← el]; exact hel
    exact ⟨v2, rfl, ⟨⟨w', O2, O, L1, a2.mono (a4.trans ex) (fun _ _ _ k => k.ext (a4.trans ex)), hel2, Ext.refl _⟩, rfl, rfl⟩, ex⟩
  · rintro g Y P q q2 v1 v2 W ⟨⟨W0, O2, O4, L1, a4, a5, a8⟩, rfl, rfl⟩
    exact lTowerHolds (O := fun _ => False) (O' := fun _ => False) (recV_size _) (recV_size _) (recV_rec vd) (recV_rec vd) (show (0 : Nat) < 13 by decide) ((a4.reoS (R' := IAcC (fun _ => False) W0) (fun _ _ q => q.elim) (fun _ _ _ k => k.reoS (fun _ _ q => q.elim))).mono a8 (fun _ _ _ k => k.ext a8)) ((a5.reoS (R' := IAcC (fun _ => False) W0) (fun _ _ q => q.elim) (fun _ _ _ k => k.reoS (fun _ _ q => q.elim))).mono a8 (fun _ _ _ k => k.ext a8))
end
end Go.Proofs.YgvahwGreat
