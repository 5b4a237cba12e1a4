import Derived.Test.YgvahwGreatYh2
namespace Go.Proofs.YgvahwGreat
open Go.RowKit
set_option linter.unusedVariables false
section
variable {O P : Nat → Prop} {w w' : World} {Y tot : Nat} {c : Nat → Value} {t : ATx} {x q : Array Value} {st stE : ASt}
theorem YR.keep {S : Nat → Prop} (h : YR Y stE P q w) (m : Mod S w w') (hs : ∀ b, ¬ P b → ¬ S b) (hY : ¬ S Y) : YR Y stE P q w' := by
  obtain ⟨ho, c, L, hB, hacc, hrec, hsm, hPY, hl, hall, hexp⟩ := h
  exact ⟨ho, c, L, hB.mod m hY, GRow.mono hacc (fun _ _ _ k => k.keepn m hs) (fun b _ q => q) (fun b n t c k q => k.mod m (hs b q)), hrec.keepW m hs, hsm.mod m, hPY, hl, hall, hexp⟩
theorem yApplyGo {T n : Nat} {W0 : YW} (h : YI O w Y c W0 st tot) (h10 : c 10 = .slice none 0 0) (hx : x.size = 174) (hT : TxC O w (cf x) t) (hv : st.verdict t = 0) (hi : WIdle T st.now) (hTl : T < P256) (hsz : W0.siz ≤ 136) (hr : Runs (st.begin_ t) n) (he : ASt.steps n (st.begin_ t) = stE) (hE : EndOK stE) (hV : EndV stE) : Calls Hvah.prog 13 #[.pointer (some ⟨Y, 0, none⟩), .agg x] w fun r w' => ∃ P' q, r = .returned (.agg q) ∧ q.size = 25 ∧ YR Y stE P' q w' ∧ Kept O P' w w' := by
  have hYl := h.bY.lt
  refine yApplyDone2 (P0 := O) hx (fun b hb q => by have := h.small b q; omega) (ZN 1100000 T (t.gas - t.intrinsic) Y (startL W0.accts) tot stE) (ZN 1100000 T (t.gas - t.intrinsic) Y (startL W0.accts) tot stE 0) (YR Y stE) ?_ ?_ (fun n P W hJ => zStep hTl (by decide) hJ) (fun P W hJ => zIdle hJ) (fun P W hJ => ?_)
  · intro P q W W' B hR hPB hB m
    exact hR.keep m (fun b hb e => hb (by have e2 : b = B := e; rw [e2]; exact hPB)) (fun e => by have e2 : Y = B := e; omega)
  · intro W eW
    have hI : YI (fun b => O b ∨ (w.heap.size ≤ b ∧ b < W.heap.size)) W Y c W0 st tot := h.reoE eW (fun b hb q => q.elim id (fun q => by omega)) (Or.inl h.oY) (fun b hb => hb.elim (fun q => Nat.lt_of_lt_of_le (h.small b q) eW.size) (fun q => q.2))
    have hT2 : TxC (fun b => O b ∨ (w.heap.size ≤ b ∧ b < W.heap.size)) W (cf x) t := hT.reoE eW (fun b hb q => q.elim id (fun q => by omega))
    refine (yBeginGo hI h10 hx hT2 hv hi hTl hsz hr).mono ?_
    rintro r w' ⟨P', rfl, h1, h2⟩
    rw [he] at h1
    exact ⟨P', rfl, ⟨n, h1⟩, h2⟩
  · exact yFinishGo (by decide) hJ hE hV
theorem yApplyNo {W0 : YW} (h : YI O w Y c W0 st tot) (hx : x.size = 174) (hT : TxC O w (cf x) t) (hap : st.applied < 4) (hv : st.verdict t ≠ 0) : Calls Hvah.prog 13 #[.pointer (some ⟨Y, 0, none⟩), .agg x] w fun r w' => r = .returned (.agg (recV (st.verdict t))) ∧ Ext w w' := by
  refine (yApplyRefused (P0 := O) (st.verdict t) hv hx (fun b hb q => by have := h.small b q; omega) (fun _ W => Ext w W) (fun P W W' B hr _ hB m => Ext.trans_mod hr m (fun q hq => by have hq2 : q = B := hq; rw [hq2]; exact hB)) (fun W eW => ?_)).mono ?_
  · refine (yBeginNo (h.ext eW) hx (hT.ext eW) hap hv).mono ?_
    rintro r w' ⟨rfl, e2⟩
    exact ⟨O, rfl, eW.trans e2, Kept.ext e2⟩
  · rintro r w' ⟨P', rfl, h1, _⟩
    exact ⟨rfl, h1⟩
end
end Go.Proofs.YgvahwGreat
