import Derived.Test.YgvahwGreatYpG
namespace Go.Proofs.YgvahwGreat
open Go.RowKit
theorem ac_cells {W : World} {B q x : Nat} {u1 u2 u3 u4 : Value} (hx : x < 2 ^ 160) (h : RowIn W B q (acR x u1 u2 u3 u4)) : W.cell? ⟨B, q + 20, none⟩ = some u1 ∧ W.cell? ⟨B, q + 21, none⟩ = some u2 ∧ W.cell? ⟨B, q + 22, none⟩ = some u3 ∧ W.cell? ⟨B, q + 23, none⟩ = some u4 := by
  obtain ⟨_, h2⟩ := h.app
  rw [av_size hx] at h2
  exact ⟨h2 0 u1 rfl, h2 1 u2 rfl, h2 2 u3 rfl, h2 3 u4 rfl⟩
section
variable {O : Nat → Prop} {w : World} {B q : Nat} {x : YA} {u1 u2 u3 u4 : Value}
set_option maxRecDepth 100000 in
set_option maxHeartbeats 1600000 in
theorem yEmpty (hr : RowIn w B q (acR x.addr u1 u2 u3 u4)) (hp : AcP O w x u1 u2 u3 u4) :
    Calls Hvah.prog 33 #[.pointer (some ⟨B, q, none⟩)] w fun e w' => e = .returned (.bool x.empty) ∧ Ext w w' := by
  obtain ⟨c1, c2, c3, _⟩ := ac_cells hp.aLt hr
  have hBl := cell_lt c1
  obtain ⟨o3, cap3, hu3, hlc, hcm, _⟩ := hp.code
  rw [hu3] at c3
  have HC : ∀ W, Ext w W → W.cell? ⟨B, q + 21, none⟩ = some u2 ∧ W.cell? ⟨B, q + 22, none⟩ = some (.slice o3 x.code.length cap3) := fun W hW => ⟨(hW.rc _ _ hBl).trans c2, (hW.rc _ _ hBl).trans c3⟩
  have HN := fun W (hW : Ext w W) => nIsZero O u1 x.nonce W (hp.nonce.ext hW)
  have HBl := fun W (hW : Ext w W) => nIsZero O u2 x.bal W (hp.bal.ext hW)
  have hE := Ext.refl w
  have e0 : x.empty = (decide (x.nonce = 0) && decide (x.bal = 0) && decide (x.code.length = 0)) := by
    unfold YA.empty
    rw [Bool.eq_iff_iff]
    simp [and_assoc]
  rw [e0]
  clear e0
  by_cases hn : x.nonce = 0
  · rw [decide_eq_true hn] at HN ⊢
    by_cases hb : x.bal = 0
    · rw [decide_eq_true hb] at HBl ⊢
      clear hn hb
      generalize x.code.length = cl at *
      go_enter Hvah.func33, Hvah.ntmps33
      go_wp2_with (first | (go_at_call_of 88 u1; refine (HN _ hE).mono ?_; rintro e w1 ⟨rfl, hd⟩; have he := drew_ext hd; clear hd; replace hE := hE.trans he; have hq := HC _ hE; have hq1 := hq.1; have hq2 := hq.2; clear hq) | (go_at_call_of 88 u2; refine (HBl _ hE).mono ?_; rintro e w2 ⟨rfl, hd⟩; have he2 := drew_ext hd; clear hd; replace hE := hE.trans he2; have hz := HC _ hE; have hz1 := hz.1; have hz2 := hz.2; clear hz))
      go_ret
      refine ⟨?_, hE⟩
      by_cases hc : cl = 0
      · subst hc; rfl
      · simp [hc]
    · rw [decide_eq_false hb] at HBl ⊢
      clear hn hb
      go_enter Hvah.func33, Hvah.ntmps33
      go_wp2_with (first | (go_at_call_of 88 u1; refine (HN _ hE).mono ?_; rintro e w1 ⟨rfl, hd⟩; have he := drew_ext hd; clear hd; replace hE := hE.trans he; have hq := HC _ hE; have hq1 := hq.1; clear hq) | (go_at_call_of 88 u2; refine (HBl _ hE).mono ?_; rintro e w2 ⟨rfl, hd⟩; have he2 := drew_ext hd; clear hd; replace hE := hE.trans he2))
      go_ret
      exact ⟨by simp, hE⟩
  · rw [decide_eq_false hn] at HN ⊢
    clear hn
    go_enter Hvah.func33, Hvah.ntmps33
    go_wp2_with (first | (go_at_call_of 88 u1; refine (HN _ hE).mono ?_; rintro e w1 ⟨rfl, hd⟩; have he := drew_ext hd; clear hd; replace hE := hE.trans he))
    go_ret
    exact ⟨by simp, hE⟩
end
end Go.Proofs.YgvahwGreat
