import Derived.Test.YgvahwGreatVaultE
namespace Go.Proofs.YgvahwGreat
open Go.RowKit
attribute [local go_sem] wv_fold

section
variable {own : Nat → Nat} {w : World} {g : Nat} {c : Nat → Value} {V : EV} {a : Nat}
theorem vFind_some (h : VRep own w g c V) (ha : a < 2 ^ 160) {j : Nat} (hj : V.ix a = some j) (W : World) (hW : Ext w W) :
    Calls Hvah.prog 168 #[.pointer (some ⟨g, 2435, none⟩), .agg (av a)] W fun e w' => e = .returned (.tuple #[.int .i32 j, .int .i32 (-1)]) ∧ Ext W w' := by
  obtain ⟨t, _, _, H⟩ := vFind h a ha
  refine (H W hW).mono ?_
  rintro e w' ⟨i, f, rfl, hf, he⟩
  rcases hf with ⟨k, hk, rfl, rfl⟩ | ⟨hk, _⟩
  · rw [show ixG EAcct.addr a V.accts = V.ix a from rfl, hj] at hk
    cases hk
    exact ⟨rfl, he⟩
  · rw [show ixG EAcct.addr a V.accts = V.ix a from rfl, hj] at hk; cases hk
theorem vFind_none (h : VRep own w g c V) (ha : a < 2 ^ 160) (hj : V.ix a = none) : ∃ t : Nat → Int, ∃ d : Nat, (∀ p, p < 4096 → c (2437 + p) = .int .i32 (t p)) ∧ TOK 4096 V.accts.length (fun i => acctH (V.accts.getD i (EAcct.new 0)).addr) t ∧
    d < 4096 ∧ t ((acctH a + d) % 4096) = -1 ∧ (∀ e, e < d → 0 ≤ t ((acctH a + e) % 4096)) ∧
    ∀ W, Ext w W → Calls Hvah.prog 168 #[.pointer (some ⟨g, 2435, none⟩), .agg (av a)] W fun e w' => e = .returned (.tuple #[.int .i32 (-1), .int .i32 ((acctH a + d) % 4096 : Nat)]) ∧ Ext W w' := by
  obtain ⟨t, h1, h2, H⟩ := vFind h a ha
  obtain ⟨d, hd⟩ : ∃ d, d < 4096 ∧ t ((acctH a + d) % 4096) = -1 ∧ ∀ e, e < d → 0 ≤ t ((acctH a + e) % 4096) := by
    have hfree := h2.free (Nat.lt_of_le_of_lt h.nA (by decide)) (acctH a)
    obtain ⟨d0, p1, p2⟩ := hfree
    have : ∀ n, (∃ d, d < n ∧ d < 4096 ∧ t ((acctH a + d) % 4096) = -1) → ∃ d, d < 4096 ∧ t ((acctH a + d) % 4096) = -1 ∧ ∀ e, e < d → 0 ≤ t ((acctH a + e) % 4096) := fun n => by
      induction n with
      | zero => rintro ⟨d, hd, _⟩; omega
      | succ n ih =>
        rintro ⟨d, q1, q2, q3⟩
        by_cases hx : ∃ d, d < n ∧ d < 4096 ∧ t ((acctH a + d) % 4096) = -1
        · exact ih hx
        · refine ⟨d, q2, q3, fun e he => ?_⟩
          rcases h2.rng ((acctH a + e) % 4096) (Nat.mod_lt _ (by decide)) with h3 | h3
          · exact absurd ⟨e, by omega, by omega, h3⟩ hx
          · exact h3.1
    exact this (d0 + 1) ⟨d0, by omega, p1, p2⟩
  refine ⟨t, d, h1, h2, hd.1, hd.2.1, hd.2.2, fun W hW => ?_⟩
  refine (H W hW).mono ?_
  rintro e w' ⟨i, f, rfl, hf, he⟩
  rcases hf with ⟨k, hk, _⟩ | ⟨_, rfl, d', p1, rfl, p2, p3⟩
  · rw [show ixG EAcct.addr a V.accts = V.ix a from rfl, hj] at hk; cases hk
  · have : d' = d := by
      rcases Nat.lt_trichotomy d' d with q | q | q
      · have := hd.2.2 d' q; omega
      · exact q
      · have := p3 d q; omega
    subst this
    exact ⟨rfl, he⟩
theorem VRep.acctAt (h : VRep own w g c V) {j : Nat} (hj : V.ix a = some j) : ∃ b cap c2, c 2435 = .slice (some ⟨b, 0, none⟩) V.accts.length cap ∧ j < V.accts.length ∧ V.accts.length ≤ cap ∧ cap ≤ 9223372036854775807 ∧ Blk w b (cap * 29) 176 c2 ∧ own b = 1 ∧
    (∀ (i : Nat) (h : i < V.accts.length), AcctC (Mu own) w c2 (i * 29) V.accts[i]) ∧ AcctC (Mu own) w c2 (j * 29) (V.acct a) ∧ j * 29 + 29 ≤ cap * 29 := by
  obtain ⟨h1, h2⟩ := ix_some hj
  have hx : V.accts[j] = V.acct a := by
    have := look_getElem h.wf.a1 h1
    rw [h2] at this
    unfold EV.acct; rw [this]; rfl
  rcases h.accts with ⟨h3, _⟩ | ⟨b, cap, c2, h3, h4, h5, h6, h7, h8⟩
  · rw [h3] at h1; simp at h1
  · exact ⟨b, cap, c2, h3, h1, h4, h5, h6, h7, h8, hx ▸ h8 j h1, by have : (j + 1) * 29 ≤ cap * 29 := Nat.mul_le_mul_right _ (by omega); omega⟩
theorem acct_none (hj : V.ix a = none) : V.acct a = EAcct.new a := by
  unfold EV.acct
  have : look EAcct.addr a V.accts = none := by rw [look_ix]; unfold EV.ix at hj; rw [hj]; rfl
  rw [this]; rfl

set_option maxHeartbeats 800000 in
theorem vNonce (h : VRep own w g c V) (ha : a < 2 ^ 160) :
    Calls Hvah.prog 170 #[.pointer (some ⟨g, 2435, none⟩), .agg (av a)] w fun e w' => e = .returned (.int .u64 ((V.acct a).nonce : Nat)) ∧ Ext w w' := by
  cases hj : V.ix a with
  | none =>
    obtain ⟨t, d, _, _, hd, _, _, HF⟩ := vFind_none h ha hj
    have hP : (((acctH a + d) % 4096 : Nat) : Int) < 4096 := by omega
    generalize (acctH a + d) % 4096 = P at *
    rw [acct_none hj]
    go_enter Hvah.func170, Hvah.ntmps170
    go_wp2_with (first | ((with_reducible (refine Veil.out ?_; apply wl_box)); (case hx => rfl)) | ((with_reducible (refine Veil.out ?_; apply wl_load_av (n := a))); (case hn => exact ha); (case hx => rfl); (case hr => exact row_box a (Ext.refl _))) | (go_at_call 168; refine (HF _ ((Ext.refl _).alloc _ _)).mono ?_; rintro e w1 ⟨rfl, he⟩))
    go_ret
    exact ⟨rfl, ((Ext.refl _).alloc _ _).trans he⟩
  | some j =>
    have HF := vFind_some h ha hj
    obtain ⟨b, cap, c2, hv, hjl, hlc, hcm, hb, ho, _, hA, hin⟩ := h.acctAt hj
    generalize V.acct a = x at *
    have hji : (j : Int) < V.accts.length := by omega
    go_enter Hvah.func170, Hvah.ntmps170
    go_wp2_with (first | ((with_reducible (refine Veil.out ?_; apply wl_box)); (case hx => rfl)) | ((with_reducible (refine Veil.out ?_; apply wl_load_av (n := a))); (case hn => exact ha); (case hx => rfl); (case hr => exact row_box a (Ext.refl _))) | (go_at_call 168; refine (HF _ ((Ext.refl _).alloc _ _)).mono ?_; rintro e w1 ⟨rfl, he⟩; have hE := ((Ext.refl w).alloc (av a) 31).trans he; have k0 := (h.blk.ext hE).cell (i := 2435) (by omega); rw [hv] at k0; have k1 := (hb.ext hE).cell (i := j * 29 + 20) (by omega); rw [hA.nonce] at k1))
    go_ret
    exact ⟨rfl, hE⟩
end
end Go.Proofs.YgvahwGreat
