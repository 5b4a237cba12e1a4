import Derived.Test.YgvahwGreatVaultJ
namespace Go.Proofs.YgvahwGreat
open Go.RowKit
attribute [local go_sem] wv_fold
section
variable {own : Nat → Nat} {w : World} {g : Nat} {c : Nat → Value} {V : EV} {a k : Nat}
set_option maxHeartbeats 800000 in
theorem vIsEmpty (h : VRep own w g c V) (ha : a < 2 ^ 160) :
    Calls Hvah.prog 304 #[.pointer (some ⟨g, 2435, none⟩), .agg (av a)] w fun e w' => e = .returned (.bool (V.abs.empty a)) ∧ Ext w w' := by
  show Calls Hvah.prog 304 _ w fun e w' => e = .returned (.bool (decide ((V.acct a).nonce = 0 ∧ (V.acct a).bal = 0 ∧ (V.acct a).code = []))) ∧ Ext w w'
  cases hj : V.ix a with
  | none =>
    obtain ⟨t, d, _, _, hd, _, _, HF⟩ := vFind_none h ha hj
    have hP : (((acctH a + d) % 4096 : Nat) : Int) < 4096 := by omega
    generalize (acctH a + d) % 4096 = P at *
    rw [acct_none hj]
    go_enter Hvah.func304, Hvah.ntmps304
    go_wp2_with (first | ((with_reducible (refine Veil.out ?_; apply wl_box)); (case hx => rfl)) | ((with_reducible (refine Veil.out ?_; apply wl_load_av (n := a))); (case hn => exact ha); (case hx => rfl); (case hr => exact row_box a (Ext.refl _))) | (go_at_call 168; refine (HF _ ((Ext.refl _).alloc _ _)).mono ?_; rintro e w1 ⟨rfl, he⟩; have hE := ((Ext.refl w).alloc (av a) 31).trans he))
    go_ret
    exact ⟨by simp [EAcct.new], hE⟩
  | some j =>
    have HF := vFind_some h ha hj
    obtain ⟨b, cap, c2, hv, hjl, hlc, hcm, hb, ho, _, hA, hin⟩ := h.acctAt hj
    generalize V.acct a = x at *
    have hji : (j : Int) < V.accts.length := by omega
    have HY : ∀ W, Ext w W → Calls Hvah.prog 82 #[.pointer (some ⟨b, j * 29, none⟩)] W fun e w' => e = .returned (.bool (decide (x.nonce = 0 ∧ x.bal = 0 ∧ x.code = []))) ∧ Ext W w' := fun W hW => vEmpty (own := own) (hb.ext hW) (hA.ext hW) hin
    generalize decide (x.nonce = 0 ∧ x.bal = 0 ∧ x.code = []) = z at *
    go_enter Hvah.func304, Hvah.ntmps304
    go_wp2_with (first | ((with_reducible (refine Veil.out ?_; apply wl_box)); (case hx => rfl)) | ((with_reducible (refine Veil.out ?_; apply wl_load_av (n := a))); (case hn => exact ha); (case hx => rfl); (case hr => exact row_box a (Ext.refl _))) | (go_at_call 168; refine (HF _ ((Ext.refl _).alloc _ _)).mono ?_; rintro e w1 ⟨rfl, he⟩; have hE := ((Ext.refl w).alloc (av a) 31).trans he; have k0 := (h.blk.ext hE).cell (i := 2435) (by omega); rw [hv] at k0) | (go_at_call 82; refine (HY _ hE).mono ?_; rintro e w2 ⟨rfl, he2⟩))
    go_ret
    exact ⟨rfl, hE.trans he2⟩
set_option maxHeartbeats 800000 in
theorem vCode (h : VRep own w g c V) (ha : a < 2 ^ 160) :
    Calls Hvah.prog 112 #[.pointer (some ⟨g, 2435, none⟩), .agg (av a)] w fun e w' => ∃ r, e = .returned r ∧ NL (Mu own) w' r (V.acct a).code ∧ Ext w w' := by
  cases hj : V.ix a with
  | none =>
    obtain ⟨t, d, _, _, hd, _, _, HF⟩ := vFind_none h ha hj
    have hP : (((acctH a + d) % 4096 : Nat) : Int) < 4096 := by omega
    generalize (acctH a + d) % 4096 = P at *
    rw [acct_none hj]
    go_enter Hvah.func112, Hvah.ntmps112
    go_wp2_with (first | ((with_reducible (refine Veil.out ?_; apply wl_box)); (case hx => rfl)) | ((with_reducible (refine Veil.out ?_; apply wl_load_av (n := a))); (case hn => exact ha); (case hx => rfl); (case hr => exact row_box a (Ext.refl _))) | (go_at_call 168; refine (HF _ ((Ext.refl _).alloc _ _)).mono ?_; rintro e w1 ⟨rfl, he⟩; have hE := ((Ext.refl w).alloc (av a) 31).trans he))
    go_ret
    exact ⟨_, rfl, NL.nil, hE⟩
  | some j =>
    have HF := vFind_some h ha hj
    obtain ⟨b, cap, c2, hv, hjl, hlc, hcm, hb, ho, _, hA, hin⟩ := h.acctAt hj
    generalize V.acct a = x at *
    have hji : (j : Int) < V.accts.length := by omega
    obtain ⟨r, hr⟩ : ∃ r, Hid (c2 (j * 29 + 25) = r) := ⟨_, (rfl : c2 (j * 29 + 25) = _)⟩
    have hcode := hA.code
    rw [hr.out] at hcode
    have HC : ∀ W, Ext w W → Calls Hvah.prog 86 #[r] W fun e w' => ∃ q, e = .returned q ∧ NL (Mu own) w' q x.code ∧ Ext W w' := fun W hW => vCopied (Mu own) r x.code W (h.ext hW).small (hcode.ext hW)
    go_enter Hvah.func112, Hvah.ntmps112
    go_wp2_with (first | ((with_reducible (refine Veil.out ?_; apply wl_box)); (case hx => rfl)) | ((with_reducible (refine Veil.out ?_; apply wl_load_av (n := a))); (case hn => exact ha); (case hx => rfl); (case hr => exact row_box a (Ext.refl _))) | (go_at_call 168; refine (HF _ ((Ext.refl _).alloc _ _)).mono ?_; rintro e w1 ⟨rfl, he⟩; have hE := ((Ext.refl w).alloc (av a) 31).trans he; have k0 := (h.blk.ext hE).cell (i := 2435) (by omega); rw [hv] at k0; have k1 := (hb.ext hE).cell (i := j * 29 + 25) (by omega); rw [hr.out] at k1) | (go_at_call 86; refine (HC _ hE).mono ?_; rintro e w2 ⟨q, rfl, hq, he2⟩))
    go_ret
    exact ⟨q, rfl, hq, hE.trans he2⟩
/-- The slot's place, -1 if there is none. -/
def EV.pk (V : EV) (a k : Nat) : Option Nat := (V.ix a).bind fun i => ixG ESlot.kc (i, k) V.slots
def ixv (o : Option Nat) : Int := match o with | some j => (j : Int) | none => -1
set_option maxRecDepth 100000 in
set_option maxHeartbeats 800000 in
theorem vPeekSlot (h : VRep own w g c V) (ha : a < 2 ^ 160) (hk : k < P256) :
    Calls Hvah.prog 256 #[.pointer (some ⟨g, 2435, none⟩), .agg (av a), wv k] w fun e w' => e = .returned (.int .i32 (ixv (V.pk a k))) ∧ Ext w w' := by
  unfold EV.pk
  cases hj : V.ix a with
  | none =>
    obtain ⟨t, d, _, _, hd, _, _, HF⟩ := vFind_none h ha hj
    have hP : (((acctH a + d) % 4096 : Nat) : Int) < 4096 := by omega
    generalize (acctH a + d) % 4096 = P at *
    go_enter Hvah.func256, Hvah.ntmps256
    go_wp2_with (first | ((with_reducible (refine Veil.out ?_; apply wl_box)); (case hx => rfl)) | ((with_reducible (refine Veil.out ?_; apply wl_load_av (n := a))); (case hn => exact ha); (case hx => rfl); (case hr => exact row_box a ((Ext.refl _).alloc _ _))) | (go_at_call 168; refine (HF _ (((Ext.refl _).alloc _ _).alloc _ _)).mono ?_; rintro e w1 ⟨rfl, he⟩; have hE := (((Ext.refl w).alloc (av a) 31).alloc #[.int .u64 (lim k 0 : Nat), .int .u64 (lim k 1 : Nat), .int .u64 (lim k 2 : Nat), .int .u64 (lim k 3 : Nat)] 79).trans he))
    go_ret
    exact ⟨rfl, hE⟩
  | some i =>
    have HF := vFind_some h ha hj
    have hi : i < 2560 := Nat.lt_of_lt_of_le (ix_lt_of hj) h.nA
    simp only [Option.bind_some]
    cases hs : ixG ESlot.kc (i, k) V.slots with
    | none =>
      obtain ⟨t, d, _, _, hd, _, _, HS⟩ := vFindS_none h hi hk hs
      have hP : (((mixP i k % 4096 + d) % 4096 : Nat) : Int) < 4096 := by omega
      generalize (mixP i k % 4096 + d) % 4096 = P at *
      go_enter Hvah.func256, Hvah.ntmps256
      go_wp2_with (first | ((with_reducible (refine Veil.out ?_; apply wl_box)); (case hx => rfl)) | ((with_reducible (refine Veil.out ?_; apply wl_load_av (n := a))); (case hn => exact ha); (case hx => rfl); (case hr => exact row_box a ((Ext.refl _).alloc _ _))) | (go_at_call 168; refine (HF _ (((Ext.refl _).alloc _ _).alloc _ _)).mono ?_; rintro e w1 ⟨rfl, he⟩; have hE := (((Ext.refl w).alloc (av a) 31).alloc #[.int .u64 (lim k 0 : Nat), .int .u64 (lim k 1 : Nat), .int .u64 (lim k 2 : Nat), .int .u64 (lim k 3 : Nat)] 79).trans he; obtain ⟨q0, q1, q2, q3⟩ := cell_there ((he.block (w.heap.size + 1) (by simp)).trans (heap_new' _ _ (by simp)))) | (go_at_call 169; refine (HS _ hE).mono ?_; rintro e w2 ⟨rfl, he2⟩))
      go_ret
      exact ⟨rfl, hE.trans he2⟩
    | some j =>
      have HS := vFindS_some h hi hk hs
      go_enter Hvah.func256, Hvah.ntmps256
      go_wp2_with (first | ((with_reducible (refine Veil.out ?_; apply wl_box)); (case hx => rfl)) | ((with_reducible (refine Veil.out ?_; apply wl_load_av (n := a))); (case hn => exact ha); (case hx => rfl); (case hr => exact row_box a ((Ext.refl _).alloc _ _))) | (go_at_call 168; refine (HF _ (((Ext.refl _).alloc _ _).alloc _ _)).mono ?_; rintro e w1 ⟨rfl, he⟩; have hE := (((Ext.refl w).alloc (av a) 31).alloc #[.int .u64 (lim k 0 : Nat), .int .u64 (lim k 1 : Nat), .int .u64 (lim k 2 : Nat), .int .u64 (lim k 3 : Nat)] 79).trans he; obtain ⟨q0, q1, q2, q3⟩ := cell_there ((he.block (w.heap.size + 1) (by simp)).trans (heap_new' _ _ (by simp)))) | (go_at_call 169; refine (HS _ hE).mono ?_; rintro e w2 ⟨rfl, he2⟩))
      go_ret
      exact ⟨rfl, hE.trans he2⟩
end
end Go.Proofs.YgvahwGreat
