import Derived.Test.YgvahwGreatVaultH
namespace Go.Proofs.YgvahwGreat
open Go.RowKit
attribute [local go_sem] wv_fold
section
variable {own : Nat → Nat} {w : World} {g : Nat} {c : Nat → Value} {V : EV} {a : Nat}

set_option maxHeartbeats 800000 in
theorem vIsWarm (h : VRep own w g c V) (ha : a < 2 ^ 160) :
    Calls Hvah.prog 181 #[.pointer (some ⟨g, 2435, none⟩), .agg (av a)] w fun e w' => e = .returned (.bool (V.acct a).warm) ∧ Ext w w' := by
  cases hj : V.ix a with
  | none =>
    obtain ⟨t, d, _, _, hd, _, _, HF⟩ := vFind_none h ha hj
    have hP : (((acctH a + d) % 4096 : Nat) : Int) < 4096 := by omega
    generalize (acctH a + d) % 4096 = P at *
    rw [acct_none hj]
    go_enter Hvah.func181, Hvah.ntmps181
    go_wp2_with (first | ((with_reducible (refine Veil.out ?_; apply wl_box)); (case hx => rfl)) | ((with_reducible (refine Veil.out ?_; apply wl_load_av (n := a))); (case hn => exact ha); (case hx => rfl); (case hr => exact row_box a (Ext.refl _))) | (go_at_call 168; refine (HF _ ((Ext.refl _).alloc _ _)).mono ?_; rintro e w1 ⟨rfl, he⟩; have hE := ((Ext.refl w).alloc (av a) 31).trans he))
    go_ret
    exact ⟨rfl, hE⟩
  | some j =>
    have HF := vFind_some h ha hj
    obtain ⟨b, cap, c2, hv, hjl, hlc, hcm, hb, ho, _, hA, hin⟩ := h.acctAt hj
    generalize V.acct a = x at *
    have hji : (j : Int) < V.accts.length := by omega
    go_enter Hvah.func181, Hvah.ntmps181
    go_wp2_with (first | ((with_reducible (refine Veil.out ?_; apply wl_box)); (case hx => rfl)) | ((with_reducible (refine Veil.out ?_; apply wl_load_av (n := a))); (case hn => exact ha); (case hx => rfl); (case hr => exact row_box a (Ext.refl _))) | (go_at_call 168; refine (HF _ ((Ext.refl _).alloc _ _)).mono ?_; rintro e w1 ⟨rfl, he⟩; have hE := ((Ext.refl w).alloc (av a) 31).trans he; have k0 := (h.blk.ext hE).cell (i := 2435) (by omega); rw [hv] at k0; have k1 := (hb.ext hE).cell (i := j * 29 + 26) (by omega); rw [hA.warm] at k1))
    go_ret
    exact ⟨rfl, hE⟩

set_option maxHeartbeats 800000 in
theorem vIsMade (h : VRep own w g c V) (ha : a < 2 ^ 160) :
    Calls Hvah.prog 321 #[.pointer (some ⟨g, 2435, none⟩), .agg (av a)] w fun e w' => e = .returned (.bool (V.acct a).made) ∧ Ext w w' := by
  cases hj : V.ix a with
  | none =>
    obtain ⟨t, d, _, _, hd, _, _, HF⟩ := vFind_none h ha hj
    have hP : (((acctH a + d) % 4096 : Nat) : Int) < 4096 := by omega
    generalize (acctH a + d) % 4096 = P at *
    rw [acct_none hj]
    go_enter Hvah.func321, Hvah.ntmps321
    go_wp2_with (first | ((with_reducible (refine Veil.out ?_; apply wl_box)); (case hx => rfl)) | ((with_reducible (refine Veil.out ?_; apply wl_load_av (n := a))); (case hn => exact ha); (case hx => rfl); (case hr => exact row_box a (Ext.refl _))) | (go_at_call 168; refine (HF _ ((Ext.refl _).alloc _ _)).mono ?_; rintro e w1 ⟨rfl, he⟩; have hE := ((Ext.refl w).alloc (av a) 31).trans he))
    go_ret
    exact ⟨rfl, hE⟩
  | some j =>
    have HF := vFind_some h ha hj
    obtain ⟨b, cap, c2, hv, hjl, hlc, hcm, hb, ho, _, hA, hin⟩ := h.acctAt hj
    generalize V.acct a = x at *
    have hji : (j : Int) < V.accts.length := by omega
    go_enter Hvah.func321, Hvah.ntmps321
    go_wp2_with (first | ((with_reducible (refine Veil.out ?_; apply wl_box)); (case hx => rfl)) | ((with_reducible (refine Veil.out ?_; apply wl_load_av (n := a))); (case hn => exact ha); (case hx => rfl); (case hr => exact row_box a (Ext.refl _))) | (go_at_call 168; refine (HF _ ((Ext.refl _).alloc _ _)).mono ?_; rintro e w1 ⟨rfl, he⟩; have hE := ((Ext.refl w).alloc (av a) 31).trans he; have k0 := (h.blk.ext hE).cell (i := 2435) (by omega); rw [hv] at k0; have k1 := (hb.ext hE).cell (i := j * 29 + 27) (by omega); rw [hA.made] at k1))
    go_ret
    exact ⟨rfl, hE⟩

set_option maxHeartbeats 800000 in
theorem vIsGone (h : VRep own w g c V) (ha : a < 2 ^ 160) :
    Calls Hvah.prog 322 #[.pointer (some ⟨g, 2435, none⟩), .agg (av a)] w fun e w' => e = .returned (.bool (V.acct a).gone) ∧ Ext w w' := by
  cases hj : V.ix a with
  | none =>
    obtain ⟨t, d, _, _, hd, _, _, HF⟩ := vFind_none h ha hj
    have hP : (((acctH a + d) % 4096 : Nat) : Int) < 4096 := by omega
    generalize (acctH a + d) % 4096 = P at *
    rw [acct_none hj]
    go_enter Hvah.func322, Hvah.ntmps322
    go_wp2_with (first | ((with_reducible (refine Veil.out ?_; apply wl_box)); (case hx => rfl)) | ((with_reducible (refine Veil.out ?_; apply wl_load_av (n := a))); (case hn => exact ha); (case hx => rfl); (case hr => exact row_box a (Ext.refl _))) | (go_at_call 168; refine (HF _ ((Ext.refl _).alloc _ _)).mono ?_; rintro e w1 ⟨rfl, he⟩; have hE := ((Ext.refl w).alloc (av a) 31).trans he))
    go_ret
    exact ⟨rfl, hE⟩
  | some j =>
    have HF := vFind_some h ha hj
    obtain ⟨b, cap, c2, hv, hjl, hlc, hcm, hb, ho, _, hA, hin⟩ := h.acctAt hj
    generalize V.acct a = x at *
    have hji : (j : Int) < V.accts.length := by omega
    go_enter Hvah.func322, Hvah.ntmps322
    go_wp2_with (first | ((with_reducible (refine Veil.out ?_; apply wl_box)); (case hx => rfl)) | ((with_reducible (refine Veil.out ?_; apply wl_load_av (n := a))); (case hn => exact ha); (case hx => rfl); (case hr => exact row_box a (Ext.refl _))) | (go_at_call 168; refine (HF _ ((Ext.refl _).alloc _ _)).mono ?_; rintro e w1 ⟨rfl, he⟩; have hE := ((Ext.refl w).alloc (av a) 31).trans he; have k0 := (h.blk.ext hE).cell (i := 2435) (by omega); rw [hv] at k0; have k1 := (hb.ext hE).cell (i := j * 29 + 28) (by omega); rw [hA.gone] at k1))
    go_ret
    exact ⟨rfl, hE⟩

set_option maxHeartbeats 800000 in
theorem vBalance (h : VRep own w g c V) (ha : a < 2 ^ 160) :
    Calls Hvah.prog 108 #[.pointer (some ⟨g, 2435, none⟩), .agg (av a)] w fun e w' => e = .returned (wv (V.acct a).bal) ∧ Ext w w' := by
  cases hj : V.ix a with
  | none =>
    obtain ⟨t, d, _, _, hd, _, _, HF⟩ := vFind_none h ha hj
    have hP : (((acctH a + d) % 4096 : Nat) : Int) < 4096 := by omega
    generalize (acctH a + d) % 4096 = P at *
    rw [acct_none hj]
    go_enter Hvah.func108, Hvah.ntmps108
    go_wp2_with (first | ((with_reducible (refine Veil.out ?_; apply wl_box)); (case hx => rfl)) | ((with_reducible (refine Veil.out ?_; apply wl_load_av (n := a))); (case hn => exact ha); (case hx => rfl); (case hr => exact row_box a ((Ext.refl _).alloc _ _))) | (go_at_call 168; refine (HF _ (((Ext.refl _).alloc _ _).alloc _ _)).mono ?_; rintro e w1 ⟨rfl, he⟩; have hE := (((Ext.refl w).alloc (av a) 31).alloc #[.int .u64 0, .int .u64 0, .int .u64 0, .int .u64 0] 79).trans he; have hwb := (he.block (w.heap.size + 1) (by simp)).trans (heap_new' _ _ (by simp)); have hrf := frozen_there hwb; have hz2 : w.heap.size + 1 < w1.heap.size := Nat.lt_of_lt_of_le (by simp) he.size; obtain ⟨p0, p1, p2, p3⟩ := cell_there hwb))
    refine post_set4' (a := 0) (b := 0) (c := 0) (d := 0) Hvah.results108 rfl rfl hwb (by decide) (by decide) (by decide) (by decide) rfl ⟨rfl, ?_⟩
    exact ext_set4 hE (by omega) _ _ _ _
  | some j =>
    have HF := vFind_some h ha hj
    obtain ⟨b, cap, c2, hv, hjl, hlc, hcm, hb, ho, _, hA, hin⟩ := h.acctAt hj
    generalize V.acct a = x at *
    have hji : (j : Int) < V.accts.length := by omega
    go_enter Hvah.func108, Hvah.ntmps108
    go_wp2_with (first | ((with_reducible (refine Veil.out ?_; apply wl_box)); (case hx => rfl)) | ((with_reducible (refine Veil.out ?_; apply wl_load_av (n := a))); (case hn => exact ha); (case hx => rfl); (case hr => exact row_box a ((Ext.refl _).alloc _ _))) | (go_at_call 168; refine (HF _ (((Ext.refl _).alloc _ _).alloc _ _)).mono ?_; rintro e w1 ⟨rfl, he⟩; have hE := (((Ext.refl w).alloc (av a) 31).alloc #[.int .u64 0, .int .u64 0, .int .u64 0, .int .u64 0] 79).trans he; have k0 := (h.blk.ext hE).cell (i := 2435) (by omega); rw [hv] at k0; have k1 := (hb.ext hE).cell (i := j * 29 + 21) (by omega); rw [hA.bal.c0] at k1; have k2 := (hb.ext hE).cell (i := j * 29 + 22) (by omega); rw [hA.bal.c1] at k2; have k3 := (hb.ext hE).cell (i := j * 29 + 23) (by omega); rw [hA.bal.c2] at k3; have k4 := (hb.ext hE).cell (i := j * 29 + 24) (by omega); rw [hA.bal.c3] at k4; have hwb := (he.block (w.heap.size + 1) (by simp)).trans (heap_new' _ _ (by simp)); have hrf := he.rf; have hz2 : w.heap.size + 1 < w1.heap.size := Nat.lt_of_lt_of_le (by simp) he.size; obtain ⟨p0, p1, p2, p3⟩ := cell_there hwb))
    refine post_set4' Hvah.results108 rfl rfl hwb (lim_lt _ _) (lim_lt _ _) (lim_lt _ _) (lim_lt _ _) (W4_lim _ hA.bLt) ⟨rfl, ?_⟩
    exact ext_set4 hE (by omega) _ _ _ _
end
end Go.Proofs.YgvahwGreat
