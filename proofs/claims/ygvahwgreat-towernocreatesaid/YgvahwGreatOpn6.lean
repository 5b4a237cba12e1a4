import Derived.Test.YgvahwGreatOpn5
import Derived.Test.YgvahwGreatEe
namespace Go.Proofs.YgvahwGreat
open Go.RowKit
set_option linter.unusedSimpArgs false
theorem rt35o : RowT 40 174 := rowT_of (by kernel_rfl) (by kernel_rfl)
theorem post_u8o {R : Ending → World → Prop} {ac : Act} {w : World} {v : Value} (hv : ac.tmps.getD 4 undef = v) (hdf : ac.defers = []) (h : R (.returned v) w) : bodyPost Hvah.prog Hvah.f45 R .ret ac w := by
  subst hv; exact bodyPost_ret (results_tmp rfl _ _ _) hdf h
theorem rowOf_txo {r : Array Value} (hr : r.size = 174) : rowOf (cf r) 0 174 = r := by
  apply Array.ext_getElem?
  intro i
  rw [rowOf_get]
  by_cases q : i < 174
  · rw [if_pos q, Nat.zero_add, get_cf (by rw [hr]; exact q)]
  · rw [if_neg q, Array.getElem?_eq_none (by rw [hr]; omega)]
section
variable {own : Nat → Nat} {w : World} {g : Nat} {c : Nat → Value} {V : EV} {st : ASt} {sn stale : List Nat} {r : Array Value} {t : ATx}
set_option maxRecDepth 100000 in
set_option maxHeartbeats 6400000 in
theorem eOpenNo (h : MRep own w g c V st sn stale) (hr : r.size = 174) (hT : TxC (Mu own) w (cf r) t) (hp : st.phase = 0) (ha : st.applied < 4) (hv : st.verdict t ≠ 0) : Calls Hvah.prog 45 #[.pointer (some ⟨g, 0, none⟩), .agg r] w fun e w' => e = .returned (.int .u8 (st.verdict t : Nat)) ∧ Ext w w' := by
  have hrow := rowOf_txo hr
  have HV := fun W' (hW : Ext w W') => eVerdict (h.ext hW) hr (hT.vstep (VStep.ext (c := c) hW)) hp ha
  obtain ⟨vd, hvd⟩ : ∃ x, Hid (st.verdict t = x) := ⟨_, rfl⟩
  rw [hvd.out] at HV hv ⊢
  have z1 : ¬ (vd : Int) = 0 := by omega
  have z2 : decide ((vd : Int) = 0) = false := decide_eq_false z1
  have z3 : ((vd : Int) == 0) = false := by simp; omega
  clear hT h
  go_enter Hvah.func45, Hvah.ntmps45
  go_wp2_with (first | ((with_reducible (refine Veil.out ?_; apply wl_boxB)); (case hx => rfl); (case hn => exact hr); rintro BT W1 e1 b1 g1) | ((with_reducible (refine Veil.out ?_; apply wl_loadRow rt35o)); (case hx => rfl); (case hB => exact b1); (case hi => decide); rw [hrow]) | (go_at_call 99; refine (HV _ (by (repeat (first | with_reducible exact Ext.refl _ | with_reducible assumption | refine Ext.trans ?_ (by with_reducible assumption) | refine Ext.alloc ?_ _ _ | refine Ext.drew ?_ | refine Ext.drewN ?_ _)))).mono ?_; rintro e w2 ⟨p, rfl, hpp, he2⟩) | ((with_reducible (refine Veil.out ?_; apply wl_allocW)); rintro B3 W3 c3 e3 b3 a3 g3) | ((with_reducible (refine Veil.out ?_; apply wl_storeWB)); (case hx => rfl); (case hy => rfl); (case hB => exact b3); (case hi => decide); rintro W4 c4 b4 a4 n4 m4))
  have e4 : Ext w W4 := Ext.trans_mod (show Ext w W3 by (repeat (first | with_reducible exact Ext.refl _ | with_reducible assumption | refine Ext.trans ?_ (by with_reducible assumption) | refine Ext.alloc ?_ _ _ | refine Ext.drew ?_ | refine Ext.drewN ?_ _))) m4 (fun q hq => by have hq2 : q = B3 := hq; rw [hq2]; exact Nat.le_trans (Ext.size (by (repeat (first | with_reducible exact Ext.refl _ | with_reducible assumption | refine Ext.trans ?_ (by with_reducible assumption) | refine Ext.alloc ?_ _ _ | refine Ext.drew ?_ | refine Ext.drewN ?_ _)))) g3)
  exact post_u8o (v := .int .u8 (vd : Nat)) rfl rfl ⟨rfl, e4⟩
end
end Go.Proofs.YgvahwGreat
