import Derived.Test.YgvahwGreatSe
import Derived.Test.YgvahwGreatSg
namespace Go.Proofs.YgvahwGreat
open Go.RowKit
set_option linter.unusedSimpArgs false
theorem dl_reach {f : AFrame} (h : FOK f) (o : Nat) : dl (f.reach o) ≤ 33 := by
  have h0 : ∀ i j, dl (endA (f.arg i) (f.arg j)) ≤ 33 := fun i j => dl_end' (h.adl i) (h.adl j)
  have h1 : ∀ i k, k < 256 → dl (endA (f.arg i) k) ≤ 33 := fun i k hk => dl_end' (h.adl i) (Nat.le_trans (dl_u64 k (by omega)) (by decide))
  unfold AFrame.reach
  repeat' split
  all_goals first | exact h0 _ _ | exact h1 _ _ (by decide) | exact dl_max' (h0 _ _) (h0 _ _) | exact Nat.zero_le _
theorem ite_le {c : Prop} [Decidable c] {a b k : Nat} (h1 : c → a ≤ k) (h2 : ¬ c → b ≤ k) : (if c then a else b) ≤ k := by split <;> simp_all
theorem access_le (w : AW) (a : Nat) : w.access a ≤ 2600 := by unfold AW.access; split <;> omega
theorem enterCost_le {st : ASt} {f : AFrame} (h : FOK f) (o : Nat) : st.enterCost f o ≤ 8 * P256 + 100000 := by
  have h2 := h.argLt 2
  have ha := fun a => access_le st.now a
  have ha1 := ha (addrA (f.arg 1))
  unfold ASt.enterCost wordsA
  generalize P256 = P at *
  repeat' split
  all_goals omega
theorem destroyCost_le {st : ASt} {f : AFrame} : st.destroyCost f ≤ 100000 := by
  unfold ASt.destroyCost
  repeat' split
  all_goals omega
theorem sstoreCost_le (o v n : Nat) (b : Bool) : sstoreCost o v n b ≤ 100000 := by
  unfold sstoreCost
  repeat' split
  all_goals omega
theorem bare_le {st : ASt} {f : AFrame} (h : FOK f) (o : Nat) : st.bareCost f o ≤ 8 * P256 + 100000 := by
  have h1 := h.argLt 1
  have h2 := h.argLt 2
  have h3 := h.argLt 3
  have he := enterCost_le (st := st) h o
  have hd := destroyCost_le (st := st) (f := f)
  have hs := sstoreCost_le (st.orig f.self (f.arg 0)) (st.now.slot f.self (f.arg 0)) (f.arg 1) (!st.now.warmS f.self (f.arg 0))
  have ha := access_le st.now (addrA (f.arg 0))
  have hx := h.adl 1
  unfold ASt.bareCost expCostA copyCostA wordsA
  generalize P256 = P at *
  repeat' (with_reducible refine ite_le (fun _ => ?_) (fun _ => ?_))
  all_goals omega
theorem dl_bare {st : ASt} {f : AFrame} (h : FOK f) (o : Nat) : dl (st.bareCost f o) ≤ 400 :=
  Nat.le_trans ((dl_le_iff _ 34).2 (Nat.lt_of_le_of_lt (bare_le h o) (by decide +kernel))) (by decide)
section
variable {kk : Nat → Value} {O TM TL : Nat → Prop} {w : World} {Y F q n : Nat} {tF : TypeId} {c d : Nat → Value} {W : YW} {start : List (Nat × Nat × Nat)} {st : ASt} {f : AFrame}
set_option maxRecDepth 100000 in
set_option maxHeartbeats 6400000 in
theorem yCost (hX : YX kk O TM TL w Y F q n tF c d W start st f) (o : Nat) (ho : o < 256) : Calls Hvah.prog 148 #[.pointer (some ⟨Y, 0, none⟩), .pointer (some ⟨F, q, none⟩), .int .u8 o] w fun e w' => ∃ r, e = .returned r ∧ NV O w' r (st.cost f o) ∧ Ext w w' := by
  have hO := hX.small
  have hok := hX.ok
  have hq := hX.hq
  have h256 : (o : Int) < 256 := by omega
  obtain ⟨om, cm, hmd, hm1⟩ := GRow.slice hX.fc.mem
  have hml := hX.ok.mLen
  have hmli : (f.mem.length : Int) ≤ 717280 := by omega
  have k9 : ∀ W, Ext w W → W.cell? ⟨F, q + 9, none⟩ = some (.slice om f.mem.length cm) := fun W hW => by rw [← hmd]; exact (hX.bF.ext hW).cell (by omega)
  have hdr : dl (f.reach o) ≤ 33 := dl_reach hX.ok o
  have hdb : dl (st.bareCost f o) ≤ 400 := dl_bare hX.ok o
  have i1 : (f.mem.length : Int) / 32 = ((f.mem.length / 32 : Nat) : Int) := by omega
  have hdh : dl (f.mem.length / 32) ≤ 33 := Nat.le_trans (dl_u64 _ (by omega)) (by decide)
  have hdw : dl ((f.reach o + 31) / 32) ≤ 34 := dl_words' hdr
  have hcv : st.cost f o = st.bareCost f o + (if (f.reach o + 31) / 32 ≤ f.mem.length / 32 then 0 else (3 * ((f.reach o + 31) / 32) + ((f.reach o + 31) / 32) * ((f.reach o + 31) / 32) / 512) - (3 * (f.mem.length / 32) + (f.mem.length / 32) * (f.mem.length / 32) / 512)) := rfl
  have hdm : dl (3 * ((f.reach o + 31) / 32) + ((f.reach o + 31) / 32) * ((f.reach o + 31) / 32) / 512) ≤ 400 := Nat.le_trans (dl_add _ _ 100 (Nat.le_trans (dl_mul 3 _ 1 34 (by decide) hdw) (by decide)) (Nat.le_trans (dl_div _ _ _ (dl_mul _ _ 34 34 hdw hdw)) (by decide))) (by decide)
  have hds := dl_sub (3 * ((f.reach o + 31) / 32) + ((f.reach o + 31) / 32) * ((f.reach o + 31) / 32) / 512) (3 * (f.mem.length / 32) + (f.mem.length / 32) * (f.mem.length / 32) / 512) _ hdm
  rw [hcv]
  clear hcv
  have hhl : f.mem.length / 32 ≤ 22415 := by omega
  generalize f.mem.length / 32 = have_ at *
  go_enter Hvah.func148, Hvah.ntmps148
  go_wp2_with (first
    | (go_at_call 232; refine (yBareCost (hX.ext (by (repeat (first | with_reducible exact Ext.refl _ | with_reducible assumption | refine Ext.trans ?_ (by with_reducible assumption) | refine Ext.alloc ?_ _ _ | refine Ext.drew ?_ | refine Ext.drewN ?_ _)))) _ (by first | assumption | decide)).mono ?_; rintro e w1 ⟨r, rfl, hr, he⟩; have kk := k9 _ (show Ext w w1 by (repeat (first | with_reducible exact Ext.refl _ | with_reducible assumption | refine Ext.trans ?_ (by with_reducible assumption) | refine Ext.alloc ?_ _ _ | refine Ext.drew ?_ | refine Ext.drewN ?_ _))))
    | (go_at_call 42; refine (nNum O _ _ (hO.ext (by (repeat (first | with_reducible exact Ext.refl _ | with_reducible assumption | refine Ext.trans ?_ (by with_reducible assumption) | refine Ext.alloc ?_ _ _ | refine Ext.drew ?_ | refine Ext.drewN ?_ _)))) (by first | decide | omega)).mono ?_; rintro e w1 ⟨r, rfl, hr, he⟩)
    | (go_at_call 71; refine (yReach (hX.bF.ext (by (repeat (first | with_reducible exact Ext.refl _ | with_reducible assumption | refine Ext.trans ?_ (by with_reducible assumption) | refine Ext.alloc ?_ _ _ | refine Ext.drew ?_ | refine Ext.drewN ?_ _)))) (hX.fc.ext (by (repeat (first | with_reducible exact Ext.refl _ | with_reducible assumption | refine Ext.trans ?_ (by with_reducible assumption) | refine Ext.alloc ?_ _ _ | refine Ext.drew ?_ | refine Ext.drewN ?_ _)))) hX.hq hX.ok (hO.ext (by (repeat (first | with_reducible exact Ext.refl _ | with_reducible assumption | refine Ext.trans ?_ (by with_reducible assumption) | refine Ext.alloc ?_ _ _ | refine Ext.drew ?_ | refine Ext.drewN ?_ _)))) _ (by first | assumption | decide)).mono ?_; rintro e w1 ⟨r, rfl, hr, he⟩)
    | (go_at_call 135; refine (nWords O _ _ _ (hO.ext (by (repeat (first | with_reducible exact Ext.refl _ | with_reducible assumption | refine Ext.trans ?_ (by with_reducible assumption) | refine Ext.alloc ?_ _ _ | refine Ext.drew ?_ | refine Ext.drewN ?_ _)))) (NV.ext (by with_reducible assumption) (by (repeat (first | with_reducible exact Ext.refl _ | with_reducible assumption | refine Ext.trans ?_ (by with_reducible assumption) | refine Ext.alloc ?_ _ _ | refine Ext.drew ?_ | refine Ext.drewN ?_ _)))) (by repeat (first | with_reducible assumption | exact Nat.le_trans (by with_reducible assumption) (by decide) | exact Nat.le_trans (hok.adl _) (by decide) | exact Nat.le_trans (dl_u64 _ (by first | decide | omega)) (by decide) | refine dl_end' ?_ ?_ | refine dl_max' ?_ ?_ | refine dl_add' ?_ ?_ | refine dl_words' ?_ | refine dl_mul' ?_ ?_ | decide))).mono ?_; rintro e w1 ⟨r, rfl, hr, he⟩)
    | (go_at_call 130; refine (nCmp O _ _ _ _ _ (by first | exact (NV.ext (by with_reducible assumption) (by (repeat (first | with_reducible exact Ext.refl _ | with_reducible assumption | refine Ext.trans ?_ (by with_reducible assumption) | refine Ext.alloc ?_ _ _ | refine Ext.drew ?_ | refine Ext.drewN ?_ _)))) | exact NV.nil) (by first | exact (NV.ext (by with_reducible assumption) (by (repeat (first | with_reducible exact Ext.refl _ | with_reducible assumption | refine Ext.trans ?_ (by with_reducible assumption) | refine Ext.alloc ?_ _ _ | refine Ext.drew ?_ | refine Ext.drewN ?_ _)))) | exact NV.nil)).mono ?_; rintro e w1 ⟨rfl, hdr⟩; have he := drew_ext hdr; clear hdr)
    | (go_at_call 233; refine (yMemCost O _ _ _ (hO.ext (by (repeat (first | with_reducible exact Ext.refl _ | with_reducible assumption | refine Ext.trans ?_ (by with_reducible assumption) | refine Ext.alloc ?_ _ _ | refine Ext.drew ?_ | refine Ext.drewN ?_ _)))) (NV.ext (by with_reducible assumption) (by (repeat (first | with_reducible exact Ext.refl _ | with_reducible assumption | refine Ext.trans ?_ (by with_reducible assumption) | refine Ext.alloc ?_ _ _ | refine Ext.drew ?_ | refine Ext.drewN ?_ _)))) (by repeat (first | with_reducible assumption | exact Nat.le_trans (by with_reducible assumption) (by decide) | exact Nat.le_trans (hok.adl _) (by decide) | exact Nat.le_trans (dl_u64 _ (by first | decide | omega)) (by decide) | refine dl_end' ?_ ?_ | refine dl_max' ?_ ?_ | refine dl_add' ?_ ?_ | refine dl_words' ?_ | refine dl_mul' ?_ ?_ | decide))).mono ?_; rintro e w1 ⟨r, rfl, hr, he⟩)
    | (go_at_call 55; refine (nLess O _ _ _ _ _ (hO.ext (by (repeat (first | with_reducible exact Ext.refl _ | with_reducible assumption | refine Ext.trans ?_ (by with_reducible assumption) | refine Ext.alloc ?_ _ _ | refine Ext.drew ?_ | refine Ext.drewN ?_ _)))) (NV.ext (by with_reducible assumption) (by (repeat (first | with_reducible exact Ext.refl _ | with_reducible assumption | refine Ext.trans ?_ (by with_reducible assumption) | refine Ext.alloc ?_ _ _ | refine Ext.drew ?_ | refine Ext.drewN ?_ _)))) (NV.ext (by with_reducible assumption) (by (repeat (first | with_reducible exact Ext.refl _ | with_reducible assumption | refine Ext.trans ?_ (by with_reducible assumption) | refine Ext.alloc ?_ _ _ | refine Ext.drew ?_ | refine Ext.drewN ?_ _))))).mono ?_; rintro e w1 ⟨r, rfl, hr, he⟩)
    | (go_at_call 44; refine (nAdd O _ _ _ _ _ (hO.ext (by (repeat (first | with_reducible exact Ext.refl _ | with_reducible assumption | refine Ext.trans ?_ (by with_reducible assumption) | refine Ext.alloc ?_ _ _ | refine Ext.drew ?_ | refine Ext.drewN ?_ _)))) (by first | exact (NV.ext (by with_reducible assumption) (by (repeat (first | with_reducible exact Ext.refl _ | with_reducible assumption | refine Ext.trans ?_ (by with_reducible assumption) | refine Ext.alloc ?_ _ _ | refine Ext.drew ?_ | refine Ext.drewN ?_ _)))) | exact NV.nil) (by first | exact (NV.ext (by with_reducible assumption) (by (repeat (first | with_reducible exact Ext.refl _ | with_reducible assumption | refine Ext.trans ?_ (by with_reducible assumption) | refine Ext.alloc ?_ _ _ | refine Ext.drew ?_ | refine Ext.drewN ?_ _)))) | exact NV.nil) (by repeat (first | with_reducible assumption | exact Nat.le_trans (by with_reducible assumption) (by decide) | exact Nat.le_trans (hok.adl _) (by decide) | exact Nat.le_trans (dl_u64 _ (by first | decide | omega)) (by decide) | refine dl_end' ?_ ?_ | refine dl_max' ?_ ?_ | refine dl_add' ?_ ?_ | refine dl_words' ?_ | refine dl_mul' ?_ ?_ | decide)) (by repeat (first | with_reducible assumption | exact Nat.le_trans (by with_reducible assumption) (by decide) | exact Nat.le_trans (hok.adl _) (by decide) | exact Nat.le_trans (dl_u64 _ (by first | decide | omega)) (by decide) | refine dl_end' ?_ ?_ | refine dl_max' ?_ ?_ | refine dl_add' ?_ ?_ | refine dl_words' ?_ | refine dl_mul' ?_ ?_ | decide))).mono ?_; rintro e w1 ⟨r, rfl, hr, he⟩))
  all_goals go_ret
  all_goals refine ⟨_, rfl, NV.cast (NV.ext (by assumption) (by (repeat (first | with_reducible exact Ext.refl _ | with_reducible assumption | refine Ext.trans ?_ (by with_reducible assumption) | refine Ext.alloc ?_ _ _ | refine Ext.drew ?_ | refine Ext.drewN ?_ _)))) ?_, by (repeat (first | with_reducible exact Ext.refl _ | with_reducible assumption | refine Ext.trans ?_ (by with_reducible assumption) | refine Ext.alloc ?_ _ _ | refine Ext.drew ?_ | refine Ext.drewN ?_ _))⟩
  all_goals (try simp only [cmpI_z, cmpI_n, cmpI_p, cmpI_nn, cmpI_pp, beq_iff_eq, beq_eq_false_iff_ne, ne_eq, decide_eq_true_eq, decide_eq_false_iff_not, Bool.not_eq_true', Bool.not_eq_false', Bool.not_eq_eq_eq_not, Bool.not_true, Bool.not_false, bne_iff_ne] at *)
  all_goals first | rfl | omega | (rw [if_pos (by omega)]; rfl) | (rw [if_neg (by omega)])
end
end Go.Proofs.YgvahwGreat
