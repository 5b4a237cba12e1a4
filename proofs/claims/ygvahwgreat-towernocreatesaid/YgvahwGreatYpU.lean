import Derived.Test.YgvahwGreatYpT
import Derived.Test.YgvahwGreatArity
namespace Go.Proofs.YgvahwGreat
open Go.RowKit
set_option linter.unusedSimpArgs false
theorem ret_b {b b' : Bool} (h : b = b') : Ending.returned (.bool b) = .returned (.bool b') := by rw [h]
theorem ret_i {k : IntKind} {x x' : Int} (h : x = x') : Ending.returned (.int k x) = .returned (.int k x') := by rw [h]
section
variable {O TM : Nat → Prop} {w : World} {F q n : Nat} {t : TypeId} {d : Nat → Value} {f : AFrame}
set_option maxRecDepth 100000 in
set_option maxHeartbeats 6400000 in
theorem yReach (hF : Blk w F n t d) (hf : YFC O TM w d q f) (hq : q + 60 ≤ n) (hok : FOK f) (hO : Small O w) (o : Nat) (ho : o < 256) :
    Calls Hvah.prog 71 #[.pointer (some ⟨F, q, none⟩), .int .u8 o] w fun e w' => ∃ r, e = .returned r ∧ NV O w' r (f.reach o) ∧ Ext w w' := by
  have h256 : (o : Int) < 256 := by omega
  go_enter Hvah.func71, Hvah.ntmps71
  go_wp2_with (first
    | (go_at_call 73; refine (yArgF (hF.ext (by (repeat (first | with_reducible exact Ext.refl _ | with_reducible assumption | refine Ext.trans ?_ (by with_reducible assumption) | refine Ext.alloc ?_ _ _ | refine Ext.drew ?_ | refine Ext.drewN ?_ _)))) (hf.ext (by (repeat (first | with_reducible exact Ext.refl _ | with_reducible assumption | refine Ext.trans ?_ (by with_reducible assumption) | refine Ext.alloc ?_ _ _ | refine Ext.drew ?_ | refine Ext.drewN ?_ _)))) hq hok _ (by decide)).mono ?_; rintro e w1 ⟨r, rfl, hr, he⟩)
    | (go_at_call 153; refine (yEnd (hO.ext (by (repeat (first | with_reducible exact Ext.refl _ | with_reducible assumption | refine Ext.trans ?_ (by with_reducible assumption) | refine Ext.alloc ?_ _ _ | refine Ext.drew ?_ | refine Ext.drewN ?_ _)))) (NV.ext (by with_reducible assumption) (by (repeat (first | with_reducible exact Ext.refl _ | with_reducible assumption | refine Ext.trans ?_ (by with_reducible assumption) | refine Ext.alloc ?_ _ _ | refine Ext.drew ?_ | refine Ext.drewN ?_ _)))) (NV.ext (by with_reducible assumption) (by (repeat (first | with_reducible exact Ext.refl _ | with_reducible assumption | refine Ext.trans ?_ (by with_reducible assumption) | refine Ext.alloc ?_ _ _ | refine Ext.drew ?_ | refine Ext.drewN ?_ _)))) (by repeat (first | with_reducible assumption | exact Nat.le_trans (hok.adl _) (by decide) | refine dl_end' ?_ ?_ | refine dl_max' ?_ ?_ | refine dl_add' ?_ ?_ | refine dl_words' ?_ | refine dl_mul' ?_ ?_ | decide)) (by repeat (first | with_reducible assumption | exact Nat.le_trans (hok.adl _) (by decide) | refine dl_end' ?_ ?_ | refine dl_max' ?_ ?_ | refine dl_add' ?_ ?_ | refine dl_words' ?_ | refine dl_mul' ?_ ?_ | decide))).mono ?_; rintro e w1 ⟨r, rfl, hr, he⟩)
    | (go_at_call 42; refine (nNum O _ _ (hO.ext (by (repeat (first | with_reducible exact Ext.refl _ | with_reducible assumption | refine Ext.trans ?_ (by with_reducible assumption) | refine Ext.alloc ?_ _ _ | refine Ext.drew ?_ | refine Ext.drewN ?_ _)))) (by first | decide | omega)).mono ?_; rintro e w1 ⟨r, rfl, hr, he⟩)
    | (go_at_call 154; refine (nMax O _ _ _ _ _ (NV.ext (by with_reducible assumption) (by (repeat (first | with_reducible exact Ext.refl _ | with_reducible assumption | refine Ext.trans ?_ (by with_reducible assumption) | refine Ext.alloc ?_ _ _ | refine Ext.drew ?_ | refine Ext.drewN ?_ _)))) (NV.ext (by with_reducible assumption) (by (repeat (first | with_reducible exact Ext.refl _ | with_reducible assumption | refine Ext.trans ?_ (by with_reducible assumption) | refine Ext.alloc ?_ _ _ | refine Ext.drew ?_ | refine Ext.drewN ?_ _))))).mono ?_; rintro e w1 ⟨r, rfl, hr, he⟩))
  all_goals go_ret
  all_goals first | refine ⟨r, rfl, NV.cast (NV.ext hr (by (repeat (first | with_reducible exact Ext.refl _ | with_reducible assumption | refine Ext.trans ?_ (by with_reducible assumption) | refine Ext.alloc ?_ _ _ | refine Ext.drew ?_ | refine Ext.drewN ?_ _)))) ?_, by (repeat (first | with_reducible exact Ext.refl _ | with_reducible assumption | refine Ext.trans ?_ (by with_reducible assumption) | refine Ext.alloc ?_ _ _ | refine Ext.drew ?_ | refine Ext.drewN ?_ _))⟩ | refine ⟨.slice none 0 0, rfl, NV.cast NV.nil ?_, by (repeat (first | with_reducible exact Ext.refl _ | with_reducible assumption | refine Ext.trans ?_ (by with_reducible assumption) | refine Ext.alloc ?_ _ _ | refine Ext.drew ?_ | refine Ext.drewN ?_ _))⟩
  all_goals (try simp only [beq_iff_eq, beq_eq_false_iff_ne, ne_eq, decide_eq_true_eq, decide_eq_false_iff_not] at *)
  all_goals unfold AFrame.reach
  all_goals repeat (first | rw [if_pos (by omega)] | rw [if_neg (by omega)])
set_option maxRecDepth 100000 in
set_option maxHeartbeats 6400000 in
theorem yWrites (hF : Blk w F n t d) (hf : YFC O TM w d q f) (hq : q + 60 ≤ n) (hok : FOK f) (o : Nat) (ho : o < 256) :
    Calls Hvah.prog 147 #[.pointer (some ⟨F, q, none⟩), .int .u8 o] w fun e w' => e = .returned (.bool (f.writes o)) ∧ Ext w w' := by
  have h256 : (o : Int) < 256 := by omega
  go_enter Hvah.func147, Hvah.ntmps147
  go_wp2_with (first
    | (go_at_call 73; refine (yArgF (hF.ext (by (repeat (first | with_reducible exact Ext.refl _ | with_reducible assumption | refine Ext.trans ?_ (by with_reducible assumption) | refine Ext.alloc ?_ _ _ | refine Ext.drew ?_ | refine Ext.drewN ?_ _)))) (hf.ext (by (repeat (first | with_reducible exact Ext.refl _ | with_reducible assumption | refine Ext.trans ?_ (by with_reducible assumption) | refine Ext.alloc ?_ _ _ | refine Ext.drew ?_ | refine Ext.drewN ?_ _)))) hq hok _ (by decide)).mono ?_; rintro e w1 ⟨r, rfl, hr, he⟩)
    | (go_at_call 88; refine (nIsZero O _ _ _ (NV.ext (by with_reducible assumption) (by (repeat (first | with_reducible exact Ext.refl _ | with_reducible assumption | refine Ext.trans ?_ (by with_reducible assumption) | refine Ext.alloc ?_ _ _ | refine Ext.drew ?_ | refine Ext.drewN ?_ _))))).mono ?_; rintro e w1 ⟨rfl, hdr⟩; have he := drew_ext hdr; clear hdr))
  all_goals go_ret
  all_goals refine ⟨ret_b ?_, by (repeat (first | with_reducible exact Ext.refl _ | with_reducible assumption | refine Ext.trans ?_ (by with_reducible assumption) | refine Ext.alloc ?_ _ _ | refine Ext.drew ?_ | refine Ext.drewN ?_ _))⟩
  all_goals (try simp only [beq_iff_eq, beq_eq_false_iff_ne, ne_eq, decide_eq_true_eq, decide_eq_false_iff_not] at *)
  all_goals rw [Bool.eq_iff_iff]
  all_goals (unfold AFrame.writes; simp only [Bool.or_eq_true, Bool.and_eq_true, beq_iff_eq, decide_eq_true_eq, Bool.not_eq_true', decide_eq_false_iff_not, true_iff, false_iff, Bool.false_eq_true])
  all_goals omega
end
end Go.Proofs.YgvahwGreat
