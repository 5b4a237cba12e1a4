import Derived.Test.YgvahwGreatSh
namespace Go.Proofs.YgvahwGreat
open Go.RowKit
set_option linter.unusedSimpArgs false
theorem ret_ir {k : IntKind} {x x' : Int} {v : Value} (h : x = x') : Ending.returned (.tuple #[.int k x, v]) = .returned (.tuple #[.int k x', v]) := by rw [h]
section
variable {st : ASt} {f : AFrame} {o : Nat}
theorem ref5 (h : famA o = 0) : st.refusal f o = 5 := by unfold ASt.refusal; rw [if_pos h]
theorem ref3 (h : famA o ≠ 0) (h2 : f.stack.length < takesA o) : st.refusal f o = 3 := by unfold ASt.refusal; rw [if_neg h, if_pos h2]
theorem ref4 (h : famA o ≠ 0) (h2 : takesA o ≤ f.stack.length) (h3 : 64 < f.stack.length - takesA o + givesA o) : st.refusal f o = 4 := by unfold ASt.refusal; rw [if_neg h, if_neg (by omega), if_pos h3]
theorem ref7 (h : famA o ≠ 0) (h2 : takesA o ≤ f.stack.length) (h3 : f.stack.length - takesA o + givesA o ≤ 64) (h4 : (f.static && f.writes o) = true) : st.refusal f o = 7 := by unfold ASt.refusal; rw [if_neg h, if_neg (by omega), if_neg (by omega), if_pos h4]
theorem ref9 (h : famA o ≠ 0) (h2 : takesA o ≤ f.stack.length) (h3 : f.stack.length - takesA o + givesA o ≤ 64) (h4 : (f.static && f.writes o) = false) (h5 : (o = 240 ∨ o = 245) ∧ 512 < f.arg 2) : st.refusal f o = 9 := by unfold ASt.refusal; rw [if_neg h, if_neg (by omega), if_neg (by omega), h4, if_neg (by decide), if_pos h5]
theorem ref8 (h : famA o ≠ 0) (h2 : takesA o ≤ f.stack.length) (h3 : f.stack.length - takesA o + givesA o ≤ 64) (h4 : (f.static && f.writes o) = false) (h5 : ¬ ((o = 240 ∨ o = 245) ∧ 512 < f.arg 2)) (h6 : o = 62 ∧ st.ret.length < f.arg 1 + f.arg 2) : st.refusal f o = 8 := by unfold ASt.refusal; rw [if_neg h, if_neg (by omega), if_neg (by omega), h4, if_neg (by decide), if_neg h5, if_pos h6]
theorem refB (hc : (famA o ≠ 0 ∧ takesA o ≤ f.stack.length ∧ f.stack.length - takesA o + givesA o ≤ 64 ∧ (f.static && f.writes o) = false ∧ ¬ ((o = 240 ∨ o = 245) ∧ 512 < f.arg 2) ∧ ¬ (o = 62 ∧ st.ret.length < f.arg 1 + f.arg 2))) : st.refusal f o = if f.gas < st.cost f o then 2 else if o = 85 ∧ f.gas ≤ 2300 then 2 else if (o = 86 ∨ (o = 87 ∧ f.arg 1 ≠ 0)) ∧ isDestA f.code (f.arg 0) = false then 6 else 0 := by
  obtain ⟨h, h2, h3, h4, h5, h6⟩ := hc
  unfold ASt.refusal
  rw [if_neg h, if_neg (by omega), if_neg (by omega), h4, if_neg (by decide), if_neg h5, if_neg h6]
end
theorem takes_le (o : Nat) : takesA o ≤ 17 := by
  unfold takesA
  repeat' (with_reducible refine ite_le (fun _ => ?_) (fun _ => ?_))
  all_goals omega
theorem gives_le (o : Nat) : givesA o ≤ 17 := by
  unfold givesA
  repeat' (with_reducible refine ite_le (fun _ => ?_) (fun _ => ?_))
  all_goals omega
theorem one4 : OneT 4 := oneT_of (by kernel_rfl) (by kernel_rfl)
theorem one145 : OneT 154 := oneT_of (by kernel_rfl) (by kernel_rfl)
section
variable {O TM TL : Nat → Prop} {w : World} {Y F q n : Nat} {tF : TypeId} {c d : Nat → Value} {W : YW} {start : List (Nat × Nat × Nat)} {st : ASt} {f : AFrame}
end
end Go.Proofs.YgvahwGreat
