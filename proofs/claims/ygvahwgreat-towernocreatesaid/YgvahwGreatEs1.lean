import Derived.Test.YgvahwGreatEs0
import Derived.Test.YgvahwGreatMachF
import Derived.Test.YgvahwGreatMachH
import Derived.Test.YgvahwGreatMachI
import Derived.Test.YgvahwGreatMachJ
import Derived.Test.YgvahwGreatMachK
import Derived.Test.YgvahwGreatPn
import Derived.Test.YgvahwGreatMw
import Derived.Test.YgvahwGreatMr
import Derived.Test.YgvahwGreatMy
namespace Go.Proofs.YgvahwGreat
open Go.RowKit
set_option linter.unusedSimpArgs false
set_option linter.unusedVariables false
section
variable {T A0 S0 B : Nat} {own : Nat → Nat} {w : World} {g : Nat} {c : Nat → Value} {V : EV} {st : ASt} {sn stale : List Nat} {s : Nat} {f : AFrame} {rest : List AFrame}
theorem ex_1 (x : XC T A0 S0 B own w g c V st s sn stale f rest 1) : Calls Hvah.prog 198 #[.pointer (some ⟨g, 0, none⟩)] w fun e w' => e = .returned (.tuple #[]) ∧ XO A0 S0 B own w g (st.stepF f rest) w' := by
  refine (mOp190_1 x.h rfl x.hph x.op (by have := x.tk; have e : takesA 1 = 2 := rfl; omega) x.pc).mono ?_
  rintro e w' ⟨rfl, c', h', k'⟩
  exact ⟨rfl, x.fin0 (by decide) (by decide) (by decide) (by decide) (by decide) h' k' (by unfold ASt.plain ASt.value; simp [show givesA 1 = 1 from rfl, show takesA 1 = 2 from rfl, show famA 1 = 1 from rfl, show immA 1 = 0 from rfl, ASt.valueWorld])⟩
theorem ex_2 (x : XC T A0 S0 B own w g c V st s sn stale f rest 2) : Calls Hvah.prog 198 #[.pointer (some ⟨g, 0, none⟩)] w fun e w' => e = .returned (.tuple #[]) ∧ XO A0 S0 B own w g (st.stepF f rest) w' := by
  refine (mOp190_2 x.h rfl x.hph x.op (by have := x.tk; have e : takesA 2 = 2 := rfl; omega) x.pc).mono ?_
  rintro e w' ⟨rfl, c', h', k'⟩
  exact ⟨rfl, x.fin0 (by decide) (by decide) (by decide) (by decide) (by decide) h' k' (by unfold ASt.plain ASt.value; simp [show givesA 2 = 1 from rfl, show takesA 2 = 2 from rfl, show famA 2 = 1 from rfl, show immA 2 = 0 from rfl, ASt.valueWorld])⟩
theorem ex_3 (x : XC T A0 S0 B own w g c V st s sn stale f rest 3) : Calls Hvah.prog 198 #[.pointer (some ⟨g, 0, none⟩)] w fun e w' => e = .returned (.tuple #[]) ∧ XO A0 S0 B own w g (st.stepF f rest) w' := by
  refine (mOp190_3 x.h rfl x.hph x.op (by have := x.tk; have e : takesA 3 = 2 := rfl; omega) x.pc).mono ?_
  rintro e w' ⟨rfl, c', h', k'⟩
  exact ⟨rfl, x.fin0 (by decide) (by decide) (by decide) (by decide) (by decide) h' k' (by unfold ASt.plain ASt.value; simp [show givesA 3 = 1 from rfl, show takesA 3 = 2 from rfl, show famA 3 = 1 from rfl, show immA 3 = 0 from rfl, ASt.valueWorld])⟩
theorem ex_4 (x : XC T A0 S0 B own w g c V st s sn stale f rest 4) : Calls Hvah.prog 198 #[.pointer (some ⟨g, 0, none⟩)] w fun e w' => e = .returned (.tuple #[]) ∧ XO A0 S0 B own w g (st.stepF f rest) w' := by
  refine (mOp190_4 x.h rfl x.hph x.op (by have := x.tk; have e : takesA 4 = 2 := rfl; omega) x.pc).mono ?_
  rintro e w' ⟨rfl, c', h', k'⟩
  exact ⟨rfl, x.fin0 (by decide) (by decide) (by decide) (by decide) (by decide) h' k' (by unfold ASt.plain ASt.value; simp [show givesA 4 = 1 from rfl, show takesA 4 = 2 from rfl, show famA 4 = 1 from rfl, show immA 4 = 0 from rfl, ASt.valueWorld])⟩
theorem ex_5 (x : XC T A0 S0 B own w g c V st s sn stale f rest 5) : Calls Hvah.prog 198 #[.pointer (some ⟨g, 0, none⟩)] w fun e w' => e = .returned (.tuple #[]) ∧ XO A0 S0 B own w g (st.stepF f rest) w' := by
  refine (mOp190_5 x.h rfl x.hph x.op (by have := x.tk; have e : takesA 5 = 2 := rfl; omega) x.pc).mono ?_
  rintro e w' ⟨rfl, c', h', k'⟩
  exact ⟨rfl, x.fin0 (by decide) (by decide) (by decide) (by decide) (by decide) h' k' (by unfold ASt.plain ASt.value; simp [show givesA 5 = 1 from rfl, show takesA 5 = 2 from rfl, show famA 5 = 1 from rfl, show immA 5 = 0 from rfl, ASt.valueWorld])⟩
theorem ex_6 (x : XC T A0 S0 B own w g c V st s sn stale f rest 6) : Calls Hvah.prog 198 #[.pointer (some ⟨g, 0, none⟩)] w fun e w' => e = .returned (.tuple #[]) ∧ XO A0 S0 B own w g (st.stepF f rest) w' := by
  refine (mOp190_6 x.h rfl x.hph x.op (by have := x.tk; have e : takesA 6 = 2 := rfl; omega) x.pc).mono ?_
  rintro e w' ⟨rfl, c', h', k'⟩
  exact ⟨rfl, x.fin0 (by decide) (by decide) (by decide) (by decide) (by decide) h' k' (by unfold ASt.plain ASt.value; simp [show givesA 6 = 1 from rfl, show takesA 6 = 2 from rfl, show famA 6 = 1 from rfl, show immA 6 = 0 from rfl, ASt.valueWorld])⟩
theorem ex_7 (x : XC T A0 S0 B own w g c V st s sn stale f rest 7) : Calls Hvah.prog 198 #[.pointer (some ⟨g, 0, none⟩)] w fun e w' => e = .returned (.tuple #[]) ∧ XO A0 S0 B own w g (st.stepF f rest) w' := by
  refine (mOp190_7 x.h rfl x.hph x.op (by have := x.tk; have e : takesA 7 = 2 := rfl; omega) x.pc).mono ?_
  rintro e w' ⟨rfl, c', h', k'⟩
  exact ⟨rfl, x.fin0 (by decide) (by decide) (by decide) (by decide) (by decide) h' k' (by unfold ASt.plain ASt.value; simp [show givesA 7 = 1 from rfl, show takesA 7 = 2 from rfl, show famA 7 = 1 from rfl, show immA 7 = 0 from rfl, ASt.valueWorld])⟩
theorem ex_10 (x : XC T A0 S0 B own w g c V st s sn stale f rest 10) : Calls Hvah.prog 198 #[.pointer (some ⟨g, 0, none⟩)] w fun e w' => e = .returned (.tuple #[]) ∧ XO A0 S0 B own w g (st.stepF f rest) w' := by
  refine (mOp190_10 x.h rfl x.hph x.op (by have := x.tk; have e : takesA 10 = 2 := rfl; omega) x.pc).mono ?_
  rintro e w' ⟨rfl, c', h', k'⟩
  exact ⟨rfl, x.fin0 (by decide) (by decide) (by decide) (by decide) (by decide) h' k' (by unfold ASt.plain ASt.value; simp [show givesA 10 = 1 from rfl, show takesA 10 = 2 from rfl, show famA 10 = 1 from rfl, show immA 10 = 0 from rfl, ASt.valueWorld])⟩
theorem ex_11 (x : XC T A0 S0 B own w g c V st s sn stale f rest 11) : Calls Hvah.prog 198 #[.pointer (some ⟨g, 0, none⟩)] w fun e w' => e = .returned (.tuple #[]) ∧ XO A0 S0 B own w g (st.stepF f rest) w' := by
  refine (mOp190_11 x.h rfl x.hph x.op (by have := x.tk; have e : takesA 11 = 2 := rfl; omega) x.pc).mono ?_
  rintro e w' ⟨rfl, c', h', k'⟩
  exact ⟨rfl, x.fin0 (by decide) (by decide) (by decide) (by decide) (by decide) h' k' (by unfold ASt.plain ASt.value; simp [show givesA 11 = 1 from rfl, show takesA 11 = 2 from rfl, show famA 11 = 1 from rfl, show immA 11 = 0 from rfl, ASt.valueWorld])⟩
theorem ex_8 (x : XC T A0 S0 B own w g c V st s sn stale f rest 8) : Calls Hvah.prog 198 #[.pointer (some ⟨g, 0, none⟩)] w fun e w' => e = .returned (.tuple #[]) ∧ XO A0 S0 B own w g (st.stepF f rest) w' := by
  refine (mOp190_8 x.h rfl x.hph x.op (by have := x.tk; have e : takesA 8 = 3 := rfl; omega) x.pc).mono ?_
  rintro e w' ⟨rfl, c', h', k'⟩
  exact ⟨rfl, x.fin0 (by decide) (by decide) (by decide) (by decide) (by decide) h' k' (by unfold ASt.plain ASt.value; simp [show givesA 8 = 1 from rfl, show takesA 8 = 3 from rfl, show famA 8 = 1 from rfl, show immA 8 = 0 from rfl, ASt.valueWorld])⟩
theorem ex_9 (x : XC T A0 S0 B own w g c V st s sn stale f rest 9) : Calls Hvah.prog 198 #[.pointer (some ⟨g, 0, none⟩)] w fun e w' => e = .returned (.tuple #[]) ∧ XO A0 S0 B own w g (st.stepF f rest) w' := by
  refine (mOp190_9 x.h rfl x.hph x.op (by have := x.tk; have e : takesA 9 = 3 := rfl; omega) x.pc).mono ?_
  rintro e w' ⟨rfl, c', h', k'⟩
  exact ⟨rfl, x.fin0 (by decide) (by decide) (by decide) (by decide) (by decide) h' k' (by unfold ASt.plain ASt.value; simp [show givesA 9 = 1 from rfl, show takesA 9 = 3 from rfl, show famA 9 = 1 from rfl, show immA 9 = 0 from rfl, ASt.valueWorld])⟩
theorem ex_16 (x : XC T A0 S0 B own w g c V st s sn stale f rest 16) : Calls Hvah.prog 199 #[.pointer (some ⟨g, 0, none⟩)] w fun e w' => e = .returned (.tuple #[]) ∧ XO A0 S0 B own w g (st.stepF f rest) w' := by
  refine (mOp191_16 x.h rfl x.hph x.op (by have := x.tk; have e : takesA 16 = 2 := rfl; omega) x.pc).mono ?_
  rintro e w' ⟨rfl, c', h', k'⟩
  exact ⟨rfl, x.fin0 (by decide) (by decide) (by decide) (by decide) (by decide) h' k' (by unfold ASt.plain ASt.value; simp [show givesA 16 = 1 from rfl, show takesA 16 = 2 from rfl, show famA 16 = 1 from rfl, show immA 16 = 0 from rfl, ASt.valueWorld])⟩
theorem ex_17 (x : XC T A0 S0 B own w g c V st s sn stale f rest 17) : Calls Hvah.prog 199 #[.pointer (some ⟨g, 0, none⟩)] w fun e w' => e = .returned (.tuple #[]) ∧ XO A0 S0 B own w g (st.stepF f rest) w' := by
  refine (mOp191_17 x.h rfl x.hph x.op (by have := x.tk; have e : takesA 17 = 2 := rfl; omega) x.pc).mono ?_
  rintro e w' ⟨rfl, c', h', k'⟩
  exact ⟨rfl, x.fin0 (by decide) (by decide) (by decide) (by decide) (by decide) h' k' (by unfold ASt.plain ASt.value; simp [show givesA 17 = 1 from rfl, show takesA 17 = 2 from rfl, show famA 17 = 1 from rfl, show immA 17 = 0 from rfl, ASt.valueWorld])⟩
theorem ex_18 (x : XC T A0 S0 B own w g c V st s sn stale f rest 18) : Calls Hvah.prog 199 #[.pointer (some ⟨g, 0, none⟩)] w fun e w' => e = .returned (.tuple #[]) ∧ XO A0 S0 B own w g (st.stepF f rest) w' := by
  refine (mOp191_18 x.h rfl x.hph x.op (by have := x.tk; have e : takesA 18 = 2 := rfl; omega) x.pc).mono ?_
  rintro e w' ⟨rfl, c', h', k'⟩
  exact ⟨rfl, x.fin0 (by decide) (by decide) (by decide) (by decide) (by decide) h' k' (by unfold ASt.plain ASt.value; simp [show givesA 18 = 1 from rfl, show takesA 18 = 2 from rfl, show famA 18 = 1 from rfl, show immA 18 = 0 from rfl, ASt.valueWorld])⟩
theorem ex_19 (x : XC T A0 S0 B own w g c V st s sn stale f rest 19) : Calls Hvah.prog 199 #[.pointer (some ⟨g, 0, none⟩)] w fun e w' => e = .returned (.tuple #[]) ∧ XO A0 S0 B own w g (st.stepF f rest) w' := by
  refine (mOp191_19 x.h rfl x.hph x.op (by have := x.tk; have e : takesA 19 = 2 := rfl; omega) x.pc).mono ?_
  rintro e w' ⟨rfl, c', h', k'⟩
  exact ⟨rfl, x.fin0 (by decide) (by decide) (by decide) (by decide) (by decide) h' k' (by unfold ASt.plain ASt.value; simp [show givesA 19 = 1 from rfl, show takesA 19 = 2 from rfl, show famA 19 = 1 from rfl, show immA 19 = 0 from rfl, ASt.valueWorld])⟩
theorem ex_20 (x : XC T A0 S0 B own w g c V st s sn stale f rest 20) : Calls Hvah.prog 199 #[.pointer (some ⟨g, 0, none⟩)] w fun e w' => e = .returned (.tuple #[]) ∧ XO A0 S0 B own w g (st.stepF f rest) w' := by
  refine (mOp191_20 x.h rfl x.hph x.op (by have := x.tk; have e : takesA 20 = 2 := rfl; omega) x.pc).mono ?_
  rintro e w' ⟨rfl, c', h', k'⟩
  exact ⟨rfl, x.fin0 (by decide) (by decide) (by decide) (by decide) (by decide) h' k' (by unfold ASt.plain ASt.value; simp [show givesA 20 = 1 from rfl, show takesA 20 = 2 from rfl, show famA 20 = 1 from rfl, show immA 20 = 0 from rfl, ASt.valueWorld])⟩
theorem ex_21 (x : XC T A0 S0 B own w g c V st s sn stale f rest 21) : Calls Hvah.prog 199 #[.pointer (some ⟨g, 0, none⟩)] w fun e w' => e = .returned (.tuple #[]) ∧ XO A0 S0 B own w g (st.stepF f rest) w' := by
  refine (mOp191_21 x.h rfl x.hph x.op (by have := x.tk; have e : takesA 21 = 1 := rfl; omega) x.pc).mono ?_
  rintro e w' ⟨rfl, c', h', k'⟩
  exact ⟨rfl, x.fin0 (by decide) (by decide) (by decide) (by decide) (by decide) h' k' (by unfold ASt.plain ASt.value; simp [show givesA 21 = 1 from rfl, show takesA 21 = 1 from rfl, show famA 21 = 1 from rfl, show immA 21 = 0 from rfl, ASt.valueWorld])⟩
theorem ex_22 (x : XC T A0 S0 B own w g c V st s sn stale f rest 22) : Calls Hvah.prog 200 #[.pointer (some ⟨g, 0, none⟩)] w fun e w' => e = .returned (.tuple #[]) ∧ XO A0 S0 B own w g (st.stepF f rest) w' := by
  refine (mOp192_22 x.h rfl x.hph x.op (by have := x.tk; have e : takesA 22 = 2 := rfl; omega) x.pc).mono ?_
  rintro e w' ⟨rfl, c', h', k'⟩
  exact ⟨rfl, x.fin0 (by decide) (by decide) (by decide) (by decide) (by decide) h' k' (by unfold ASt.plain ASt.value; simp [show givesA 22 = 1 from rfl, show takesA 22 = 2 from rfl, show famA 22 = 1 from rfl, show immA 22 = 0 from rfl, ASt.valueWorld])⟩
theorem ex_23 (x : XC T A0 S0 B own w g c V st s sn stale f rest 23) : Calls Hvah.prog 200 #[.pointer (some ⟨g, 0, none⟩)] w fun e w' => e = .returned (.tuple #[]) ∧ XO A0 S0 B own w g (st.stepF f rest) w' := by
  refine (mOp192_23 x.h rfl x.hph x.op (by have := x.tk; have e : takesA 23 = 2 := rfl; omega) x.pc).mono ?_
  rintro e w' ⟨rfl, c', h', k'⟩
  exact ⟨rfl, x.fin0 (by decide) (by decide) (by decide) (by decide) (by decide) h' k' (by unfold ASt.plain ASt.value; simp [show givesA 23 = 1 from rfl, show takesA 23 = 2 from rfl, show famA 23 = 1 from rfl, show immA 23 = 0 from rfl, ASt.valueWorld])⟩
theorem ex_24 (x : XC T A0 S0 B own w g c V st s sn stale f rest 24) : Calls Hvah.prog 200 #[.pointer (some ⟨g, 0, none⟩)] w fun e w' => e = .returned (.tuple #[]) ∧ XO A0 S0 B own w g (st.stepF f rest) w' := by
  refine (mOp192_24 x.h rfl x.hph x.op (by have := x.tk; have e : takesA 24 = 2 := rfl; omega) x.pc).mono ?_
  rintro e w' ⟨rfl, c', h', k'⟩
  exact ⟨rfl, x.fin0 (by decide) (by decide) (by decide) (by decide) (by decide) h' k' (by unfold ASt.plain ASt.value; simp [show givesA 24 = 1 from rfl, show takesA 24 = 2 from rfl, show famA 24 = 1 from rfl, show immA 24 = 0 from rfl, ASt.valueWorld])⟩
theorem ex_26 (x : XC T A0 S0 B own w g c V st s sn stale f rest 26) : Calls Hvah.prog 200 #[.pointer (some ⟨g, 0, none⟩)] w fun e w' => e = .returned (.tuple #[]) ∧ XO A0 S0 B own w g (st.stepF f rest) w' := by
  refine (mOp192_26 x.h rfl x.hph x.op (by have := x.tk; have e : takesA 26 = 2 := rfl; omega) x.pc).mono ?_
  rintro e w' ⟨rfl, c', h', k'⟩
  exact ⟨rfl, x.fin0 (by decide) (by decide) (by decide) (by decide) (by decide) h' k' (by unfold ASt.plain ASt.value; simp [show givesA 26 = 1 from rfl, show takesA 26 = 2 from rfl, show famA 26 = 1 from rfl, show immA 26 = 0 from rfl, ASt.valueWorld])⟩
theorem ex_27 (x : XC T A0 S0 B own w g c V st s sn stale f rest 27) : Calls Hvah.prog 200 #[.pointer (some ⟨g, 0, none⟩)] w fun e w' => e = .returned (.tuple #[]) ∧ XO A0 S0 B own w g (st.stepF f rest) w' := by
  refine (mOp192_27 x.h rfl x.hph x.op (by have := x.tk; have e : takesA 27 = 2 := rfl; omega) x.pc).mono ?_
  rintro e w' ⟨rfl, c', h', k'⟩
  exact ⟨rfl, x.fin0 (by decide) (by decide) (by decide) (by decide) (by decide) h' k' (by unfold ASt.plain ASt.value; simp [show givesA 27 = 1 from rfl, show takesA 27 = 2 from rfl, show famA 27 = 1 from rfl, show immA 27 = 0 from rfl, ASt.valueWorld])⟩
theorem ex_28 (x : XC T A0 S0 B own w g c V st s sn stale f rest 28) : Calls Hvah.prog 200 #[.pointer (some ⟨g, 0, none⟩)] w fun e w' => e = .returned (.tuple #[]) ∧ XO A0 S0 B own w g (st.stepF f rest) w' := by
  refine (mOp192_28 x.h rfl x.hph x.op (by have := x.tk; have e : takesA 28 = 2 := rfl; omega) x.pc).mono ?_
  rintro e w' ⟨rfl, c', h', k'⟩
  exact ⟨rfl, x.fin0 (by decide) (by decide) (by decide) (by decide) (by decide) h' k' (by unfold ASt.plain ASt.value; simp [show givesA 28 = 1 from rfl, show takesA 28 = 2 from rfl, show famA 28 = 1 from rfl, show immA 28 = 0 from rfl, ASt.valueWorld])⟩
theorem ex_29 (x : XC T A0 S0 B own w g c V st s sn stale f rest 29) : Calls Hvah.prog 200 #[.pointer (some ⟨g, 0, none⟩)] w fun e w' => e = .returned (.tuple #[]) ∧ XO A0 S0 B own w g (st.stepF f rest) w' := by
  refine (mOp192_29 x.h rfl x.hph x.op (by have := x.tk; have e : takesA 29 = 2 := rfl; omega) x.pc).mono ?_
  rintro e w' ⟨rfl, c', h', k'⟩
  exact ⟨rfl, x.fin0 (by decide) (by decide) (by decide) (by decide) (by decide) h' k' (by unfold ASt.plain ASt.value; simp [show givesA 29 = 1 from rfl, show takesA 29 = 2 from rfl, show famA 29 = 1 from rfl, show immA 29 = 0 from rfl, ASt.valueWorld])⟩
theorem ex_25 (x : XC T A0 S0 B own w g c V st s sn stale f rest 25) : Calls Hvah.prog 200 #[.pointer (some ⟨g, 0, none⟩)] w fun e w' => e = .returned (.tuple #[]) ∧ XO A0 S0 B own w g (st.stepF f rest) w' := by
  refine (mOp192_25 x.h rfl x.hph x.op (by have := x.tk; have e : takesA 25 = 1 := rfl; omega) x.pc).mono ?_
  rintro e w' ⟨rfl, c', h', k'⟩
  exact ⟨rfl, x.fin0 (by decide) (by decide) (by decide) (by decide) (by decide) h' k' (by unfold ASt.plain ASt.value; simp [show givesA 25 = 1 from rfl, show takesA 25 = 1 from rfl, show famA 25 = 1 from rfl, show immA 25 = 0 from rfl, ASt.valueWorld])⟩
theorem ex_48 (x : XC T A0 S0 B own w g c V st s sn stale f rest 48) : Calls Hvah.prog 203 #[.pointer (some ⟨g, 0, none⟩)] w fun e w' => e = .returned (.tuple #[]) ∧ XO A0 S0 B own w g (st.stepF f rest) w' := by
  refine (mOpSur48 x.h rfl x.hph x.op (by have := x.gv; have e : takesA 48 = 0 := rfl; have e2 : givesA 48 = 1 := rfl; omega) x.pc).mono ?_
  rintro e w' ⟨rfl, c', h', k'⟩
  exact ⟨rfl, x.fin0 (by decide) (by decide) (by decide) (by decide) (by decide) h' k' rfl⟩
theorem ex_50 (x : XC T A0 S0 B own w g c V st s sn stale f rest 50) : Calls Hvah.prog 203 #[.pointer (some ⟨g, 0, none⟩)] w fun e w' => e = .returned (.tuple #[]) ∧ XO A0 S0 B own w g (st.stepF f rest) w' := by
  refine (mOpSur50 x.h rfl x.hph x.op (by have := x.gv; have e : takesA 50 = 0 := rfl; have e2 : givesA 50 = 1 := rfl; omega) x.pc).mono ?_
  rintro e w' ⟨rfl, c', h', k'⟩
  exact ⟨rfl, x.fin0 (by decide) (by decide) (by decide) (by decide) (by decide) h' k' rfl⟩
theorem ex_51 (x : XC T A0 S0 B own w g c V st s sn stale f rest 51) : Calls Hvah.prog 203 #[.pointer (some ⟨g, 0, none⟩)] w fun e w' => e = .returned (.tuple #[]) ∧ XO A0 S0 B own w g (st.stepF f rest) w' := by
  refine (mOpSur51 x.h rfl x.hph x.op (by have := x.gv; have e : takesA 51 = 0 := rfl; have e2 : givesA 51 = 1 := rfl; omega) x.pc).mono ?_
  rintro e w' ⟨rfl, c', h', k'⟩
  exact ⟨rfl, x.fin0 (by decide) (by decide) (by decide) (by decide) (by decide) h' k' rfl⟩
theorem ex_52 (x : XC T A0 S0 B own w g c V st s sn stale f rest 52) : Calls Hvah.prog 203 #[.pointer (some ⟨g, 0, none⟩)] w fun e w' => e = .returned (.tuple #[]) ∧ XO A0 S0 B own w g (st.stepF f rest) w' := by
  refine (mOpSur52 x.h rfl x.hph x.op (by have := x.gv; have e : takesA 52 = 0 := rfl; have e2 : givesA 52 = 1 := rfl; omega) x.pc).mono ?_
  rintro e w' ⟨rfl, c', h', k'⟩
  exact ⟨rfl, x.fin0 (by decide) (by decide) (by decide) (by decide) (by decide) h' k' rfl⟩
theorem ex_54 (x : XC T A0 S0 B own w g c V st s sn stale f rest 54) : Calls Hvah.prog 203 #[.pointer (some ⟨g, 0, none⟩)] w fun e w' => e = .returned (.tuple #[]) ∧ XO A0 S0 B own w g (st.stepF f rest) w' := by
  refine (mOpSur54 x.h rfl x.hph x.op (by have := x.gv; have e : takesA 54 = 0 := rfl; have e2 : givesA 54 = 1 := rfl; omega) x.pc).mono ?_
  rintro e w' ⟨rfl, c', h', k'⟩
  exact ⟨rfl, x.fin0 (by decide) (by decide) (by decide) (by decide) (by decide) h' k' rfl⟩
theorem ex_56 (x : XC T A0 S0 B own w g c V st s sn stale f rest 56) : Calls Hvah.prog 203 #[.pointer (some ⟨g, 0, none⟩)] w fun e w' => e = .returned (.tuple #[]) ∧ XO A0 S0 B own w g (st.stepF f rest) w' := by
  refine (mOpSur56 x.h rfl x.hph x.op (by have := x.gv; have e : takesA 56 = 0 := rfl; have e2 : givesA 56 = 1 := rfl; omega) x.pc).mono ?_
  rintro e w' ⟨rfl, c', h', k'⟩
  exact ⟨rfl, x.fin0 (by decide) (by decide) (by decide) (by decide) (by decide) h' k' rfl⟩
theorem ex_58 (x : XC T A0 S0 B own w g c V st s sn stale f rest 58) : Calls Hvah.prog 203 #[.pointer (some ⟨g, 0, none⟩)] w fun e w' => e = .returned (.tuple #[]) ∧ XO A0 S0 B own w g (st.stepF f rest) w' := by
  refine (mOpSur58 x.h rfl x.hph x.op (by have := x.gv; have e : takesA 58 = 0 := rfl; have e2 : givesA 58 = 1 := rfl; omega) x.pc).mono ?_
  rintro e w' ⟨rfl, c', h', k'⟩
  exact ⟨rfl, x.fin0 (by decide) (by decide) (by decide) (by decide) (by decide) h' k' rfl⟩
theorem ex_61 (x : XC T A0 S0 B own w g c V st s sn stale f rest 61) : Calls Hvah.prog 203 #[.pointer (some ⟨g, 0, none⟩)] w fun e w' => e = .returned (.tuple #[]) ∧ XO A0 S0 B own w g (st.stepF f rest) w' := by
  refine (mOpSur61 x.h rfl x.hph x.op (by have := x.gv; have e : takesA 61 = 0 := rfl; have e2 : givesA 61 = 1 := rfl; omega) x.pc).mono ?_
  rintro e w' ⟨rfl, c', h', k'⟩
  exact ⟨rfl, x.fin0 (by decide) (by decide) (by decide) (by decide) (by decide) h' k' rfl⟩
theorem ex_71 (x : XC T A0 S0 B own w g c V st s sn stale f rest 71) : Calls Hvah.prog 203 #[.pointer (some ⟨g, 0, none⟩)] w fun e w' => e = .returned (.tuple #[]) ∧ XO A0 S0 B own w g (st.stepF f rest) w' := by
  refine (mOpSur71 x.h rfl x.hph x.op (by have := x.gv; have e : takesA 71 = 0 := rfl; have e2 : givesA 71 = 1 := rfl; omega) x.pc).mono ?_
  rintro e w' ⟨rfl, c', h', k'⟩
  exact ⟨rfl, x.fin0 (by decide) (by decide) (by decide) (by decide) (by decide) h' k' rfl⟩
theorem ex_88 (x : XC T A0 S0 B own w g c V st s sn stale f rest 88) : Calls Hvah.prog 203 #[.pointer (some ⟨g, 0, none⟩)] w fun e w' => e = .returned (.tuple #[]) ∧ XO A0 S0 B own w g (st.stepF f rest) w' := by
  refine (mOpSur88 x.h rfl x.hph x.op (by have := x.gv; have e : takesA 88 = 0 := rfl; have e2 : givesA 88 = 1 := rfl; omega) x.pc).mono ?_
  rintro e w' ⟨rfl, c', h', k'⟩
  exact ⟨rfl, x.fin0 (by decide) (by decide) (by decide) (by decide) (by decide) h' k' rfl⟩
theorem ex_89 (x : XC T A0 S0 B own w g c V st s sn stale f rest 89) : Calls Hvah.prog 203 #[.pointer (some ⟨g, 0, none⟩)] w fun e w' => e = .returned (.tuple #[]) ∧ XO A0 S0 B own w g (st.stepF f rest) w' := by
  refine (mOpSur89 x.h rfl x.hph x.op (by have := x.gv; have e : takesA 89 = 0 := rfl; have e2 : givesA 89 = 1 := rfl; omega) x.pc).mono ?_
  rintro e w' ⟨rfl, c', h', k'⟩
  exact ⟨rfl, x.fin0 (by decide) (by decide) (by decide) (by decide) (by decide) h' k' rfl⟩
theorem ex_90 (x : XC T A0 S0 B own w g c V st s sn stale f rest 90) : Calls Hvah.prog 203 #[.pointer (some ⟨g, 0, none⟩)] w fun e w' => e = .returned (.tuple #[]) ∧ XO A0 S0 B own w g (st.stepF f rest) w' := by
  refine (mOpSur90 x.h rfl x.hph x.op (by have := x.gv; have e : takesA 90 = 0 := rfl; have e2 : givesA 90 = 1 := rfl; omega) x.pc).mono ?_
  rintro e w' ⟨rfl, c', h', k'⟩
  exact ⟨rfl, x.fin0 (by decide) (by decide) (by decide) (by decide) (by decide) h' k' rfl⟩
theorem ex_53 (x : XC T A0 S0 B own w g c V st s sn stale f rest 53) : Calls Hvah.prog 203 #[.pointer (some ⟨g, 0, none⟩)] w fun e w' => e = .returned (.tuple #[]) ∧ XO A0 S0 B own w g (st.stepF f rest) w' := by
  refine (mOpSur53 x.h rfl x.hph x.op (by have := x.tk; have e : takesA 53 = 1 := rfl; omega) x.pc).mono ?_
  rintro e w' ⟨rfl, c', h', k'⟩
  exact ⟨rfl, x.fin0 (by decide) (by decide) (by decide) (by decide) (by decide) h' k' rfl⟩
theorem ex_65 (x : XC T A0 S0 B own w g c V st s sn stale f rest 65) : Calls Hvah.prog 205 #[.pointer (some ⟨g, 0, none⟩)] w fun e w' => e = .returned (.tuple #[]) ∧ XO A0 S0 B own w g (st.stepF f rest) w' := by
  refine (mOpBlock65 x.h rfl x.hph x.op (by have := x.gv; have e : takesA 65 = 0 := rfl; have e2 : givesA 65 = 1 := rfl; omega) x.pc).mono ?_
  rintro e w' ⟨rfl, c', h', k'⟩
  exact ⟨rfl, x.fin0 (by decide) (by decide) (by decide) (by decide) (by decide) h' k' rfl⟩
theorem ex_66 (x : XC T A0 S0 B own w g c V st s sn stale f rest 66) : Calls Hvah.prog 205 #[.pointer (some ⟨g, 0, none⟩)] w fun e w' => e = .returned (.tuple #[]) ∧ XO A0 S0 B own w g (st.stepF f rest) w' := by
  refine (mOpBlock66 x.h rfl x.hph x.op (by have := x.gv; have e : takesA 66 = 0 := rfl; have e2 : givesA 66 = 1 := rfl; omega) x.pc).mono ?_
  rintro e w' ⟨rfl, c', h', k'⟩
  exact ⟨rfl, x.fin0 (by decide) (by decide) (by decide) (by decide) (by decide) h' k' rfl⟩
theorem ex_67 (x : XC T A0 S0 B own w g c V st s sn stale f rest 67) : Calls Hvah.prog 205 #[.pointer (some ⟨g, 0, none⟩)] w fun e w' => e = .returned (.tuple #[]) ∧ XO A0 S0 B own w g (st.stepF f rest) w' := by
  refine (mOpBlock67 x.h rfl x.hph x.op (by have := x.gv; have e : takesA 67 = 0 := rfl; have e2 : givesA 67 = 1 := rfl; omega) x.pc).mono ?_
  rintro e w' ⟨rfl, c', h', k'⟩
  exact ⟨rfl, x.fin0 (by decide) (by decide) (by decide) (by decide) (by decide) h' k' rfl⟩
theorem ex_68 (x : XC T A0 S0 B own w g c V st s sn stale f rest 68) : Calls Hvah.prog 205 #[.pointer (some ⟨g, 0, none⟩)] w fun e w' => e = .returned (.tuple #[]) ∧ XO A0 S0 B own w g (st.stepF f rest) w' := by
  refine (mOpBlock68 x.h rfl x.hph x.op (by have := x.gv; have e : takesA 68 = 0 := rfl; have e2 : givesA 68 = 1 := rfl; omega) x.pc).mono ?_
  rintro e w' ⟨rfl, c', h', k'⟩
  exact ⟨rfl, x.fin0 (by decide) (by decide) (by decide) (by decide) (by decide) h' k' rfl⟩
theorem ex_69 (x : XC T A0 S0 B own w g c V st s sn stale f rest 69) : Calls Hvah.prog 205 #[.pointer (some ⟨g, 0, none⟩)] w fun e w' => e = .returned (.tuple #[]) ∧ XO A0 S0 B own w g (st.stepF f rest) w' := by
  refine (mOpBlock69 x.h rfl x.hph x.op (by have := x.gv; have e : takesA 69 = 0 := rfl; have e2 : givesA 69 = 1 := rfl; omega) x.pc).mono ?_
  rintro e w' ⟨rfl, c', h', k'⟩
  exact ⟨rfl, x.fin0 (by decide) (by decide) (by decide) (by decide) (by decide) h' k' rfl⟩
theorem ex_70 (x : XC T A0 S0 B own w g c V st s sn stale f rest 70) : Calls Hvah.prog 205 #[.pointer (some ⟨g, 0, none⟩)] w fun e w' => e = .returned (.tuple #[]) ∧ XO A0 S0 B own w g (st.stepF f rest) w' := by
  refine (mOpBlock70 x.h rfl x.hph x.op (by have := x.gv; have e : takesA 70 = 0 := rfl; have e2 : givesA 70 = 1 := rfl; omega) x.pc).mono ?_
  rintro e w' ⟨rfl, c', h', k'⟩
  exact ⟨rfl, x.fin0 (by decide) (by decide) (by decide) (by decide) (by decide) h' k' rfl⟩
theorem ex_72 (x : XC T A0 S0 B own w g c V st s sn stale f rest 72) : Calls Hvah.prog 205 #[.pointer (some ⟨g, 0, none⟩)] w fun e w' => e = .returned (.tuple #[]) ∧ XO A0 S0 B own w g (st.stepF f rest) w' := by
  refine (mOpBlock72 x.h rfl x.hph x.op (by have := x.gv; have e : takesA 72 = 0 := rfl; have e2 : givesA 72 = 1 := rfl; omega) x.pc).mono ?_
  rintro e w' ⟨rfl, c', h', k'⟩
  exact ⟨rfl, x.fin0 (by decide) (by decide) (by decide) (by decide) (by decide) h' k' rfl⟩
theorem ex_91 (x : XC T A0 S0 B own w g c V st s sn stale f rest 91) : Calls Hvah.prog 208 #[.pointer (some ⟨g, 0, none⟩)] w fun e w' => e = .returned (.tuple #[]) ∧ XO A0 S0 B own w g (st.stepF f rest) w' := by
  refine (mOpJump91 x.h rfl x.hph x.op x.pc).mono ?_
  rintro e w' ⟨rfl, c', h', k'⟩
  exact ⟨rfl, x.fin0 (by decide) (by decide) (by decide) (by decide) (by decide) h' k' rfl⟩
theorem ex_80 (x : XC T A0 S0 B own w g c V st s sn stale f rest 80) : Calls Hvah.prog 214 #[.pointer (some ⟨g, 0, none⟩)] w fun e w' => e = .returned (.tuple #[]) ∧ XO A0 S0 B own w g (st.stepF f rest) w' := by
  refine (mOpPop x.h rfl x.hph (by have := x.tk; have e : takesA 80 = 1 := rfl; omega) x.pc).mono ?_
  rintro e w' ⟨rfl, c', h', k'⟩
  exact ⟨rfl, x.fin0 (by decide) (by decide) (by decide) (by decide) (by decide) h' k' rfl⟩
end
end Go.Proofs.YgvahwGreat
