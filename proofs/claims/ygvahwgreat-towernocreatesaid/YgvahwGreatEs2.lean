import Derived.Test.YgvahwGreatEs0
import Derived.Test.YgvahwGreatKat
import Derived.Test.YgvahwGreatMr
import Derived.Test.YgvahwGreatOb
import Derived.Test.YgvahwGreatMy
import Derived.Test.YgvahwGreatOu
import Derived.Test.YgvahwGreatPa
import Derived.Test.YgvahwGreatPm
namespace Go.Proofs.YgvahwGreat
open Go.RowKit
set_option linter.unusedSimpArgs false
set_option linter.unusedVariables false
section
variable {T A0 S0 B : Nat} {own : Nat → Nat} {w : World} {g : Nat} {c : Nat → Value} {V : EV} {st : ASt} {sn stale : List Nat} {s : Nat} {f : AFrame} {rest : List AFrame}
theorem ex_32 (x : XC T A0 S0 B own w g c V st s sn stale f rest 32) : Calls Hvah.prog 201 #[.pointer (some ⟨g, 0, none⟩)] w fun e w' => e = .returned (.tuple #[]) ∧ XO A0 S0 B own w g (st.stepF f rest) w' := by
  refine (mOpKeccak eSum x.h rfl x.hph (by have := x.tk; have e : takesA 32 = 2 := rfl; omega) x.pc (fun hn => ?_)).mono ?_
  · have h1 := x.reach
    exact endA_two (a := f.arg 0) (n := f.arg 1) h1 hn
  · rintro e w' ⟨rfl, c', h', k'⟩
    exact ⟨rfl, x.fin0 (by decide) (by decide) (by decide) (by decide) (by decide) h' k' rfl⟩
theorem ex_81 (x : XC T A0 S0 B own w g c V st s sn stale f rest 81) : Calls Hvah.prog 206 #[.pointer (some ⟨g, 0, none⟩)] w fun e w' => e = .returned (.tuple #[]) ∧ XO A0 S0 B own w g (st.stepF f rest) w' := by
  refine (mOpMload x.h rfl x.hph x.op (by have := x.tk; have e : takesA 81 = 1 := rfl; omega) x.pc ?_).mono ?_
  · have h1 := x.reach
    exact endA_two (a := f.arg 0) (n := 32) h1 (by decide)
  · rintro e w' ⟨rfl, c', h', k'⟩
    exact ⟨rfl, x.fin0 (by decide) (by decide) (by decide) (by decide) (by decide) h' k' rfl⟩
theorem ex_82 (x : XC T A0 S0 B own w g c V st s sn stale f rest 82) : Calls Hvah.prog 206 #[.pointer (some ⟨g, 0, none⟩)] w fun e w' => e = .returned (.tuple #[]) ∧ XO A0 S0 B own w g (st.stepF f rest) w' := by
  refine (mOpMem82 x.h rfl x.hph x.op (by have := x.tk; have e : takesA 82 = 2 := rfl; omega) x.pc ?_).mono ?_
  · have h1 := x.reach
    exact endA_two (a := f.arg 0) (n := 32) h1 (by decide)
  · rintro e w' ⟨rfl, c', h', k'⟩
    exact ⟨rfl, x.fin0 (by decide) (by decide) (by decide) (by decide) (by decide) h' k' rfl⟩
theorem ex_83 (x : XC T A0 S0 B own w g c V st s sn stale f rest 83) : Calls Hvah.prog 206 #[.pointer (some ⟨g, 0, none⟩)] w fun e w' => e = .returned (.tuple #[]) ∧ XO A0 S0 B own w g (st.stepF f rest) w' := by
  refine (mOpMem83 x.h rfl x.hph x.op (by have := x.tk; have e : takesA 83 = 2 := rfl; omega) x.pc ?_).mono ?_
  · have h1 := x.reach
    exact endA_two (a := f.arg 0) (n := 1) h1 (by decide)
  · rintro e w' ⟨rfl, c', h', k'⟩
    exact ⟨rfl, x.fin0 (by decide) (by decide) (by decide) (by decide) (by decide) h' k' rfl⟩
theorem ex_55 (x : XC T A0 S0 B own w g c V st s sn stale f rest 55) : Calls Hvah.prog 204 #[.pointer (some ⟨g, 0, none⟩)] w fun e w' => e = .returned (.tuple #[]) ∧ XO A0 S0 B own w g (st.stepF f rest) w' := by
  by_cases hz : f.arg 2 = 0
  · refine (mOpCopy55z x.h rfl x.hph x.op (by have := x.tk; have e : takesA 55 = 3 := rfl; omega) x.pc hz).mono ?_
    rintro e w' ⟨rfl, c', h', k'⟩
    exact ⟨rfl, x.fin0 (by decide) (by decide) (by decide) (by decide) (by decide) h' k' rfl⟩
  · refine (mOpCopy55 x.h rfl x.hph x.op (by have := x.tk; have e : takesA 55 = 3 := rfl; omega) x.pc hz ?_).mono ?_
    · have h1 := x.reach
      exact endA_two (a := f.arg 0) (n := f.arg 2) h1 hz
    · rintro e w' ⟨rfl, c', h', k'⟩
      exact ⟨rfl, x.fin0 (by decide) (by decide) (by decide) (by decide) (by decide) h' k' rfl⟩
theorem ex_57 (x : XC T A0 S0 B own w g c V st s sn stale f rest 57) : Calls Hvah.prog 204 #[.pointer (some ⟨g, 0, none⟩)] w fun e w' => e = .returned (.tuple #[]) ∧ XO A0 S0 B own w g (st.stepF f rest) w' := by
  by_cases hz : f.arg 2 = 0
  · refine (mOpCopy57z x.h rfl x.hph x.op (by have := x.tk; have e : takesA 57 = 3 := rfl; omega) x.pc hz).mono ?_
    rintro e w' ⟨rfl, c', h', k'⟩
    exact ⟨rfl, x.fin0 (by decide) (by decide) (by decide) (by decide) (by decide) h' k' rfl⟩
  · refine (mOpCopy57 x.h rfl x.hph x.op (by have := x.tk; have e : takesA 57 = 3 := rfl; omega) x.pc hz ?_).mono ?_
    · have h1 := x.reach
      exact endA_two (a := f.arg 0) (n := f.arg 2) h1 hz
    · rintro e w' ⟨rfl, c', h', k'⟩
      exact ⟨rfl, x.fin0 (by decide) (by decide) (by decide) (by decide) (by decide) h' k' rfl⟩
theorem ex_62 (x : XC T A0 S0 B own w g c V st s sn stale f rest 62) : Calls Hvah.prog 204 #[.pointer (some ⟨g, 0, none⟩)] w fun e w' => e = .returned (.tuple #[]) ∧ XO A0 S0 B own w g (st.stepF f rest) w' := by
  by_cases hz : f.arg 2 = 0
  · refine (mOpCopy62z x.h rfl x.hph x.op (by have := x.tk; have e : takesA 62 = 3 := rfl; omega) x.pc hz).mono ?_
    rintro e w' ⟨rfl, c', h', k'⟩
    exact ⟨rfl, x.fin0 (by decide) (by decide) (by decide) (by decide) (by decide) h' k' rfl⟩
  · refine (mOpCopy62 x.h rfl x.hph x.op (by have := x.tk; have e : takesA 62 = 3 := rfl; omega) x.pc hz ?_).mono ?_
    · have h1 := x.reach
      exact endA_two (a := f.arg 0) (n := f.arg 2) h1 hz
    · rintro e w' ⟨rfl, c', h', k'⟩
      exact ⟨rfl, x.fin0 (by decide) (by decide) (by decide) (by decide) (by decide) h' k' rfl⟩
theorem ex_94 (x : XC T A0 S0 B own w g c V st s sn stale f rest 94) : Calls Hvah.prog 204 #[.pointer (some ⟨g, 0, none⟩)] w fun e w' => e = .returned (.tuple #[]) ∧ XO A0 S0 B own w g (st.stepF f rest) w' := by
  by_cases hz : f.arg 2 = 0
  · refine (mOpCopy94z x.h rfl x.hph x.op (by have := x.tk; have e : takesA 94 = 3 := rfl; omega) x.pc hz).mono ?_
    rintro e w' ⟨rfl, c', h', k'⟩
    exact ⟨rfl, x.fin0 (by decide) (by decide) (by decide) (by decide) (by decide) h' k' rfl⟩
  · have h1 : max (endA (f.arg 0) (f.arg 2)) (endA (f.arg 1) (f.arg 2)) ≤ (st.paidF f 94).mem.length := x.reach
    refine (mOpCopy94 x.h rfl x.hph x.op (by have := x.tk; have e : takesA 94 = 3 := rfl; omega) x.pc hz (endA_two (a := f.arg 0) (n := f.arg 2) (by omega) hz) (endA_two (a := f.arg 1) (n := f.arg 2) (by omega) hz)).mono ?_
    rintro e w' ⟨rfl, c', h', k'⟩
    exact ⟨rfl, x.fin0 (by decide) (by decide) (by decide) (by decide) (by decide) h' k' rfl⟩
theorem ex_86 (x : XC T A0 S0 B own w g c V st s sn stale f rest 86) : Calls Hvah.prog 208 #[.pointer (some ⟨g, 0, none⟩)] w fun e w' => e = .returned (.tuple #[]) ∧ XO A0 S0 B own w g (st.stepF f rest) w' := by
  have hd := (refusal_zero x.hr).2.2.2.2.1 (Or.inl rfl)
  have hc := (x.hA.ok f (by rw [x.hst]; simp)).code
  have hl := dest_lt _ _ _ _ hd
  refine (mOpJump86T x.h rfl x.hph x.op (by have := x.tk; have e : takesA 86 = 1 := rfl; omega) x.pc (by show f.arg 0 < 512; omega)).mono ?_
  rintro e w' ⟨rfl, c', h', k'⟩
  exact ⟨rfl, x.fin0 (by decide) (by decide) (by decide) (by decide) (by decide) h' k' rfl⟩
theorem ex_87 (x : XC T A0 S0 B own w g c V st s sn stale f rest 87) : Calls Hvah.prog 208 #[.pointer (some ⟨g, 0, none⟩)] w fun e w' => e = .returned (.tuple #[]) ∧ XO A0 S0 B own w g (st.stepF f rest) w' := by
  by_cases hz : f.arg 1 = 0
  · refine (mOpJump87 x.h rfl x.hph x.op hz (by have := x.tk; have e : takesA 87 = 2 := rfl; omega) x.pc).mono ?_
    rintro e w' ⟨rfl, c', h', k'⟩
    refine ⟨rfl, x.fin0 (by decide) (by decide) (by decide) (by decide) (by decide) h' k' ?_⟩
    unfold ASt.plain
    rw [if_neg (fun q => by rcases q with q | q; exact absurd q (by decide); exact q.2 hz)]
    rfl
  · have hd := (refusal_zero x.hr).2.2.2.2.1 (Or.inr ⟨rfl, hz⟩)
    have hc := (x.hA.ok f (by rw [x.hst]; simp)).code
    have hl := dest_lt _ _ _ _ hd
    refine (mOpJump87T x.h rfl x.hph x.op hz (by have := x.tk; have e : takesA 87 = 2 := rfl; omega) x.pc (by show f.arg 0 < 512; omega)).mono ?_
    rintro e w' ⟨rfl, c', h', k'⟩
    refine ⟨rfl, x.fin0 (by decide) (by decide) (by decide) (by decide) (by decide) h' k' ?_⟩
    unfold ASt.plain
    rw [if_pos (Or.inr ⟨rfl, hz⟩)]
    rfl
theorem ex_64 (x : XC T A0 S0 B own w g c V st s sn stale f rest 64) : Calls Hvah.prog 205 #[.pointer (some ⟨g, 0, none⟩)] w fun e w' => e = .returned (.tuple #[]) ∧ XO A0 S0 B own w g (st.stepF f rest) w' := by
  by_cases h2 : f.arg 0 < st.env.number
  · by_cases h3 : st.env.number - (f.arg 0 + 1) < st.env.hashes.length
    · skip
      refine (mOpBlk64d x.h rfl x.hph x.op (by have := x.tk; have e : takesA 64 = 1 := rfl; omega) x.pc h2 h3).mono ?_
      rintro e w' ⟨rfl, c', h', k'⟩
      refine ⟨rfl, x.fin0 (by decide) (by decide) (by decide) (by decide) (by decide) h' k' ?_⟩
      show ({ st with frames := (st.paidF f 64).settle 1 [st.value (st.paidF f 64) 64] 1 :: rest } : ASt) = _
      have ev : st.value (st.paidF f 64) 64 = (if f.arg 0 < st.env.number then st.env.hashes.getD (st.env.number - (f.arg 0 + 1)) 0 else 0) := rfl
      rw [ev]
      rw [if_pos h2]; try rfl
    · skip
      refine (mOpBlk64c x.h rfl x.hph x.op (by have := x.tk; have e : takesA 64 = 1 := rfl; omega) x.pc h2 h3).mono ?_
      rintro e w' ⟨rfl, c', h', k'⟩
      refine ⟨rfl, x.fin0 (by decide) (by decide) (by decide) (by decide) (by decide) h' k' ?_⟩
      show ({ st with frames := (st.paidF f 64).settle 1 [st.value (st.paidF f 64) 64] 1 :: rest } : ASt) = _
      have ev : st.value (st.paidF f 64) 64 = (if f.arg 0 < st.env.number then st.env.hashes.getD (st.env.number - (f.arg 0 + 1)) 0 else 0) := rfl
      rw [ev]
      rw [if_pos h2, List.getD_eq_getElem?_getD, List.getElem?_eq_none (by omega)]
      rfl
  · by_cases h1 : f.arg 0 < 18446744073709551616
    · skip
      refine (mOpBlk64b x.h rfl x.hph x.op (by have := x.tk; have e : takesA 64 = 1 := rfl; omega) x.pc h1 h2).mono ?_
      rintro e w' ⟨rfl, c', h', k'⟩
      refine ⟨rfl, x.fin0 (by decide) (by decide) (by decide) (by decide) (by decide) h' k' ?_⟩
      show ({ st with frames := (st.paidF f 64).settle 1 [st.value (st.paidF f 64) 64] 1 :: rest } : ASt) = _
      have ev : st.value (st.paidF f 64) 64 = (if f.arg 0 < st.env.number then st.env.hashes.getD (st.env.number - (f.arg 0 + 1)) 0 else 0) := rfl
      rw [ev]
      rw [if_neg h2]; try rfl
    · skip
      refine (mOpBlk64a x.h rfl x.hph x.op (by have := x.tk; have e : takesA 64 = 1 := rfl; omega) x.pc h1).mono ?_
      rintro e w' ⟨rfl, c', h', k'⟩
      refine ⟨rfl, x.fin0 (by decide) (by decide) (by decide) (by decide) (by decide) h' k' ?_⟩
      show ({ st with frames := (st.paidF f 64).settle 1 [st.value (st.paidF f 64) 64] 1 :: rest } : ASt) = _
      have ev : st.value (st.paidF f 64) 64 = (if f.arg 0 < st.env.number then st.env.hashes.getD (st.env.number - (f.arg 0 + 1)) 0 else 0) := rfl
      rw [ev]
      rw [if_neg h2]; try rfl
theorem ex_dup {o : Nat} (x : XC T A0 S0 B own w g c V st s sn stale f rest o) (h1 : 128 ≤ o) (h2 : o ≤ 143) : Calls Hvah.prog 326 #[.pointer (some ⟨g, 0, none⟩)] w fun e w' => e = .returned (.tuple #[]) ∧ XO A0 S0 B own w g (st.stepF f rest) w' := by
  have e1 : takesA o = o - 127 := (show ∀ q : Fin 256, 128 ≤ q.1 → q.1 ≤ 143 → takesA q.1 = q.1 - 127 by decide +kernel) ⟨o, by omega⟩ h1 h2
  have e2 : givesA o = o - 126 := (show ∀ q : Fin 256, 128 ≤ q.1 → q.1 ≤ 143 → givesA q.1 = q.1 - 126 by decide +kernel) ⟨o, by omega⟩ h1 h2
  have hf : famA o ≠ 16 := (show ∀ q : Fin 256, 128 ≤ q.1 → q.1 ≤ 143 → famA q.1 ≠ 16 by decide +kernel) ⟨o, by omega⟩ h1 h2
  have t1 := x.tk
  have t2 := x.gv
  have eo := x.op
  refine (mOpDup x.h rfl x.hph (by rw [eo]; exact ⟨h1, h2⟩) (by rw [eo]; omega) (by omega) x.pc).mono ?_
  rintro e w' ⟨rfl, c', h', k'⟩
  refine ⟨rfl, x.fin0 (by omega) (by omega) (by omega) (by omega) hf h' k' ?_⟩
  unfold ASt.plain
  rw [if_neg (by omega), if_pos ⟨h1, h2⟩, eo]
theorem ex_swap {o : Nat} (x : XC T A0 S0 B own w g c V st s sn stale f rest o) (h1 : 144 ≤ o) (h2 : o ≤ 159) : Calls Hvah.prog 327 #[.pointer (some ⟨g, 0, none⟩)] w fun e w' => e = .returned (.tuple #[]) ∧ XO A0 S0 B own w g (st.stepF f rest) w' := by
  have e1 : takesA o = o - 142 := (show ∀ q : Fin 256, 144 ≤ q.1 → q.1 ≤ 159 → takesA q.1 = q.1 - 142 by decide +kernel) ⟨o, by omega⟩ h1 h2
  have hf : famA o ≠ 16 := (show ∀ q : Fin 256, 144 ≤ q.1 → q.1 ≤ 159 → famA q.1 ≠ 16 by decide +kernel) ⟨o, by omega⟩ h1 h2
  have t1 := x.tk
  have eo := x.op
  refine (mOpSwap x.h rfl x.hph (by rw [eo]; exact ⟨h1, h2⟩) (by rw [eo]; omega) x.pc).mono ?_
  rintro e w' ⟨rfl, c', h', k'⟩
  refine ⟨rfl, x.fin0 (by omega) (by omega) (by omega) (by omega) hf h' k' ?_⟩
  unfold ASt.plain
  rw [if_neg (by omega), if_neg (by omega), if_pos ⟨h1, h2⟩, eo]
  unfold swapL AFrame.arg
  rw [show o - 144 + 1 = o - 143 by omega, show o - 144 + 2 = o - 142 by omega]
theorem ex_push {o : Nat} (x : XC T A0 S0 B own w g c V st s sn stale f rest o) (h1 : 95 ≤ o) (h2 : o ≤ 127) : Calls Hvah.prog 325 #[.pointer (some ⟨g, 0, none⟩)] w fun e w' => e = .returned (.tuple #[]) ∧ XO A0 S0 B own w g (st.stepF f rest) w' := by
  have e1 : takesA o = 0 := (show ∀ q : Fin 256, 95 ≤ q.1 → q.1 ≤ 127 → takesA q.1 = 0 by decide +kernel) ⟨o, by omega⟩ h1 h2
  have e2 : givesA o = 1 := (show ∀ q : Fin 256, 95 ≤ q.1 → q.1 ≤ 127 → givesA q.1 = 1 by decide +kernel) ⟨o, by omega⟩ h1 h2
  have hf : famA o = 2 := (show ∀ q : Fin 256, 95 ≤ q.1 → q.1 ≤ 127 → famA q.1 = 2 by decide +kernel) ⟨o, by omega⟩ h1 h2
  have t1 := x.tk
  have t2 := x.gv
  have eo := x.op
  refine (mOpPush x.h rfl x.hph (by rw [eo]; exact ⟨h1, h2⟩) (by omega) x.pc).mono ?_
  rintro e w' ⟨rfl, c', h', k'⟩
  refine ⟨rfl, x.fin0 (by omega) (by omega) (by omega) (by omega) (by omega) h' k' ?_⟩
  unfold ASt.plain
  rw [if_neg (by omega), if_neg (by omega), if_neg (by omega), if_pos e2, e1, eo]
  have e3 : st.value (st.paidF f o) o = bev (cutA (st.paidF f o).code ((st.paidF f o).pc + 1) (immA o)) := by
    unfold ASt.value
    rw [if_neg (by omega), if_neg (by omega), if_pos ⟨h1, h2⟩]
  have e4 : st.valueWorld (st.paidF f o) o = st.now := by
    unfold ASt.valueWorld
    rw [if_neg (by omega), if_neg (by omega)]
  rw [e3, e4]
end
end Go.Proofs.YgvahwGreat
