import Derived.Test.YgvahwGreatEs0
import Derived.Test.YgvahwGreatKat
import Derived.Test.YgvahwGreatMt
import Derived.Test.YgvahwGreatOd84
import Derived.Test.YgvahwGreatOw1
import Derived.Test.YgvahwGreatOw2
import Derived.Test.YgvahwGreatOw3
import Derived.Test.YgvahwGreatOw4
import Derived.Test.YgvahwGreatOw5
import Derived.Test.YgvahwGreatOq1
import Derived.Test.YgvahwGreatOq2
import Derived.Test.YgvahwGreatOq3
import Derived.Test.YgvahwGreatOq4
import Derived.Test.YgvahwGreatOq5
import Derived.Test.YgvahwGreatOt0n
import Derived.Test.YgvahwGreatOt0g
import Derived.Test.YgvahwGreatOt0m
import Derived.Test.YgvahwGreatOt1n
import Derived.Test.YgvahwGreatOt1g
import Derived.Test.YgvahwGreatOt1m
import Derived.Test.YgvahwGreatOv
import Derived.Test.YgvahwGreatPi
import Derived.Test.YgvahwGreatPj
import Derived.Test.YgvahwGreatPh
import Derived.Test.YgvahwGreatOk
namespace Go.Proofs.YgvahwGreat
open Go.RowKit
set_option linter.unusedSimpArgs false
set_option linter.unusedVariables false
theorem frl_ok {O : Nat → Prop} {w : World} {c : Nat → Value} : ∀ {l : List AFrame} {sn : List Nat}, FrL O w c l sn → ∀ x ∈ l, FOK x
  | [], [], _, x, hx => by simp at hx
  | [], _ :: _, h, _, _ => h.elim
  | _ :: _, [], h, _, _ => h.elim
  | f :: r, s :: sn, h, x, hx => by
    rcases List.mem_cons.1 hx with e | hx
    · subst e; exact h.1.ok
    · exact frl_ok h.2 x hx
theorem MRep.foks {own : Nat → Nat} {w : World} {g : Nat} {c : Nat → Value} {V : EV} {st : ASt} {sn stale : List Nat} (h : MRep own w g c V st sn stale) : ∀ x ∈ st.frames, FOK x := frl_ok h.m.frs
theorem leave_gsum (st : ASt) (f : AFrame) (rest : List AFrame) (s : Nat) (out : List Nat) : gsum (st.leave f rest s out).frames ≤ f.gas + gsum rest := by
  have hg : (if 1 < (if (createsA f.kind && decide (s = 0)) = true then (depositA f.gas out).2 else s) then 0 else if (createsA f.kind && decide (s = 0)) = true then (depositA f.gas out).1 else f.gas) ≤ f.gas := by
    have hd : (depositA f.gas out).1 ≤ f.gas := by
      unfold depositA
      split
      · exact Nat.zero_le _
      split
      · exact Nat.zero_le _
      split
      · exact Nat.zero_le _
      · simp
    repeat' split
    all_goals first | exact hd | exact Nat.zero_le _ | exact Nat.le_refl _ | omega
  unfold ASt.leave
  cases rest with
  | nil => simp only [gsum_nil]; omega
  | cons p rest =>
    simp only
    rw [gsum_cons, gsum_cons]
    simp only [AFrame.settle]
    omega
/-- What a frame's end leaves of the room. -/
theorem EInv.leave {A0 S0 B : Nat} {V : EV} {st : ASt} {f F : AFrame} {rest : List AFrame} {s sx : Nat} {out : List Nat} {st1 : ASt} (hE : EInv A0 S0 B V st) (hst : st.frames = f :: rest) (hg : F.gas ≤ f.gas) (hself : V.ix F.self ≠ none) : EInv A0 S0 B (V.ends s F sx out) (st1.leave F rest sx out) := by
  have h1 := leave_gsum st1 F rest sx out
  by_cases h : createsA F.kind = true ∧ sx = 0 ∧ (depositA F.gas out).2 = 0 ∧ out ≠ []
  · obtain ⟨a1, a2, a3, a4⟩ := h
    subst a2
    have h2 := leave_dep (st := st1) (f := F) (rest := rest) a1 a3 a4
    refine hE.go (grew_ends hself) (D := 200) ?_ (by decide) (by decide) (by decide) (by decide) (by decide) (by decide)
    rw [hst, gsum_cons]; omega
  · refine hE.go (grew_ends0 h) (D := 0) ?_ (by decide) (by decide) (by decide) (by decide) (by decide) (by decide)
    rw [hst, gsum_cons]; omega
section
variable {T A0 S0 B : Nat} {own : Nat → Nat} {w : World} {g : Nat} {c : Nat → Value} {V : EV} {st : ASt} {sn stale : List Nat} {s : Nat} {f : AFrame} {rest : List AFrame}
variable {o : Nat}
theorem cold_at {a : Nat} (h : V.ix a = none) : V.abs.warmA a = false := by
  cases e : V.abs.warmA a with
  | false => rfl
  | true => exact absurd h (acct_at e)
/-- A warm account's growth. -/
theorem XC.warmed (x : XC T A0 S0 B own w g c V st s sn stale f rest o) {a : Nat} {V' : EV} (hv : V' = V ∨ V' = V.warmA a) (h1 : 100 ≤ st.bareCost f o) (h2 : st.now.warmA a = false → 2600 ≤ st.bareCost f o) : ∃ j al, V.Grew V' j al 0 0 0 0 ∧ 25 * j ≤ st.bareCost f o ∧ 1250 * al ≤ st.bareCost f o := by
  rcases hv with rfl | rfl
  · exact ⟨0, 0, Grew.id _, by omega, by omega⟩
  · by_cases hi : V.ix a = none
    · have := cold_at hi
      have e := x.h.abs
      rw [e] at this
      have := h2 this
      exact ⟨1, 1, grew_any, by omega, by omega⟩
    · exact ⟨1, 0, grew_at hi, by omega, by omega⟩
theorem ex_49 (x : XC T A0 S0 B own w g c V st s sn stale f rest 49) : Calls Hvah.prog 202 #[.pointer (some ⟨g, 0, none⟩)] w fun e w' => e = .returned (.tuple #[]) ∧ XO A0 S0 B own w g (st.stepF f rest) w' := by
  have eb : st.bareCost f 49 = st.now.access (addrA (f.arg 0)) := rfl
  have hb1 : 100 ≤ st.bareCost f 49 := by rw [eb]; have := access_ge st.now (addrA (f.arg 0)); omega
  have hb2 : st.now.warmA (addrA (f.arg 0)) = false → 2600 ≤ st.bareCost f 49 := fun q => by rw [eb]; unfold AW.access; rw [q]; simp
  refine (mOpAcc49 x.h rfl x.hph x.op (by have := x.tk; have e : takesA 49 = 1 := rfl; omega) x.pc (by have := x.room.j; omega) (fun _ => by have := x.room.a; omega)).mono ?_
  rintro e w' ⟨rfl, own', c', V', h', k', hv⟩
  obtain ⟨j, al, q, q1, q2⟩ := x.warmed hv hb1 hb2
  refine ⟨rfl, x.fin (by decide) (by decide) (by decide) (by decide) (by decide) h' k' ?_ q q1 q2 (Nat.zero_le _) (Nat.zero_le _) (Nat.zero_le _) (Nat.zero_le _)⟩
  rfl
theorem ex_59 (x : XC T A0 S0 B own w g c V st s sn stale f rest 59) : Calls Hvah.prog 202 #[.pointer (some ⟨g, 0, none⟩)] w fun e w' => e = .returned (.tuple #[]) ∧ XO A0 S0 B own w g (st.stepF f rest) w' := by
  have eb : st.bareCost f 59 = st.now.access (addrA (f.arg 0)) := rfl
  have hb1 : 100 ≤ st.bareCost f 59 := by rw [eb]; have := access_ge st.now (addrA (f.arg 0)); omega
  have hb2 : st.now.warmA (addrA (f.arg 0)) = false → 2600 ≤ st.bareCost f 59 := fun q => by rw [eb]; unfold AW.access; rw [q]; simp
  refine (mOpAcc59 x.h rfl x.hph x.op (by have := x.tk; have e : takesA 59 = 1 := rfl; omega) x.pc (by have := x.room.j; omega) (fun _ => by have := x.room.a; omega)).mono ?_
  rintro e w' ⟨rfl, own', c', V', h', k', hv⟩
  obtain ⟨j, al, q, q1, q2⟩ := x.warmed hv hb1 hb2
  refine ⟨rfl, x.fin (by decide) (by decide) (by decide) (by decide) (by decide) h' k' ?_ q q1 q2 (Nat.zero_le _) (Nat.zero_le _) (Nat.zero_le _) (Nat.zero_le _)⟩
  rfl
theorem ex_63 (x : XC T A0 S0 B own w g c V st s sn stale f rest 63) : Calls Hvah.prog 202 #[.pointer (some ⟨g, 0, none⟩)] w fun e w' => e = .returned (.tuple #[]) ∧ XO A0 S0 B own w g (st.stepF f rest) w' := by
  have eb : st.bareCost f 63 = st.now.access (addrA (f.arg 0)) := rfl
  have hb1 : 100 ≤ st.bareCost f 63 := by rw [eb]; have := access_ge st.now (addrA (f.arg 0)); omega
  have hb2 : st.now.warmA (addrA (f.arg 0)) = false → 2600 ≤ st.bareCost f 63 := fun q => by rw [eb]; unfold AW.access; rw [q]; simp
  cases hem : st.now.empty (addrA (f.arg 0)) with
  | true =>
    refine (mOpAcc63e x.h rfl x.hph x.op (by have := x.tk; have e : takesA 63 = 1 := rfl; omega) x.pc (by have := x.room.j; omega) (fun _ => by have := x.room.a; omega) hem).mono ?_
    rintro e w' ⟨rfl, own', c', V', h', k', hv⟩
    obtain ⟨j, al, q, q1, q2⟩ := x.warmed hv hb1 hb2
    refine ⟨rfl, x.fin (by decide) (by decide) (by decide) (by decide) (by decide) h' k' ?_ q q1 q2 (Nat.zero_le _) (Nat.zero_le _) (Nat.zero_le _) (Nat.zero_le _)⟩
    show ({ st with now := st.now.warm (addrA (f.arg 0)), frames := (st.paidF f 63).settle 1 [if st.now.empty (addrA (f.arg 0)) then 0 else kec (st.now.code (addrA (f.arg 0)))] 1 :: rest } : ASt) = _; rw [hem]; rfl
  | false =>
    refine (mOpAcc63f eSum x.h rfl x.hph x.op (by have := x.tk; have e : takesA 63 = 1 := rfl; omega) x.pc (by have := x.room.j; omega) (fun _ => by have := x.room.a; omega) hem (Nat.le_trans (x.hA.now.code _) (by decide))).mono ?_
    rintro e w' ⟨rfl, own', c', V', h', k', hv⟩
    obtain ⟨j, al, q, q1, q2⟩ := x.warmed hv hb1 hb2
    refine ⟨rfl, x.fin (by decide) (by decide) (by decide) (by decide) (by decide) h' k' ?_ q q1 q2 (Nat.zero_le _) (Nat.zero_le _) (Nat.zero_le _) (Nat.zero_le _)⟩
    show ({ st with now := st.now.warm (addrA (f.arg 0)), frames := (st.paidF f 63).settle 1 [if st.now.empty (addrA (f.arg 0)) then 0 else kec (st.now.code (addrA (f.arg 0)))] 1 :: rest } : ASt) = _; rw [hem]; rfl
theorem ex_60 (x : XC T A0 S0 B own w g c V st s sn stale f rest 60) : Calls Hvah.prog 204 #[.pointer (some ⟨g, 0, none⟩)] w fun e w' => e = .returned (.tuple #[]) ∧ XO A0 S0 B own w g (st.stepF f rest) w' := by
  have eb : st.bareCost f 60 = st.now.access (addrA (f.arg 0)) + copyCostA (f.arg 3) := rfl
  have hb1 : 100 ≤ st.bareCost f 60 := by rw [eb]; have := access_ge st.now (addrA (f.arg 0)); omega
  have hb2 : st.now.warmA (addrA (f.arg 0)) = false → 2600 ≤ st.bareCost f 60 := fun q => by rw [eb]; unfold AW.access; rw [q]; simp
  by_cases hz : f.arg 3 = 0
  · skip
    refine (mOpCopy60z x.h rfl x.hph x.op (by have := x.tk; have e : takesA 60 = 4 := rfl; omega) x.pc (x.room.le (by decide)) hz).mono ?_
    rintro e w' ⟨rfl, own', c', V', h', k', hv⟩
    obtain ⟨j, al, q, q1, q2⟩ := x.warmed hv hb1 hb2
    refine ⟨rfl, x.fin (by decide) (by decide) (by decide) (by decide) (by decide) h' k' ?_ q q1 q2 (Nat.zero_le _) (Nat.zero_le _) (Nat.zero_le _) (Nat.zero_le _)⟩
    rfl
  · have h1 := x.reach
    refine (mOpCopy60 x.h rfl x.hph x.op (by have := x.tk; have e : takesA 60 = 4 := rfl; omega) x.pc (x.room.le (by decide)) hz (endA_two (a := f.arg 1) (n := f.arg 3) h1 hz)).mono ?_
    rintro e w' ⟨rfl, own', c', V', h', k', hv⟩
    obtain ⟨j, al, q, q1, q2⟩ := x.warmed hv hb1 hb2
    refine ⟨rfl, x.fin (by decide) (by decide) (by decide) (by decide) (by decide) h' k' ?_ q q1 q2 (Nat.zero_le _) (Nat.zero_le _) (Nat.zero_le _) (Nat.zero_le _)⟩
    rfl
theorem ex_84 (x : XC T A0 S0 B own w g c V st s sn stale f rest 84) : Calls Hvah.prog 207 #[.pointer (some ⟨g, 0, none⟩)] w fun e w' => e = .returned (.tuple #[]) ∧ XO A0 S0 B own w g (st.stepF f rest) w' := by
  have eb : st.bareCost f 84 = (if st.now.warmS f.self (f.arg 0) then 100 else 2100) := rfl
  cases hwm : st.now.warmS f.self (f.arg 0) with
  | true =>
    refine (mSto84w x.h rfl x.hph x.op (by have := x.tk; have e : takesA 84 = 1 := rfl; omega) x.pc (x.room.le (by decide)) hwm).mono ?_
    rintro e w' ⟨rfl, own', c', h', k'⟩
    exact ⟨rfl, x.fin0 (by decide) (by decide) (by decide) (by decide) (by decide) h' k' rfl⟩
  | false =>
    refine (mSto84c x.h rfl x.hph x.op (by have := x.tk; have e : takesA 84 = 1 := rfl; omega) x.pc (x.room.le (by decide)) hwm).mono ?_
    rintro e w' ⟨rfl, own', c', h', k'⟩
    rw [hwm] at eb
    exact ⟨rfl, x.fin (by decide) (by decide) (by decide) (by decide) (by decide) h' k' rfl (grewS_at x.self) (by rw [eb]; decide) (Nat.zero_le _) (by rw [eb]; decide) (Nat.zero_le _) (Nat.zero_le _) (Nat.zero_le _)⟩
theorem ex_85 (x : XC T A0 S0 B own w g c V st s sn stale f rest 85) : Calls Hvah.prog 207 #[.pointer (some ⟨g, 0, none⟩)] w fun e w' => e = .returned (.tuple #[]) ∧ XO A0 S0 B own w g (st.stepF f rest) w' := by
  have eb : st.bareCost f 85 = sstoreCost (st.orig f.self (f.arg 0)) (st.now.slot f.self (f.arg 0)) (f.arg 1) (!st.now.warmS f.self (f.arg 0)) := rfl
  have hb := bare_85 (st := st) (f := f)
  have hS := x.hA.now.sstore f.self (f.arg 0) (f.arg 1) 100 (Nat.le_refl _)
  have hB := x.hE.hB
  have hmr : sstoreMinus (st.orig f.self (f.arg 0)) (st.now.slot f.self (f.arg 0)) (f.arg 1) ≤ st.now.refund := hS.1
  have hpr : st.now.refund - sstoreMinus (st.orig f.self (f.arg 0)) (st.now.slot f.self (f.arg 0)) (f.arg 1) + sstorePlus (st.orig f.self (f.arg 0)) (st.now.slot f.self (f.arg 0)) (f.arg 1) ≤ 209715200 := by
    have h1 : st.now.refund - sstoreMinus (st.orig f.self (f.arg 0)) (st.now.slot f.self (f.arg 0)) (f.arg 1) + sstorePlus (st.orig f.self (f.arg 0)) (st.now.slot f.self (f.arg 0)) (f.arg 1) ≤ 199 * (B - gsum st.frames + 100) := hS.2.ref
    omega
  have hself := x.self
  cases hwm : st.now.warmS f.self (f.arg 0) with
  | true =>
    obtain ⟨i, hi, hsl⟩ := slot_at (V := V) (a := f.self) (k := f.arg 0) (by rw [x.h.abs]; exact hwm)
    have gS : V.Grew (V.store f.self (f.arg 0) (f.arg 1)) 1 0 0 0 0 0 := grewS_in hi hsl
    by_cases hnv : f.arg 1 = st.now.slot f.self (f.arg 0)
    · skip
      refine (mSto85w_e x.h rfl x.hph x.op (by have := x.tk; have e : takesA 85 = 2 := rfl; omega) x.pc (x.room.le (by decide)) hwm hnv).mono ?_
      rintro e w' ⟨rfl, own', c', h', k'⟩
      exact ⟨rfl, x.fin (by decide) (by decide) (by decide) (by decide) (by decide) h' k' rfl (Grew.id V) (by omega) (by omega) (by omega) (Nat.zero_le _) (Nat.zero_le _) (Nat.zero_le _)⟩
    · by_cases hdn : sstoreMinus (st.orig f.self (f.arg 0)) (st.now.slot f.self (f.arg 0)) (f.arg 1) = 0
      · by_cases hup : sstorePlus (st.orig f.self (f.arg 0)) (st.now.slot f.self (f.arg 0)) (f.arg 1) = 0
        · skip
          refine (mSto85w_00 x.h rfl x.hph x.op (by have := x.tk; have e : takesA 85 = 2 := rfl; omega) x.pc (x.room.le (by decide)) hwm hnv hdn hup).mono ?_
          rintro e w' ⟨rfl, own', c', h', k'⟩
          exact ⟨rfl, x.fin (by decide) (by decide) (by decide) (by decide) (by decide) h' k' rfl (gS) (by omega) (by omega) (by omega) (Nat.zero_le _) (Nat.zero_le _) (Nat.zero_le _)⟩
        · skip
          refine (mSto85w_0u x.h rfl x.hph x.op (by have := x.tk; have e : takesA 85 = 2 := rfl; omega) x.pc (x.room.le (by decide)) hwm hmr hpr hnv hdn hup).mono ?_
          rintro e w' ⟨rfl, own', c', h', k'⟩
          exact ⟨rfl, x.fin (by decide) (by decide) (by decide) (by decide) (by decide) h' k' rfl (gS.trans (grew_ref _)) (by omega) (by omega) (by omega) (Nat.zero_le _) (Nat.zero_le _) (Nat.zero_le _)⟩
      · by_cases hup : sstorePlus (st.orig f.self (f.arg 0)) (st.now.slot f.self (f.arg 0)) (f.arg 1) = 0
        · skip
          refine (mSto85w_d0 x.h rfl x.hph x.op (by have := x.tk; have e : takesA 85 = 2 := rfl; omega) x.pc (x.room.le (by decide)) hwm hmr hpr hnv hdn hup).mono ?_
          rintro e w' ⟨rfl, own', c', h', k'⟩
          exact ⟨rfl, x.fin (by decide) (by decide) (by decide) (by decide) (by decide) h' k' rfl (gS.trans (grew_ref _)) (by omega) (by omega) (by omega) (Nat.zero_le _) (Nat.zero_le _) (Nat.zero_le _)⟩
        · skip
          refine (mSto85w_du x.h rfl x.hph x.op (by have := x.tk; have e : takesA 85 = 2 := rfl; omega) x.pc (x.room.le (by decide)) hwm hmr hpr hnv hdn hup).mono ?_
          rintro e w' ⟨rfl, own', c', h', k'⟩
          exact ⟨rfl, x.fin (by decide) (by decide) (by decide) (by decide) (by decide) h' k' rfl ((gS.trans (grew_ref _)).trans (grew_ref _)) (by omega) (by omega) (by omega) (Nat.zero_le _) (Nat.zero_le _) (Nat.zero_le _)⟩
  | false =>
    have hb2 : 2200 ≤ st.bareCost f 85 := by
      rw [eb, hwm]; unfold sstoreCost
      have : 100 ≤ (if f.arg 1 = st.now.slot f.self (f.arg 0) ∨ st.now.slot f.self (f.arg 0) ≠ st.orig f.self (f.arg 0) then 100 else if st.orig f.self (f.arg 0) = 0 then 20000 else 2900) := le_ite (fun _ => Nat.le_refl _) (fun _ => le_ite (fun _ => by decide) (fun _ => by decide))
      simp; omega
    have hop := warmS_op x.h.v.wf f.self (f.arg 0)
    obtain ⟨i, hi, hsl⟩ := slot_at (V := V.warmS f.self (f.arg 0)) (a := f.self) (k := f.arg 0) (by rw [hop.abs]; show up2 V.abs.warmS f.self (f.arg 0) true f.self (f.arg 0) = true; unfold up2; rw [if_pos ⟨rfl, rfl⟩])
    have gW : V.Grew (V.warmS f.self (f.arg 0)) 1 0 1 0 0 0 := grewS_at hself
    have gS : V.Grew ((V.warmS f.self (f.arg 0)).store f.self (f.arg 0) (f.arg 1)) (1 + 1) (0 + 0) (1 + 0) (0 + 0) (0 + 0) (0 + 0) := gW.trans (grewS_in hi hsl)
    by_cases hnv : f.arg 1 = st.now.slot f.self (f.arg 0)
    · skip
      refine (mSto85c_e x.h rfl x.hph x.op (by have := x.tk; have e : takesA 85 = 2 := rfl; omega) x.pc (x.room.le (by decide)) hwm hnv).mono ?_
      rintro e w' ⟨rfl, own', c', h', k'⟩
      exact ⟨rfl, x.fin (by decide) (by decide) (by decide) (by decide) (by decide) h' k' rfl (gW) (by omega) (by omega) (by omega) (Nat.zero_le _) (Nat.zero_le _) (Nat.zero_le _)⟩
    · by_cases hdn : sstoreMinus (st.orig f.self (f.arg 0)) (st.now.slot f.self (f.arg 0)) (f.arg 1) = 0
      · by_cases hup : sstorePlus (st.orig f.self (f.arg 0)) (st.now.slot f.self (f.arg 0)) (f.arg 1) = 0
        · skip
          refine (mSto85c_00 x.h rfl x.hph x.op (by have := x.tk; have e : takesA 85 = 2 := rfl; omega) x.pc (x.room.le (by decide)) hwm hnv hdn hup).mono ?_
          rintro e w' ⟨rfl, own', c', h', k'⟩
          exact ⟨rfl, x.fin (by decide) (by decide) (by decide) (by decide) (by decide) h' k' rfl (gS) (by omega) (by omega) (by omega) (Nat.zero_le _) (Nat.zero_le _) (Nat.zero_le _)⟩
        · skip
          refine (mSto85c_0u x.h rfl x.hph x.op (by have := x.tk; have e : takesA 85 = 2 := rfl; omega) x.pc (x.room.le (by decide)) hwm hmr hpr hnv hdn hup).mono ?_
          rintro e w' ⟨rfl, own', c', h', k'⟩
          exact ⟨rfl, x.fin (by decide) (by decide) (by decide) (by decide) (by decide) h' k' rfl (gS.trans (grew_ref _)) (by omega) (by omega) (by omega) (Nat.zero_le _) (Nat.zero_le _) (Nat.zero_le _)⟩
      · by_cases hup : sstorePlus (st.orig f.self (f.arg 0)) (st.now.slot f.self (f.arg 0)) (f.arg 1) = 0
        · skip
          refine (mSto85c_d0 x.h rfl x.hph x.op (by have := x.tk; have e : takesA 85 = 2 := rfl; omega) x.pc (x.room.le (by decide)) hwm hmr hpr hnv hdn hup).mono ?_
          rintro e w' ⟨rfl, own', c', h', k'⟩
          exact ⟨rfl, x.fin (by decide) (by decide) (by decide) (by decide) (by decide) h' k' rfl (gS.trans (grew_ref _)) (by omega) (by omega) (by omega) (Nat.zero_le _) (Nat.zero_le _) (Nat.zero_le _)⟩
        · skip
          refine (mSto85c_du x.h rfl x.hph x.op (by have := x.tk; have e : takesA 85 = 2 := rfl; omega) x.pc (x.room.le (by decide)) hwm hmr hpr hnv hdn hup).mono ?_
          rintro e w' ⟨rfl, own', c', h', k'⟩
          exact ⟨rfl, x.fin (by decide) (by decide) (by decide) (by decide) (by decide) h' k' rfl ((gS.trans (grew_ref _)).trans (grew_ref _)) (by omega) (by omega) (by omega) (Nat.zero_le _) (Nat.zero_le _) (Nat.zero_le _)⟩
theorem ex_92 (x : XC T A0 S0 B own w g c V st s sn stale f rest 92) : Calls Hvah.prog 210 #[.pointer (some ⟨g, 0, none⟩)] w fun e w' => e = .returned (.tuple #[]) ∧ XO A0 S0 B own w g (st.stepF f rest) w' := by
  refine (mTra92 x.h rfl x.hph x.op (by have := x.tk; have e : takesA 92 = 1 := rfl; omega) x.pc (x.room.le (by decide))).mono ?_
  rintro e w' ⟨rfl, own', c', h', k'⟩
  exact ⟨rfl, x.fin0 (by decide) (by decide) (by decide) (by decide) (by decide) h' k' rfl⟩
theorem ex_93 (x : XC T A0 S0 B own w g c V st s sn stale f rest 93) : Calls Hvah.prog 210 #[.pointer (some ⟨g, 0, none⟩)] w fun e w' => e = .returned (.tuple #[]) ∧ XO A0 S0 B own w g (st.stepF f rest) w' := by
  have eb : st.bareCost f 93 = 100 := rfl
  by_cases hnv : f.arg 1 = st.now.temp f.self (f.arg 0)
  · refine (mTra93e x.h rfl x.hph x.op (by have := x.tk; have e : takesA 93 = 2 := rfl; omega) x.pc (x.room.le (by decide)) hnv).mono ?_
    rintro e w' ⟨rfl, own', c', h', k'⟩
    exact ⟨rfl, x.fin0 (by decide) (by decide) (by decide) (by decide) (by decide) h' k' rfl⟩
  · refine (mTra93n x.h rfl x.hph x.op (by have := x.tk; have e : takesA 93 = 2 := rfl; omega) x.pc (x.room.le (by decide)) hnv).mono ?_
    rintro e w' ⟨rfl, own', c', h', k'⟩
    exact ⟨rfl, x.fin (by decide) (by decide) (by decide) (by decide) (by decide) h' k' rfl (grewT_at x.self) (by omega) (by omega) (by omega) (by omega) (by omega) (by omega)⟩
theorem ex_160 (x : XC T A0 S0 B own w g c V st s sn stale f rest 160) : Calls Hvah.prog 328 #[.pointer (some ⟨g, 0, none⟩)] w fun e w' => e = .returned (.tuple #[]) ∧ XO A0 S0 B own w g (st.stepF f rest) w' := by
  have eb : st.bareCost f 160 = 375 + 375 * (160 - 160) + 8 * f.arg 1 := rfl
  have h1 := x.reach
  refine (mOpLog x.h rfl x.hph 0 (by decide) x.op (by have := x.tk; have e : takesA 160 = 2 := rfl; omega) x.pc (x.room.le (by decide)) (fun hn => endA_two (a := f.arg 0) (n := f.arg 1) h1 hn)).mono ?_
  rintro e w' ⟨rfl, own', c', h', k'⟩
  exact ⟨rfl, x.fin (by decide) (by decide) (by decide) (by decide) (by decide) h' k' rfl (grew_log _) (by omega) (by omega) (by omega) (by omega) (by omega) (by omega)⟩
theorem ex_161 (x : XC T A0 S0 B own w g c V st s sn stale f rest 161) : Calls Hvah.prog 328 #[.pointer (some ⟨g, 0, none⟩)] w fun e w' => e = .returned (.tuple #[]) ∧ XO A0 S0 B own w g (st.stepF f rest) w' := by
  have eb : st.bareCost f 161 = 375 + 375 * (161 - 160) + 8 * f.arg 1 := rfl
  have h1 := x.reach
  refine (mOpLog x.h rfl x.hph 1 (by decide) x.op (by have := x.tk; have e : takesA 161 = 3 := rfl; omega) x.pc (x.room.le (by decide)) (fun hn => endA_two (a := f.arg 0) (n := f.arg 1) h1 hn)).mono ?_
  rintro e w' ⟨rfl, own', c', h', k'⟩
  exact ⟨rfl, x.fin (by decide) (by decide) (by decide) (by decide) (by decide) h' k' rfl (grew_log _) (by omega) (by omega) (by omega) (by omega) (by omega) (by omega)⟩
theorem ex_162 (x : XC T A0 S0 B own w g c V st s sn stale f rest 162) : Calls Hvah.prog 328 #[.pointer (some ⟨g, 0, none⟩)] w fun e w' => e = .returned (.tuple #[]) ∧ XO A0 S0 B own w g (st.stepF f rest) w' := by
  have eb : st.bareCost f 162 = 375 + 375 * (162 - 160) + 8 * f.arg 1 := rfl
  have h1 := x.reach
  refine (mOpLog x.h rfl x.hph 2 (by decide) x.op (by have := x.tk; have e : takesA 162 = 4 := rfl; omega) x.pc (x.room.le (by decide)) (fun hn => endA_two (a := f.arg 0) (n := f.arg 1) h1 hn)).mono ?_
  rintro e w' ⟨rfl, own', c', h', k'⟩
  exact ⟨rfl, x.fin (by decide) (by decide) (by decide) (by decide) (by decide) h' k' rfl (grew_log _) (by omega) (by omega) (by omega) (by omega) (by omega) (by omega)⟩
theorem ex_163 (x : XC T A0 S0 B own w g c V st s sn stale f rest 163) : Calls Hvah.prog 328 #[.pointer (some ⟨g, 0, none⟩)] w fun e w' => e = .returned (.tuple #[]) ∧ XO A0 S0 B own w g (st.stepF f rest) w' := by
  have eb : st.bareCost f 163 = 375 + 375 * (163 - 160) + 8 * f.arg 1 := rfl
  have h1 := x.reach
  refine (mOpLog x.h rfl x.hph 3 (by decide) x.op (by have := x.tk; have e : takesA 163 = 5 := rfl; omega) x.pc (x.room.le (by decide)) (fun hn => endA_two (a := f.arg 0) (n := f.arg 1) h1 hn)).mono ?_
  rintro e w' ⟨rfl, own', c', h', k'⟩
  exact ⟨rfl, x.fin (by decide) (by decide) (by decide) (by decide) (by decide) h' k' rfl (grew_log _) (by omega) (by omega) (by omega) (by omega) (by omega) (by omega)⟩
theorem ex_164 (x : XC T A0 S0 B own w g c V st s sn stale f rest 164) : Calls Hvah.prog 328 #[.pointer (some ⟨g, 0, none⟩)] w fun e w' => e = .returned (.tuple #[]) ∧ XO A0 S0 B own w g (st.stepF f rest) w' := by
  have eb : st.bareCost f 164 = 375 + 375 * (164 - 160) + 8 * f.arg 1 := rfl
  have h1 := x.reach
  refine (mOpLog x.h rfl x.hph 4 (by decide) x.op (by have := x.tk; have e : takesA 164 = 6 := rfl; omega) x.pc (x.room.le (by decide)) (fun hn => endA_two (a := f.arg 0) (n := f.arg 1) h1 hn)).mono ?_
  rintro e w' ⟨rfl, own', c', h', k'⟩
  exact ⟨rfl, x.fin (by decide) (by decide) (by decide) (by decide) (by decide) h' k' rfl (grew_log _) (by omega) (by omega) (by omega) (by omega) (by omega) (by omega)⟩
theorem XC.finL (x : XC T A0 S0 B own w g c V st s sn stale f rest o) {sx : Nat} {out : List Nat} (e : st.stepF f rest = st.leave (st.paidF f o) rest sx out) {own' : Nat → Nat} {c' : Nat → Value} {w' : World} {sn' stale' : List Nat} (h' : MRep own' w' g c' (V.ends s (st.paidF f o) sx out) (st.leave (st.paidF f o) rest sx out) sn' stale') (k : MStep own w own' w') : XO A0 S0 B own w g (st.stepF f rest) w' := by
  rw [e]
  exact ⟨own', c', _, sn', stale', h', k, x.hE.leave x.hst (by have := x.paid; omega) x.self⟩
theorem ex_0 (x : XC T A0 S0 B own w g c V st s sn stale f rest 0) : Calls Hvah.prog 213 #[.pointer (some ⟨g, 0, none⟩)] w fun e w' => e = .returned (.tuple #[]) ∧ XO A0 S0 B own w g (st.stepF f rest) w' := by
  have e : st.stepF f rest = st.leave (st.paidF f 0) rest 0 [] := by
    have eo := x.ho
    unfold ASt.stepF
    rw [if_neg (fun q => q x.hpre), eo]
    simp only [x.hr, ne_eq, not_true, if_false]
    rfl
  refine (mOpEnd0 x.h rfl x.hph x.op (x.room.le (by decide)) x.below).mono ?_
  rintro e1 w' ⟨rfl, own', c', h', k'⟩
  exact ⟨rfl, x.finL e h' k'⟩
theorem ex_243 (x : XC T A0 S0 B own w g c V st s sn stale f rest 243) : Calls Hvah.prog 213 #[.pointer (some ⟨g, 0, none⟩)] w fun e w' => e = .returned (.tuple #[]) ∧ XO A0 S0 B own w g (st.stepF f rest) w' := by
  have e : st.stepF f rest = st.leave (st.paidF f 243) rest 0 (readA (st.paidF f 243).mem (f.arg 0) (f.arg 1)) := by
    have eo := x.ho
    unfold ASt.stepF
    rw [if_neg (fun q => q x.hpre), eo]
    simp only [x.hr, ne_eq, not_true, if_false]
    rfl
  refine (mOpEnd243 x.h rfl x.hph x.op (x.room.le (by decide)) x.below (fun hn => endA_two (a := f.arg 0) (n := f.arg 1) x.reach hn)).mono ?_
  rintro e1 w' ⟨rfl, own', c', h', k'⟩
  exact ⟨rfl, x.finL e h' k'⟩
theorem ex_253 (x : XC T A0 S0 B own w g c V st s sn stale f rest 253) : Calls Hvah.prog 213 #[.pointer (some ⟨g, 0, none⟩)] w fun e w' => e = .returned (.tuple #[]) ∧ XO A0 S0 B own w g (st.stepF f rest) w' := by
  have e : st.stepF f rest = st.leave (st.paidF f 253) rest 1 (readA (st.paidF f 253).mem (f.arg 0) (f.arg 1)) := by
    have eo := x.ho
    unfold ASt.stepF
    rw [if_neg (fun q => q x.hpre), eo]
    simp only [x.hr, ne_eq, not_true, if_false]
    rfl
  refine (mOpEnd253 x.h rfl x.hph x.op (x.room.le (by decide)) x.below (fun hn => endA_two (a := f.arg 0) (n := f.arg 1) x.reach hn)).mono ?_
  rintro e1 w' ⟨rfl, own', c', h', k'⟩
  exact ⟨rfl, x.finL e h' k'⟩
theorem ex_255 (x : XC T A0 S0 B own w g c V st s sn stale f rest 255) : Calls Hvah.prog 211 #[.pointer (some ⟨g, 0, none⟩)] w fun e w' => e = .returned (.tuple #[]) ∧ XO A0 S0 B own w g (st.stepF f rest) w' := by
  have e : st.stepF f rest = st.destroys (st.paidF f 255) rest := by
    have eo := x.ho
    unfold ASt.stepF
    rw [if_neg (fun q => q x.hpre), eo]
    simp only [x.hr, ne_eq, not_true, if_false]
    rfl
  have hb : 5000 ≤ st.bareCost f 255 := by
    show 5000 ≤ st.destroyCost f
    unfold ASt.destroyCost; omega
  have hp := x.paid
  have FIN : ∀ (w' : World) (own' : Nat → Nat) (c' : Nat → Value) (V' : EV), MRep own' w' g c' (V'.ends s (st.paidF f 255) 0 []) (st.destroys (st.paidF f 255) rest) sn ((st.paidF f 255).mem ++ stale) → MStep own w own' w' → V.Grew V' 4 4 0 0 0 0 → Ending.returned (.tuple #[]) = .returned (.tuple #[]) ∧ XO A0 S0 B own w g (st.stepF f rest) w' := fun w' own' c' V' h' k' q => by
    have e2 : V'.ends s (st.paidF f 255) 0 [] = V' := by
      unfold EV.ends
      split
      · have : (depositA (st.paidF f 255).gas []).2 = 0 := by unfold depositA; simp
        rw [if_pos this]; simp
      · simp
    rw [e2] at h'
    refine ⟨rfl, ?_⟩
    rw [e]
    refine ⟨own', c', V', sn, _, h', k', x.hE.go q (D := 5000) ?_ (by decide) (by decide) (by decide) (by decide) (by decide) (by decide)⟩
    have hl := leave_gsum { st with now := (st.destroys (st.paidF f 255) rest).now } (st.paidF f 255) rest 0 []
    have hd : gsum (st.destroys (st.paidF f 255) rest).frames ≤ (st.paidF f 255).gas + gsum rest := leave_gsum _ (st.paidF f 255) rest 0 []
    rw [x.hst, gsum_cons]; omega
  have hov : ∀ (t : Nat), (st.now.warm t).bal f.self ≠ 0 → ((st.now.warm t).setBal f.self ((st.now.warm t).bal f.self - (st.now.warm t).bal f.self)).bal t + (st.now.warm t).bal f.self < P256 := fun t _ => (x.hA.now.warm t).moveFit x.hT (Nat.le_refl _)
  by_cases heq : addrA (f.arg 0) = f.self
  · cases hmd : (st.now.warm (addrA (f.arg 0))).made f.self with
    | false =>
      refine (mDes_1n x.h rfl x.hph x.room x.below heq hmd).mono ?_
      rintro e1 w' ⟨rfl, own', c', V', h', k', q⟩
      exact FIN w' own' c' V' h' k' q
    | true =>
      cases hgn : (st.now.warm (addrA (f.arg 0))).gone f.self with
      | false =>
        refine (mDes_1m x.h rfl x.hph x.room x.below heq hmd hgn).mono ?_
        rintro e1 w' ⟨rfl, own', c', V', h', k', q⟩
        exact FIN w' own' c' V' h' k' q
      | true =>
        refine (mDes_1g x.h rfl x.hph x.room x.below heq hmd hgn).mono ?_
        rintro e1 w' ⟨rfl, own', c', V', h', k', q⟩
        exact FIN w' own' c' V' h' k' q
  · cases hmd : ((st.now.warm (addrA (f.arg 0))).move f.self (addrA (f.arg 0)) ((st.now.warm (addrA (f.arg 0))).bal f.self)).made f.self with
    | false =>
      refine (mDes_0n x.h rfl x.hph x.room x.below heq hmd (hov _)).mono ?_
      rintro e1 w' ⟨rfl, own', c', V', h', k', q⟩
      exact FIN w' own' c' V' h' k' q
    | true =>
      cases hgn : ((st.now.warm (addrA (f.arg 0))).move f.self (addrA (f.arg 0)) ((st.now.warm (addrA (f.arg 0))).bal f.self)).gone f.self with
      | false =>
        refine (mDes_0m x.h rfl x.hph x.room x.below heq hmd hgn (hov _)).mono ?_
        rintro e1 w' ⟨rfl, own', c', V', h', k', q⟩
        exact FIN w' own' c' V' h' k' q
      | true =>
        refine (mDes_0g x.h rfl x.hph x.room x.below heq hmd hgn (hov _)).mono ?_
        rintro e1 w' ⟨rfl, own', c', V', h', k', q⟩
        exact FIN w' own' c' V' h' k' q
end
end Go.Proofs.YgvahwGreat
