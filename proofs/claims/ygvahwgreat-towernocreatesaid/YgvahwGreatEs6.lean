import Derived.Test.YgvahwGreatEs1
import Derived.Test.YgvahwGreatEs2
import Derived.Test.YgvahwGreatEs3
import Derived.Test.YgvahwGreatEs5
import Derived.Test.YgvahwGreatOe1
import Derived.Test.YgvahwGreatOe2
import Derived.Test.YgvahwGreatOe3
import Derived.Test.YgvahwGreatOe4
import Derived.Test.YgvahwGreatOe5
import Derived.Test.YgvahwGreatOe6
import Derived.Test.YgvahwGreatPg
import Derived.Test.YgvahwGreatDw
import Derived.Test.YgvahwGreatSt
import Derived.Test.YgvahwGreatZp
namespace Go.Proofs.YgvahwGreat
open Go.RowKit
set_option linter.unusedSimpArgs false
set_option linter.unusedVariables false
section
variable {T A0 S0 B : Nat} {own : Nat → Nat} {w : World} {g : Nat} {c : Nat → Value} {V : EV} {st : ASt} {sn stale : List Nat} {s : Nat} {f : AFrame} {rest : List AFrame}
variable {o : Nat}
theorem exx_0 (x : XC T A0 S0 B own w g c V st s sn stale f rest 0) : Calls Hvah.prog 120 #[.pointer (some ⟨g, 0, none⟩), .int .u8 ((0 : Nat) : Int)] w fun e w' => e = .returned (.tuple #[]) ∧ XO A0 S0 B own w g (st.stepF f rest) w' :=
  mExec_0 (fun W hW => (ex_0 (x.ext hW)).mono fun e w' q => ⟨q.1, XO.ext hW q.2⟩)
theorem exx_1 (x : XC T A0 S0 B own w g c V st s sn stale f rest 1) : Calls Hvah.prog 120 #[.pointer (some ⟨g, 0, none⟩), .int .u8 ((1 : Nat) : Int)] w fun e w' => e = .returned (.tuple #[]) ∧ XO A0 S0 B own w g (st.stepF f rest) w' :=
  mExec_1 (fun W hW => (ex_1 (x.ext hW)).mono fun e w' q => ⟨q.1, XO.ext hW q.2⟩)
theorem exx_2 (x : XC T A0 S0 B own w g c V st s sn stale f rest 2) : Calls Hvah.prog 120 #[.pointer (some ⟨g, 0, none⟩), .int .u8 ((2 : Nat) : Int)] w fun e w' => e = .returned (.tuple #[]) ∧ XO A0 S0 B own w g (st.stepF f rest) w' :=
  mExec_2 (fun W hW => (ex_2 (x.ext hW)).mono fun e w' q => ⟨q.1, XO.ext hW q.2⟩)
theorem exx_3 (x : XC T A0 S0 B own w g c V st s sn stale f rest 3) : Calls Hvah.prog 120 #[.pointer (some ⟨g, 0, none⟩), .int .u8 ((3 : Nat) : Int)] w fun e w' => e = .returned (.tuple #[]) ∧ XO A0 S0 B own w g (st.stepF f rest) w' :=
  mExec_3 (fun W hW => (ex_3 (x.ext hW)).mono fun e w' q => ⟨q.1, XO.ext hW q.2⟩)
theorem exx_4 (x : XC T A0 S0 B own w g c V st s sn stale f rest 4) : Calls Hvah.prog 120 #[.pointer (some ⟨g, 0, none⟩), .int .u8 ((4 : Nat) : Int)] w fun e w' => e = .returned (.tuple #[]) ∧ XO A0 S0 B own w g (st.stepF f rest) w' :=
  mExec_4 (fun W hW => (ex_4 (x.ext hW)).mono fun e w' q => ⟨q.1, XO.ext hW q.2⟩)
theorem exx_5 (x : XC T A0 S0 B own w g c V st s sn stale f rest 5) : Calls Hvah.prog 120 #[.pointer (some ⟨g, 0, none⟩), .int .u8 ((5 : Nat) : Int)] w fun e w' => e = .returned (.tuple #[]) ∧ XO A0 S0 B own w g (st.stepF f rest) w' :=
  mExec_5 (fun W hW => (ex_5 (x.ext hW)).mono fun e w' q => ⟨q.1, XO.ext hW q.2⟩)
theorem exx_6 (x : XC T A0 S0 B own w g c V st s sn stale f rest 6) : Calls Hvah.prog 120 #[.pointer (some ⟨g, 0, none⟩), .int .u8 ((6 : Nat) : Int)] w fun e w' => e = .returned (.tuple #[]) ∧ XO A0 S0 B own w g (st.stepF f rest) w' :=
  mExec_6 (fun W hW => (ex_6 (x.ext hW)).mono fun e w' q => ⟨q.1, XO.ext hW q.2⟩)
theorem exx_7 (x : XC T A0 S0 B own w g c V st s sn stale f rest 7) : Calls Hvah.prog 120 #[.pointer (some ⟨g, 0, none⟩), .int .u8 ((7 : Nat) : Int)] w fun e w' => e = .returned (.tuple #[]) ∧ XO A0 S0 B own w g (st.stepF f rest) w' :=
  mExec_7 (fun W hW => (ex_7 (x.ext hW)).mono fun e w' q => ⟨q.1, XO.ext hW q.2⟩)
theorem exx_8 (x : XC T A0 S0 B own w g c V st s sn stale f rest 8) : Calls Hvah.prog 120 #[.pointer (some ⟨g, 0, none⟩), .int .u8 ((8 : Nat) : Int)] w fun e w' => e = .returned (.tuple #[]) ∧ XO A0 S0 B own w g (st.stepF f rest) w' :=
  mExec_8 (fun W hW => (ex_8 (x.ext hW)).mono fun e w' q => ⟨q.1, XO.ext hW q.2⟩)
theorem exx_9 (x : XC T A0 S0 B own w g c V st s sn stale f rest 9) : Calls Hvah.prog 120 #[.pointer (some ⟨g, 0, none⟩), .int .u8 ((9 : Nat) : Int)] w fun e w' => e = .returned (.tuple #[]) ∧ XO A0 S0 B own w g (st.stepF f rest) w' :=
  mExec_9 (fun W hW => (ex_9 (x.ext hW)).mono fun e w' q => ⟨q.1, XO.ext hW q.2⟩)
theorem exx_10 (x : XC T A0 S0 B own w g c V st s sn stale f rest 10) : Calls Hvah.prog 120 #[.pointer (some ⟨g, 0, none⟩), .int .u8 ((10 : Nat) : Int)] w fun e w' => e = .returned (.tuple #[]) ∧ XO A0 S0 B own w g (st.stepF f rest) w' :=
  mExec_10 (fun W hW => (ex_10 (x.ext hW)).mono fun e w' q => ⟨q.1, XO.ext hW q.2⟩)
theorem exx_11 (x : XC T A0 S0 B own w g c V st s sn stale f rest 11) : Calls Hvah.prog 120 #[.pointer (some ⟨g, 0, none⟩), .int .u8 ((11 : Nat) : Int)] w fun e w' => e = .returned (.tuple #[]) ∧ XO A0 S0 B own w g (st.stepF f rest) w' :=
  mExec_11 (fun W hW => (ex_11 (x.ext hW)).mono fun e w' q => ⟨q.1, XO.ext hW q.2⟩)
theorem exx_16 (x : XC T A0 S0 B own w g c V st s sn stale f rest 16) : Calls Hvah.prog 120 #[.pointer (some ⟨g, 0, none⟩), .int .u8 ((16 : Nat) : Int)] w fun e w' => e = .returned (.tuple #[]) ∧ XO A0 S0 B own w g (st.stepF f rest) w' :=
  mExec_16 (fun W hW => (ex_16 (x.ext hW)).mono fun e w' q => ⟨q.1, XO.ext hW q.2⟩)
theorem exx_17 (x : XC T A0 S0 B own w g c V st s sn stale f rest 17) : Calls Hvah.prog 120 #[.pointer (some ⟨g, 0, none⟩), .int .u8 ((17 : Nat) : Int)] w fun e w' => e = .returned (.tuple #[]) ∧ XO A0 S0 B own w g (st.stepF f rest) w' :=
  mExec_17 (fun W hW => (ex_17 (x.ext hW)).mono fun e w' q => ⟨q.1, XO.ext hW q.2⟩)
theorem exx_18 (x : XC T A0 S0 B own w g c V st s sn stale f rest 18) : Calls Hvah.prog 120 #[.pointer (some ⟨g, 0, none⟩), .int .u8 ((18 : Nat) : Int)] w fun e w' => e = .returned (.tuple #[]) ∧ XO A0 S0 B own w g (st.stepF f rest) w' :=
  mExec_18 (fun W hW => (ex_18 (x.ext hW)).mono fun e w' q => ⟨q.1, XO.ext hW q.2⟩)
theorem exx_19 (x : XC T A0 S0 B own w g c V st s sn stale f rest 19) : Calls Hvah.prog 120 #[.pointer (some ⟨g, 0, none⟩), .int .u8 ((19 : Nat) : Int)] w fun e w' => e = .returned (.tuple #[]) ∧ XO A0 S0 B own w g (st.stepF f rest) w' :=
  mExec_19 (fun W hW => (ex_19 (x.ext hW)).mono fun e w' q => ⟨q.1, XO.ext hW q.2⟩)
theorem exx_20 (x : XC T A0 S0 B own w g c V st s sn stale f rest 20) : Calls Hvah.prog 120 #[.pointer (some ⟨g, 0, none⟩), .int .u8 ((20 : Nat) : Int)] w fun e w' => e = .returned (.tuple #[]) ∧ XO A0 S0 B own w g (st.stepF f rest) w' :=
  mExec_20 (fun W hW => (ex_20 (x.ext hW)).mono fun e w' q => ⟨q.1, XO.ext hW q.2⟩)
theorem exx_21 (x : XC T A0 S0 B own w g c V st s sn stale f rest 21) : Calls Hvah.prog 120 #[.pointer (some ⟨g, 0, none⟩), .int .u8 ((21 : Nat) : Int)] w fun e w' => e = .returned (.tuple #[]) ∧ XO A0 S0 B own w g (st.stepF f rest) w' :=
  mExec_21 (fun W hW => (ex_21 (x.ext hW)).mono fun e w' q => ⟨q.1, XO.ext hW q.2⟩)
theorem exx_22 (x : XC T A0 S0 B own w g c V st s sn stale f rest 22) : Calls Hvah.prog 120 #[.pointer (some ⟨g, 0, none⟩), .int .u8 ((22 : Nat) : Int)] w fun e w' => e = .returned (.tuple #[]) ∧ XO A0 S0 B own w g (st.stepF f rest) w' :=
  mExec_22 (fun W hW => (ex_22 (x.ext hW)).mono fun e w' q => ⟨q.1, XO.ext hW q.2⟩)
theorem exx_23 (x : XC T A0 S0 B own w g c V st s sn stale f rest 23) : Calls Hvah.prog 120 #[.pointer (some ⟨g, 0, none⟩), .int .u8 ((23 : Nat) : Int)] w fun e w' => e = .returned (.tuple #[]) ∧ XO A0 S0 B own w g (st.stepF f rest) w' :=
  mExec_23 (fun W hW => (ex_23 (x.ext hW)).mono fun e w' q => ⟨q.1, XO.ext hW q.2⟩)
theorem exx_24 (x : XC T A0 S0 B own w g c V st s sn stale f rest 24) : Calls Hvah.prog 120 #[.pointer (some ⟨g, 0, none⟩), .int .u8 ((24 : Nat) : Int)] w fun e w' => e = .returned (.tuple #[]) ∧ XO A0 S0 B own w g (st.stepF f rest) w' :=
  mExec_24 (fun W hW => (ex_24 (x.ext hW)).mono fun e w' q => ⟨q.1, XO.ext hW q.2⟩)
theorem exx_25 (x : XC T A0 S0 B own w g c V st s sn stale f rest 25) : Calls Hvah.prog 120 #[.pointer (some ⟨g, 0, none⟩), .int .u8 ((25 : Nat) : Int)] w fun e w' => e = .returned (.tuple #[]) ∧ XO A0 S0 B own w g (st.stepF f rest) w' :=
  mExec_25 (fun W hW => (ex_25 (x.ext hW)).mono fun e w' q => ⟨q.1, XO.ext hW q.2⟩)
theorem exx_26 (x : XC T A0 S0 B own w g c V st s sn stale f rest 26) : Calls Hvah.prog 120 #[.pointer (some ⟨g, 0, none⟩), .int .u8 ((26 : Nat) : Int)] w fun e w' => e = .returned (.tuple #[]) ∧ XO A0 S0 B own w g (st.stepF f rest) w' :=
  mExec_26 (fun W hW => (ex_26 (x.ext hW)).mono fun e w' q => ⟨q.1, XO.ext hW q.2⟩)
theorem exx_27 (x : XC T A0 S0 B own w g c V st s sn stale f rest 27) : Calls Hvah.prog 120 #[.pointer (some ⟨g, 0, none⟩), .int .u8 ((27 : Nat) : Int)] w fun e w' => e = .returned (.tuple #[]) ∧ XO A0 S0 B own w g (st.stepF f rest) w' :=
  mExec_27 (fun W hW => (ex_27 (x.ext hW)).mono fun e w' q => ⟨q.1, XO.ext hW q.2⟩)
theorem exx_28 (x : XC T A0 S0 B own w g c V st s sn stale f rest 28) : Calls Hvah.prog 120 #[.pointer (some ⟨g, 0, none⟩), .int .u8 ((28 : Nat) : Int)] w fun e w' => e = .returned (.tuple #[]) ∧ XO A0 S0 B own w g (st.stepF f rest) w' :=
  mExec_28 (fun W hW => (ex_28 (x.ext hW)).mono fun e w' q => ⟨q.1, XO.ext hW q.2⟩)
theorem exx_29 (x : XC T A0 S0 B own w g c V st s sn stale f rest 29) : Calls Hvah.prog 120 #[.pointer (some ⟨g, 0, none⟩), .int .u8 ((29 : Nat) : Int)] w fun e w' => e = .returned (.tuple #[]) ∧ XO A0 S0 B own w g (st.stepF f rest) w' :=
  mExec_29 (fun W hW => (ex_29 (x.ext hW)).mono fun e w' q => ⟨q.1, XO.ext hW q.2⟩)
theorem exx_32 (x : XC T A0 S0 B own w g c V st s sn stale f rest 32) : Calls Hvah.prog 120 #[.pointer (some ⟨g, 0, none⟩), .int .u8 ((32 : Nat) : Int)] w fun e w' => e = .returned (.tuple #[]) ∧ XO A0 S0 B own w g (st.stepF f rest) w' :=
  mExec_32 (fun W hW => (ex_32 (x.ext hW)).mono fun e w' q => ⟨q.1, XO.ext hW q.2⟩)
theorem exx_48 (x : XC T A0 S0 B own w g c V st s sn stale f rest 48) : Calls Hvah.prog 120 #[.pointer (some ⟨g, 0, none⟩), .int .u8 ((48 : Nat) : Int)] w fun e w' => e = .returned (.tuple #[]) ∧ XO A0 S0 B own w g (st.stepF f rest) w' :=
  mExec_48 (fun W hW => (ex_48 (x.ext hW)).mono fun e w' q => ⟨q.1, XO.ext hW q.2⟩)
theorem exx_49 (x : XC T A0 S0 B own w g c V st s sn stale f rest 49) : Calls Hvah.prog 120 #[.pointer (some ⟨g, 0, none⟩), .int .u8 ((49 : Nat) : Int)] w fun e w' => e = .returned (.tuple #[]) ∧ XO A0 S0 B own w g (st.stepF f rest) w' :=
  mExec_49 (fun W hW => (ex_49 (x.ext hW)).mono fun e w' q => ⟨q.1, XO.ext hW q.2⟩)
theorem exx_50 (x : XC T A0 S0 B own w g c V st s sn stale f rest 50) : Calls Hvah.prog 120 #[.pointer (some ⟨g, 0, none⟩), .int .u8 ((50 : Nat) : Int)] w fun e w' => e = .returned (.tuple #[]) ∧ XO A0 S0 B own w g (st.stepF f rest) w' :=
  mExec_50 (fun W hW => (ex_50 (x.ext hW)).mono fun e w' q => ⟨q.1, XO.ext hW q.2⟩)
theorem exx_51 (x : XC T A0 S0 B own w g c V st s sn stale f rest 51) : Calls Hvah.prog 120 #[.pointer (some ⟨g, 0, none⟩), .int .u8 ((51 : Nat) : Int)] w fun e w' => e = .returned (.tuple #[]) ∧ XO A0 S0 B own w g (st.stepF f rest) w' :=
  mExec_51 (fun W hW => (ex_51 (x.ext hW)).mono fun e w' q => ⟨q.1, XO.ext hW q.2⟩)
theorem exx_52 (x : XC T A0 S0 B own w g c V st s sn stale f rest 52) : Calls Hvah.prog 120 #[.pointer (some ⟨g, 0, none⟩), .int .u8 ((52 : Nat) : Int)] w fun e w' => e = .returned (.tuple #[]) ∧ XO A0 S0 B own w g (st.stepF f rest) w' :=
  mExec_52 (fun W hW => (ex_52 (x.ext hW)).mono fun e w' q => ⟨q.1, XO.ext hW q.2⟩)
theorem exx_53 (x : XC T A0 S0 B own w g c V st s sn stale f rest 53) : Calls Hvah.prog 120 #[.pointer (some ⟨g, 0, none⟩), .int .u8 ((53 : Nat) : Int)] w fun e w' => e = .returned (.tuple #[]) ∧ XO A0 S0 B own w g (st.stepF f rest) w' :=
  mExec_53 (fun W hW => (ex_53 (x.ext hW)).mono fun e w' q => ⟨q.1, XO.ext hW q.2⟩)
theorem exx_54 (x : XC T A0 S0 B own w g c V st s sn stale f rest 54) : Calls Hvah.prog 120 #[.pointer (some ⟨g, 0, none⟩), .int .u8 ((54 : Nat) : Int)] w fun e w' => e = .returned (.tuple #[]) ∧ XO A0 S0 B own w g (st.stepF f rest) w' :=
  mExec_54 (fun W hW => (ex_54 (x.ext hW)).mono fun e w' q => ⟨q.1, XO.ext hW q.2⟩)
theorem exx_55 (x : XC T A0 S0 B own w g c V st s sn stale f rest 55) : Calls Hvah.prog 120 #[.pointer (some ⟨g, 0, none⟩), .int .u8 ((55 : Nat) : Int)] w fun e w' => e = .returned (.tuple #[]) ∧ XO A0 S0 B own w g (st.stepF f rest) w' :=
  mExec_55 (fun W hW => (ex_55 (x.ext hW)).mono fun e w' q => ⟨q.1, XO.ext hW q.2⟩)
theorem exx_56 (x : XC T A0 S0 B own w g c V st s sn stale f rest 56) : Calls Hvah.prog 120 #[.pointer (some ⟨g, 0, none⟩), .int .u8 ((56 : Nat) : Int)] w fun e w' => e = .returned (.tuple #[]) ∧ XO A0 S0 B own w g (st.stepF f rest) w' :=
  mExec_56 (fun W hW => (ex_56 (x.ext hW)).mono fun e w' q => ⟨q.1, XO.ext hW q.2⟩)
theorem exx_57 (x : XC T A0 S0 B own w g c V st s sn stale f rest 57) : Calls Hvah.prog 120 #[.pointer (some ⟨g, 0, none⟩), .int .u8 ((57 : Nat) : Int)] w fun e w' => e = .returned (.tuple #[]) ∧ XO A0 S0 B own w g (st.stepF f rest) w' :=
  mExec_57 (fun W hW => (ex_57 (x.ext hW)).mono fun e w' q => ⟨q.1, XO.ext hW q.2⟩)
theorem exx_58 (x : XC T A0 S0 B own w g c V st s sn stale f rest 58) : Calls Hvah.prog 120 #[.pointer (some ⟨g, 0, none⟩), .int .u8 ((58 : Nat) : Int)] w fun e w' => e = .returned (.tuple #[]) ∧ XO A0 S0 B own w g (st.stepF f rest) w' :=
  mExec_58 (fun W hW => (ex_58 (x.ext hW)).mono fun e w' q => ⟨q.1, XO.ext hW q.2⟩)
theorem exx_59 (x : XC T A0 S0 B own w g c V st s sn stale f rest 59) : Calls Hvah.prog 120 #[.pointer (some ⟨g, 0, none⟩), .int .u8 ((59 : Nat) : Int)] w fun e w' => e = .returned (.tuple #[]) ∧ XO A0 S0 B own w g (st.stepF f rest) w' :=
  mExec_59 (fun W hW => (ex_59 (x.ext hW)).mono fun e w' q => ⟨q.1, XO.ext hW q.2⟩)
theorem exx_60 (x : XC T A0 S0 B own w g c V st s sn stale f rest 60) : Calls Hvah.prog 120 #[.pointer (some ⟨g, 0, none⟩), .int .u8 ((60 : Nat) : Int)] w fun e w' => e = .returned (.tuple #[]) ∧ XO A0 S0 B own w g (st.stepF f rest) w' :=
  mExec_60 (fun W hW => (ex_60 (x.ext hW)).mono fun e w' q => ⟨q.1, XO.ext hW q.2⟩)
theorem exx_61 (x : XC T A0 S0 B own w g c V st s sn stale f rest 61) : Calls Hvah.prog 120 #[.pointer (some ⟨g, 0, none⟩), .int .u8 ((61 : Nat) : Int)] w fun e w' => e = .returned (.tuple #[]) ∧ XO A0 S0 B own w g (st.stepF f rest) w' :=
  mExec_61 (fun W hW => (ex_61 (x.ext hW)).mono fun e w' q => ⟨q.1, XO.ext hW q.2⟩)
theorem exx_62 (x : XC T A0 S0 B own w g c V st s sn stale f rest 62) : Calls Hvah.prog 120 #[.pointer (some ⟨g, 0, none⟩), .int .u8 ((62 : Nat) : Int)] w fun e w' => e = .returned (.tuple #[]) ∧ XO A0 S0 B own w g (st.stepF f rest) w' :=
  mExec_62 (fun W hW => (ex_62 (x.ext hW)).mono fun e w' q => ⟨q.1, XO.ext hW q.2⟩)
theorem exx_63 (x : XC T A0 S0 B own w g c V st s sn stale f rest 63) : Calls Hvah.prog 120 #[.pointer (some ⟨g, 0, none⟩), .int .u8 ((63 : Nat) : Int)] w fun e w' => e = .returned (.tuple #[]) ∧ XO A0 S0 B own w g (st.stepF f rest) w' :=
  mExec_63 (fun W hW => (ex_63 (x.ext hW)).mono fun e w' q => ⟨q.1, XO.ext hW q.2⟩)
theorem exx_64 (x : XC T A0 S0 B own w g c V st s sn stale f rest 64) : Calls Hvah.prog 120 #[.pointer (some ⟨g, 0, none⟩), .int .u8 ((64 : Nat) : Int)] w fun e w' => e = .returned (.tuple #[]) ∧ XO A0 S0 B own w g (st.stepF f rest) w' :=
  mExec_64 (fun W hW => (ex_64 (x.ext hW)).mono fun e w' q => ⟨q.1, XO.ext hW q.2⟩)
theorem exx_65 (x : XC T A0 S0 B own w g c V st s sn stale f rest 65) : Calls Hvah.prog 120 #[.pointer (some ⟨g, 0, none⟩), .int .u8 ((65 : Nat) : Int)] w fun e w' => e = .returned (.tuple #[]) ∧ XO A0 S0 B own w g (st.stepF f rest) w' :=
  mExec_65 (fun W hW => (ex_65 (x.ext hW)).mono fun e w' q => ⟨q.1, XO.ext hW q.2⟩)
theorem exx_66 (x : XC T A0 S0 B own w g c V st s sn stale f rest 66) : Calls Hvah.prog 120 #[.pointer (some ⟨g, 0, none⟩), .int .u8 ((66 : Nat) : Int)] w fun e w' => e = .returned (.tuple #[]) ∧ XO A0 S0 B own w g (st.stepF f rest) w' :=
  mExec_66 (fun W hW => (ex_66 (x.ext hW)).mono fun e w' q => ⟨q.1, XO.ext hW q.2⟩)
theorem exx_67 (x : XC T A0 S0 B own w g c V st s sn stale f rest 67) : Calls Hvah.prog 120 #[.pointer (some ⟨g, 0, none⟩), .int .u8 ((67 : Nat) : Int)] w fun e w' => e = .returned (.tuple #[]) ∧ XO A0 S0 B own w g (st.stepF f rest) w' :=
  mExec_67 (fun W hW => (ex_67 (x.ext hW)).mono fun e w' q => ⟨q.1, XO.ext hW q.2⟩)
theorem exx_68 (x : XC T A0 S0 B own w g c V st s sn stale f rest 68) : Calls Hvah.prog 120 #[.pointer (some ⟨g, 0, none⟩), .int .u8 ((68 : Nat) : Int)] w fun e w' => e = .returned (.tuple #[]) ∧ XO A0 S0 B own w g (st.stepF f rest) w' :=
  mExec_68 (fun W hW => (ex_68 (x.ext hW)).mono fun e w' q => ⟨q.1, XO.ext hW q.2⟩)
theorem exx_69 (x : XC T A0 S0 B own w g c V st s sn stale f rest 69) : Calls Hvah.prog 120 #[.pointer (some ⟨g, 0, none⟩), .int .u8 ((69 : Nat) : Int)] w fun e w' => e = .returned (.tuple #[]) ∧ XO A0 S0 B own w g (st.stepF f rest) w' :=
  mExec_69 (fun W hW => (ex_69 (x.ext hW)).mono fun e w' q => ⟨q.1, XO.ext hW q.2⟩)
theorem exx_70 (x : XC T A0 S0 B own w g c V st s sn stale f rest 70) : Calls Hvah.prog 120 #[.pointer (some ⟨g, 0, none⟩), .int .u8 ((70 : Nat) : Int)] w fun e w' => e = .returned (.tuple #[]) ∧ XO A0 S0 B own w g (st.stepF f rest) w' :=
  mExec_70 (fun W hW => (ex_70 (x.ext hW)).mono fun e w' q => ⟨q.1, XO.ext hW q.2⟩)
theorem exx_71 (x : XC T A0 S0 B own w g c V st s sn stale f rest 71) : Calls Hvah.prog 120 #[.pointer (some ⟨g, 0, none⟩), .int .u8 ((71 : Nat) : Int)] w fun e w' => e = .returned (.tuple #[]) ∧ XO A0 S0 B own w g (st.stepF f rest) w' :=
  mExec_71 (fun W hW => (ex_71 (x.ext hW)).mono fun e w' q => ⟨q.1, XO.ext hW q.2⟩)
theorem exx_72 (x : XC T A0 S0 B own w g c V st s sn stale f rest 72) : Calls Hvah.prog 120 #[.pointer (some ⟨g, 0, none⟩), .int .u8 ((72 : Nat) : Int)] w fun e w' => e = .returned (.tuple #[]) ∧ XO A0 S0 B own w g (st.stepF f rest) w' :=
  mExec_72 (fun W hW => (ex_72 (x.ext hW)).mono fun e w' q => ⟨q.1, XO.ext hW q.2⟩)
theorem exx_80 (x : XC T A0 S0 B own w g c V st s sn stale f rest 80) : Calls Hvah.prog 120 #[.pointer (some ⟨g, 0, none⟩), .int .u8 ((80 : Nat) : Int)] w fun e w' => e = .returned (.tuple #[]) ∧ XO A0 S0 B own w g (st.stepF f rest) w' :=
  mExec_80 (fun W hW => (ex_80 (x.ext hW)).mono fun e w' q => ⟨q.1, XO.ext hW q.2⟩)
theorem exx_81 (x : XC T A0 S0 B own w g c V st s sn stale f rest 81) : Calls Hvah.prog 120 #[.pointer (some ⟨g, 0, none⟩), .int .u8 ((81 : Nat) : Int)] w fun e w' => e = .returned (.tuple #[]) ∧ XO A0 S0 B own w g (st.stepF f rest) w' :=
  mExec_81 (fun W hW => (ex_81 (x.ext hW)).mono fun e w' q => ⟨q.1, XO.ext hW q.2⟩)
theorem exx_82 (x : XC T A0 S0 B own w g c V st s sn stale f rest 82) : Calls Hvah.prog 120 #[.pointer (some ⟨g, 0, none⟩), .int .u8 ((82 : Nat) : Int)] w fun e w' => e = .returned (.tuple #[]) ∧ XO A0 S0 B own w g (st.stepF f rest) w' :=
  mExec_82 (fun W hW => (ex_82 (x.ext hW)).mono fun e w' q => ⟨q.1, XO.ext hW q.2⟩)
theorem exx_83 (x : XC T A0 S0 B own w g c V st s sn stale f rest 83) : Calls Hvah.prog 120 #[.pointer (some ⟨g, 0, none⟩), .int .u8 ((83 : Nat) : Int)] w fun e w' => e = .returned (.tuple #[]) ∧ XO A0 S0 B own w g (st.stepF f rest) w' :=
  mExec_83 (fun W hW => (ex_83 (x.ext hW)).mono fun e w' q => ⟨q.1, XO.ext hW q.2⟩)
theorem exx_84 (x : XC T A0 S0 B own w g c V st s sn stale f rest 84) : Calls Hvah.prog 120 #[.pointer (some ⟨g, 0, none⟩), .int .u8 ((84 : Nat) : Int)] w fun e w' => e = .returned (.tuple #[]) ∧ XO A0 S0 B own w g (st.stepF f rest) w' :=
  mExec_84 (fun W hW => (ex_84 (x.ext hW)).mono fun e w' q => ⟨q.1, XO.ext hW q.2⟩)
theorem exx_85 (x : XC T A0 S0 B own w g c V st s sn stale f rest 85) : Calls Hvah.prog 120 #[.pointer (some ⟨g, 0, none⟩), .int .u8 ((85 : Nat) : Int)] w fun e w' => e = .returned (.tuple #[]) ∧ XO A0 S0 B own w g (st.stepF f rest) w' :=
  mExec_85 (fun W hW => (ex_85 (x.ext hW)).mono fun e w' q => ⟨q.1, XO.ext hW q.2⟩)
theorem exx_86 (x : XC T A0 S0 B own w g c V st s sn stale f rest 86) : Calls Hvah.prog 120 #[.pointer (some ⟨g, 0, none⟩), .int .u8 ((86 : Nat) : Int)] w fun e w' => e = .returned (.tuple #[]) ∧ XO A0 S0 B own w g (st.stepF f rest) w' :=
  mExec_86 (fun W hW => (ex_86 (x.ext hW)).mono fun e w' q => ⟨q.1, XO.ext hW q.2⟩)
theorem exx_87 (x : XC T A0 S0 B own w g c V st s sn stale f rest 87) : Calls Hvah.prog 120 #[.pointer (some ⟨g, 0, none⟩), .int .u8 ((87 : Nat) : Int)] w fun e w' => e = .returned (.tuple #[]) ∧ XO A0 S0 B own w g (st.stepF f rest) w' :=
  mExec_87 (fun W hW => (ex_87 (x.ext hW)).mono fun e w' q => ⟨q.1, XO.ext hW q.2⟩)
theorem exx_88 (x : XC T A0 S0 B own w g c V st s sn stale f rest 88) : Calls Hvah.prog 120 #[.pointer (some ⟨g, 0, none⟩), .int .u8 ((88 : Nat) : Int)] w fun e w' => e = .returned (.tuple #[]) ∧ XO A0 S0 B own w g (st.stepF f rest) w' :=
  mExec_88 (fun W hW => (ex_88 (x.ext hW)).mono fun e w' q => ⟨q.1, XO.ext hW q.2⟩)
theorem exx_89 (x : XC T A0 S0 B own w g c V st s sn stale f rest 89) : Calls Hvah.prog 120 #[.pointer (some ⟨g, 0, none⟩), .int .u8 ((89 : Nat) : Int)] w fun e w' => e = .returned (.tuple #[]) ∧ XO A0 S0 B own w g (st.stepF f rest) w' :=
  mExec_89 (fun W hW => (ex_89 (x.ext hW)).mono fun e w' q => ⟨q.1, XO.ext hW q.2⟩)
theorem exx_90 (x : XC T A0 S0 B own w g c V st s sn stale f rest 90) : Calls Hvah.prog 120 #[.pointer (some ⟨g, 0, none⟩), .int .u8 ((90 : Nat) : Int)] w fun e w' => e = .returned (.tuple #[]) ∧ XO A0 S0 B own w g (st.stepF f rest) w' :=
  mExec_90 (fun W hW => (ex_90 (x.ext hW)).mono fun e w' q => ⟨q.1, XO.ext hW q.2⟩)
theorem exx_91 (x : XC T A0 S0 B own w g c V st s sn stale f rest 91) : Calls Hvah.prog 120 #[.pointer (some ⟨g, 0, none⟩), .int .u8 ((91 : Nat) : Int)] w fun e w' => e = .returned (.tuple #[]) ∧ XO A0 S0 B own w g (st.stepF f rest) w' :=
  mExec_91 (fun W hW => (ex_91 (x.ext hW)).mono fun e w' q => ⟨q.1, XO.ext hW q.2⟩)
theorem exx_92 (x : XC T A0 S0 B own w g c V st s sn stale f rest 92) : Calls Hvah.prog 120 #[.pointer (some ⟨g, 0, none⟩), .int .u8 ((92 : Nat) : Int)] w fun e w' => e = .returned (.tuple #[]) ∧ XO A0 S0 B own w g (st.stepF f rest) w' :=
  mExec_92 (fun W hW => (ex_92 (x.ext hW)).mono fun e w' q => ⟨q.1, XO.ext hW q.2⟩)
theorem exx_93 (x : XC T A0 S0 B own w g c V st s sn stale f rest 93) : Calls Hvah.prog 120 #[.pointer (some ⟨g, 0, none⟩), .int .u8 ((93 : Nat) : Int)] w fun e w' => e = .returned (.tuple #[]) ∧ XO A0 S0 B own w g (st.stepF f rest) w' :=
  mExec_93 (fun W hW => (ex_93 (x.ext hW)).mono fun e w' q => ⟨q.1, XO.ext hW q.2⟩)
theorem exx_94 (x : XC T A0 S0 B own w g c V st s sn stale f rest 94) : Calls Hvah.prog 120 #[.pointer (some ⟨g, 0, none⟩), .int .u8 ((94 : Nat) : Int)] w fun e w' => e = .returned (.tuple #[]) ∧ XO A0 S0 B own w g (st.stepF f rest) w' :=
  mExec_94 (fun W hW => (ex_94 (x.ext hW)).mono fun e w' q => ⟨q.1, XO.ext hW q.2⟩)
theorem exx_95 (x : XC T A0 S0 B own w g c V st s sn stale f rest 95) : Calls Hvah.prog 120 #[.pointer (some ⟨g, 0, none⟩), .int .u8 ((95 : Nat) : Int)] w fun e w' => e = .returned (.tuple #[]) ∧ XO A0 S0 B own w g (st.stepF f rest) w' :=
  mExec_95 (fun W hW => (ex_push (x.ext hW) (by decide) (by decide)).mono fun e w' q => ⟨q.1, XO.ext hW q.2⟩)
theorem exx_96 (x : XC T A0 S0 B own w g c V st s sn stale f rest 96) : Calls Hvah.prog 120 #[.pointer (some ⟨g, 0, none⟩), .int .u8 ((96 : Nat) : Int)] w fun e w' => e = .returned (.tuple #[]) ∧ XO A0 S0 B own w g (st.stepF f rest) w' :=
  mExec_96 (fun W hW => (ex_push (x.ext hW) (by decide) (by decide)).mono fun e w' q => ⟨q.1, XO.ext hW q.2⟩)
theorem exx_97 (x : XC T A0 S0 B own w g c V st s sn stale f rest 97) : Calls Hvah.prog 120 #[.pointer (some ⟨g, 0, none⟩), .int .u8 ((97 : Nat) : Int)] w fun e w' => e = .returned (.tuple #[]) ∧ XO A0 S0 B own w g (st.stepF f rest) w' :=
  mExec_97 (fun W hW => (ex_push (x.ext hW) (by decide) (by decide)).mono fun e w' q => ⟨q.1, XO.ext hW q.2⟩)
theorem exx_98 (x : XC T A0 S0 B own w g c V st s sn stale f rest 98) : Calls Hvah.prog 120 #[.pointer (some ⟨g, 0, none⟩), .int .u8 ((98 : Nat) : Int)] w fun e w' => e = .returned (.tuple #[]) ∧ XO A0 S0 B own w g (st.stepF f rest) w' :=
  mExec_98 (fun W hW => (ex_push (x.ext hW) (by decide) (by decide)).mono fun e w' q => ⟨q.1, XO.ext hW q.2⟩)
theorem exx_99 (x : XC T A0 S0 B own w g c V st s sn stale f rest 99) : Calls Hvah.prog 120 #[.pointer (some ⟨g, 0, none⟩), .int .u8 ((99 : Nat) : Int)] w fun e w' => e = .returned (.tuple #[]) ∧ XO A0 S0 B own w g (st.stepF f rest) w' :=
  mExec_99 (fun W hW => (ex_push (x.ext hW) (by decide) (by decide)).mono fun e w' q => ⟨q.1, XO.ext hW q.2⟩)
theorem exx_100 (x : XC T A0 S0 B own w g c V st s sn stale f rest 100) : Calls Hvah.prog 120 #[.pointer (some ⟨g, 0, none⟩), .int .u8 ((100 : Nat) : Int)] w fun e w' => e = .returned (.tuple #[]) ∧ XO A0 S0 B own w g (st.stepF f rest) w' :=
  mExec_100 (fun W hW => (ex_push (x.ext hW) (by decide) (by decide)).mono fun e w' q => ⟨q.1, XO.ext hW q.2⟩)
theorem exx_101 (x : XC T A0 S0 B own w g c V st s sn stale f rest 101) : Calls Hvah.prog 120 #[.pointer (some ⟨g, 0, none⟩), .int .u8 ((101 : Nat) : Int)] w fun e w' => e = .returned (.tuple #[]) ∧ XO A0 S0 B own w g (st.stepF f rest) w' :=
  mExec_101 (fun W hW => (ex_push (x.ext hW) (by decide) (by decide)).mono fun e w' q => ⟨q.1, XO.ext hW q.2⟩)
theorem exx_102 (x : XC T A0 S0 B own w g c V st s sn stale f rest 102) : Calls Hvah.prog 120 #[.pointer (some ⟨g, 0, none⟩), .int .u8 ((102 : Nat) : Int)] w fun e w' => e = .returned (.tuple #[]) ∧ XO A0 S0 B own w g (st.stepF f rest) w' :=
  mExec_102 (fun W hW => (ex_push (x.ext hW) (by decide) (by decide)).mono fun e w' q => ⟨q.1, XO.ext hW q.2⟩)
theorem exx_103 (x : XC T A0 S0 B own w g c V st s sn stale f rest 103) : Calls Hvah.prog 120 #[.pointer (some ⟨g, 0, none⟩), .int .u8 ((103 : Nat) : Int)] w fun e w' => e = .returned (.tuple #[]) ∧ XO A0 S0 B own w g (st.stepF f rest) w' :=
  mExec_103 (fun W hW => (ex_push (x.ext hW) (by decide) (by decide)).mono fun e w' q => ⟨q.1, XO.ext hW q.2⟩)
theorem exx_104 (x : XC T A0 S0 B own w g c V st s sn stale f rest 104) : Calls Hvah.prog 120 #[.pointer (some ⟨g, 0, none⟩), .int .u8 ((104 : Nat) : Int)] w fun e w' => e = .returned (.tuple #[]) ∧ XO A0 S0 B own w g (st.stepF f rest) w' :=
  mExec_104 (fun W hW => (ex_push (x.ext hW) (by decide) (by decide)).mono fun e w' q => ⟨q.1, XO.ext hW q.2⟩)
theorem exx_105 (x : XC T A0 S0 B own w g c V st s sn stale f rest 105) : Calls Hvah.prog 120 #[.pointer (some ⟨g, 0, none⟩), .int .u8 ((105 : Nat) : Int)] w fun e w' => e = .returned (.tuple #[]) ∧ XO A0 S0 B own w g (st.stepF f rest) w' :=
  mExec_105 (fun W hW => (ex_push (x.ext hW) (by decide) (by decide)).mono fun e w' q => ⟨q.1, XO.ext hW q.2⟩)
theorem exx_106 (x : XC T A0 S0 B own w g c V st s sn stale f rest 106) : Calls Hvah.prog 120 #[.pointer (some ⟨g, 0, none⟩), .int .u8 ((106 : Nat) : Int)] w fun e w' => e = .returned (.tuple #[]) ∧ XO A0 S0 B own w g (st.stepF f rest) w' :=
  mExec_106 (fun W hW => (ex_push (x.ext hW) (by decide) (by decide)).mono fun e w' q => ⟨q.1, XO.ext hW q.2⟩)
theorem exx_107 (x : XC T A0 S0 B own w g c V st s sn stale f rest 107) : Calls Hvah.prog 120 #[.pointer (some ⟨g, 0, none⟩), .int .u8 ((107 : Nat) : Int)] w fun e w' => e = .returned (.tuple #[]) ∧ XO A0 S0 B own w g (st.stepF f rest) w' :=
  mExec_107 (fun W hW => (ex_push (x.ext hW) (by decide) (by decide)).mono fun e w' q => ⟨q.1, XO.ext hW q.2⟩)
theorem exx_108 (x : XC T A0 S0 B own w g c V st s sn stale f rest 108) : Calls Hvah.prog 120 #[.pointer (some ⟨g, 0, none⟩), .int .u8 ((108 : Nat) : Int)] w fun e w' => e = .returned (.tuple #[]) ∧ XO A0 S0 B own w g (st.stepF f rest) w' :=
  mExec_108 (fun W hW => (ex_push (x.ext hW) (by decide) (by decide)).mono fun e w' q => ⟨q.1, XO.ext hW q.2⟩)
theorem exx_109 (x : XC T A0 S0 B own w g c V st s sn stale f rest 109) : Calls Hvah.prog 120 #[.pointer (some ⟨g, 0, none⟩), .int .u8 ((109 : Nat) : Int)] w fun e w' => e = .returned (.tuple #[]) ∧ XO A0 S0 B own w g (st.stepF f rest) w' :=
  mExec_109 (fun W hW => (ex_push (x.ext hW) (by decide) (by decide)).mono fun e w' q => ⟨q.1, XO.ext hW q.2⟩)
theorem exx_110 (x : XC T A0 S0 B own w g c V st s sn stale f rest 110) : Calls Hvah.prog 120 #[.pointer (some ⟨g, 0, none⟩), .int .u8 ((110 : Nat) : Int)] w fun e w' => e = .returned (.tuple #[]) ∧ XO A0 S0 B own w g (st.stepF f rest) w' :=
  mExec_110 (fun W hW => (ex_push (x.ext hW) (by decide) (by decide)).mono fun e w' q => ⟨q.1, XO.ext hW q.2⟩)
theorem exx_111 (x : XC T A0 S0 B own w g c V st s sn stale f rest 111) : Calls Hvah.prog 120 #[.pointer (some ⟨g, 0, none⟩), .int .u8 ((111 : Nat) : Int)] w fun e w' => e = .returned (.tuple #[]) ∧ XO A0 S0 B own w g (st.stepF f rest) w' :=
  mExec_111 (fun W hW => (ex_push (x.ext hW) (by decide) (by decide)).mono fun e w' q => ⟨q.1, XO.ext hW q.2⟩)
theorem exx_112 (x : XC T A0 S0 B own w g c V st s sn stale f rest 112) : Calls Hvah.prog 120 #[.pointer (some ⟨g, 0, none⟩), .int .u8 ((112 : Nat) : Int)] w fun e w' => e = .returned (.tuple #[]) ∧ XO A0 S0 B own w g (st.stepF f rest) w' :=
  mExec_112 (fun W hW => (ex_push (x.ext hW) (by decide) (by decide)).mono fun e w' q => ⟨q.1, XO.ext hW q.2⟩)
theorem exx_113 (x : XC T A0 S0 B own w g c V st s sn stale f rest 113) : Calls Hvah.prog 120 #[.pointer (some ⟨g, 0, none⟩), .int .u8 ((113 : Nat) : Int)] w fun e w' => e = .returned (.tuple #[]) ∧ XO A0 S0 B own w g (st.stepF f rest) w' :=
  mExec_113 (fun W hW => (ex_push (x.ext hW) (by decide) (by decide)).mono fun e w' q => ⟨q.1, XO.ext hW q.2⟩)
theorem exx_114 (x : XC T A0 S0 B own w g c V st s sn stale f rest 114) : Calls Hvah.prog 120 #[.pointer (some ⟨g, 0, none⟩), .int .u8 ((114 : Nat) : Int)] w fun e w' => e = .returned (.tuple #[]) ∧ XO A0 S0 B own w g (st.stepF f rest) w' :=
  mExec_114 (fun W hW => (ex_push (x.ext hW) (by decide) (by decide)).mono fun e w' q => ⟨q.1, XO.ext hW q.2⟩)
theorem exx_115 (x : XC T A0 S0 B own w g c V st s sn stale f rest 115) : Calls Hvah.prog 120 #[.pointer (some ⟨g, 0, none⟩), .int .u8 ((115 : Nat) : Int)] w fun e w' => e = .returned (.tuple #[]) ∧ XO A0 S0 B own w g (st.stepF f rest) w' :=
  mExec_115 (fun W hW => (ex_push (x.ext hW) (by decide) (by decide)).mono fun e w' q => ⟨q.1, XO.ext hW q.2⟩)
theorem exx_116 (x : XC T A0 S0 B own w g c V st s sn stale f rest 116) : Calls Hvah.prog 120 #[.pointer (some ⟨g, 0, none⟩), .int .u8 ((116 : Nat) : Int)] w fun e w' => e = .returned (.tuple #[]) ∧ XO A0 S0 B own w g (st.stepF f rest) w' :=
  mExec_116 (fun W hW => (ex_push (x.ext hW) (by decide) (by decide)).mono fun e w' q => ⟨q.1, XO.ext hW q.2⟩)
theorem exx_117 (x : XC T A0 S0 B own w g c V st s sn stale f rest 117) : Calls Hvah.prog 120 #[.pointer (some ⟨g, 0, none⟩), .int .u8 ((117 : Nat) : Int)] w fun e w' => e = .returned (.tuple #[]) ∧ XO A0 S0 B own w g (st.stepF f rest) w' :=
  mExec_117 (fun W hW => (ex_push (x.ext hW) (by decide) (by decide)).mono fun e w' q => ⟨q.1, XO.ext hW q.2⟩)
theorem exx_118 (x : XC T A0 S0 B own w g c V st s sn stale f rest 118) : Calls Hvah.prog 120 #[.pointer (some ⟨g, 0, none⟩), .int .u8 ((118 : Nat) : Int)] w fun e w' => e = .returned (.tuple #[]) ∧ XO A0 S0 B own w g (st.stepF f rest) w' :=
  mExec_118 (fun W hW => (ex_push (x.ext hW) (by decide) (by decide)).mono fun e w' q => ⟨q.1, XO.ext hW q.2⟩)
theorem exx_119 (x : XC T A0 S0 B own w g c V st s sn stale f rest 119) : Calls Hvah.prog 120 #[.pointer (some ⟨g, 0, none⟩), .int .u8 ((119 : Nat) : Int)] w fun e w' => e = .returned (.tuple #[]) ∧ XO A0 S0 B own w g (st.stepF f rest) w' :=
  mExec_119 (fun W hW => (ex_push (x.ext hW) (by decide) (by decide)).mono fun e w' q => ⟨q.1, XO.ext hW q.2⟩)
theorem exx_120 (x : XC T A0 S0 B own w g c V st s sn stale f rest 120) : Calls Hvah.prog 120 #[.pointer (some ⟨g, 0, none⟩), .int .u8 ((120 : Nat) : Int)] w fun e w' => e = .returned (.tuple #[]) ∧ XO A0 S0 B own w g (st.stepF f rest) w' :=
  mExec_120 (fun W hW => (ex_push (x.ext hW) (by decide) (by decide)).mono fun e w' q => ⟨q.1, XO.ext hW q.2⟩)
theorem exx_121 (x : XC T A0 S0 B own w g c V st s sn stale f rest 121) : Calls Hvah.prog 120 #[.pointer (some ⟨g, 0, none⟩), .int .u8 ((121 : Nat) : Int)] w fun e w' => e = .returned (.tuple #[]) ∧ XO A0 S0 B own w g (st.stepF f rest) w' :=
  mExec_121 (fun W hW => (ex_push (x.ext hW) (by decide) (by decide)).mono fun e w' q => ⟨q.1, XO.ext hW q.2⟩)
theorem exx_122 (x : XC T A0 S0 B own w g c V st s sn stale f rest 122) : Calls Hvah.prog 120 #[.pointer (some ⟨g, 0, none⟩), .int .u8 ((122 : Nat) : Int)] w fun e w' => e = .returned (.tuple #[]) ∧ XO A0 S0 B own w g (st.stepF f rest) w' :=
  mExec_122 (fun W hW => (ex_push (x.ext hW) (by decide) (by decide)).mono fun e w' q => ⟨q.1, XO.ext hW q.2⟩)
theorem exx_123 (x : XC T A0 S0 B own w g c V st s sn stale f rest 123) : Calls Hvah.prog 120 #[.pointer (some ⟨g, 0, none⟩), .int .u8 ((123 : Nat) : Int)] w fun e w' => e = .returned (.tuple #[]) ∧ XO A0 S0 B own w g (st.stepF f rest) w' :=
  mExec_123 (fun W hW => (ex_push (x.ext hW) (by decide) (by decide)).mono fun e w' q => ⟨q.1, XO.ext hW q.2⟩)
theorem exx_124 (x : XC T A0 S0 B own w g c V st s sn stale f rest 124) : Calls Hvah.prog 120 #[.pointer (some ⟨g, 0, none⟩), .int .u8 ((124 : Nat) : Int)] w fun e w' => e = .returned (.tuple #[]) ∧ XO A0 S0 B own w g (st.stepF f rest) w' :=
  mExec_124 (fun W hW => (ex_push (x.ext hW) (by decide) (by decide)).mono fun e w' q => ⟨q.1, XO.ext hW q.2⟩)
theorem exx_125 (x : XC T A0 S0 B own w g c V st s sn stale f rest 125) : Calls Hvah.prog 120 #[.pointer (some ⟨g, 0, none⟩), .int .u8 ((125 : Nat) : Int)] w fun e w' => e = .returned (.tuple #[]) ∧ XO A0 S0 B own w g (st.stepF f rest) w' :=
  mExec_125 (fun W hW => (ex_push (x.ext hW) (by decide) (by decide)).mono fun e w' q => ⟨q.1, XO.ext hW q.2⟩)
theorem exx_126 (x : XC T A0 S0 B own w g c V st s sn stale f rest 126) : Calls Hvah.prog 120 #[.pointer (some ⟨g, 0, none⟩), .int .u8 ((126 : Nat) : Int)] w fun e w' => e = .returned (.tuple #[]) ∧ XO A0 S0 B own w g (st.stepF f rest) w' :=
  mExec_126 (fun W hW => (ex_push (x.ext hW) (by decide) (by decide)).mono fun e w' q => ⟨q.1, XO.ext hW q.2⟩)
theorem exx_127 (x : XC T A0 S0 B own w g c V st s sn stale f rest 127) : Calls Hvah.prog 120 #[.pointer (some ⟨g, 0, none⟩), .int .u8 ((127 : Nat) : Int)] w fun e w' => e = .returned (.tuple #[]) ∧ XO A0 S0 B own w g (st.stepF f rest) w' :=
  mExec_127 (fun W hW => (ex_push (x.ext hW) (by decide) (by decide)).mono fun e w' q => ⟨q.1, XO.ext hW q.2⟩)
theorem exx_128 (x : XC T A0 S0 B own w g c V st s sn stale f rest 128) : Calls Hvah.prog 120 #[.pointer (some ⟨g, 0, none⟩), .int .u8 ((128 : Nat) : Int)] w fun e w' => e = .returned (.tuple #[]) ∧ XO A0 S0 B own w g (st.stepF f rest) w' :=
  mExec_128 (fun W hW => (ex_dup (x.ext hW) (by decide) (by decide)).mono fun e w' q => ⟨q.1, XO.ext hW q.2⟩)
theorem exx_129 (x : XC T A0 S0 B own w g c V st s sn stale f rest 129) : Calls Hvah.prog 120 #[.pointer (some ⟨g, 0, none⟩), .int .u8 ((129 : Nat) : Int)] w fun e w' => e = .returned (.tuple #[]) ∧ XO A0 S0 B own w g (st.stepF f rest) w' :=
  mExec_129 (fun W hW => (ex_dup (x.ext hW) (by decide) (by decide)).mono fun e w' q => ⟨q.1, XO.ext hW q.2⟩)
theorem exx_130 (x : XC T A0 S0 B own w g c V st s sn stale f rest 130) : Calls Hvah.prog 120 #[.pointer (some ⟨g, 0, none⟩), .int .u8 ((130 : Nat) : Int)] w fun e w' => e = .returned (.tuple #[]) ∧ XO A0 S0 B own w g (st.stepF f rest) w' :=
  mExec_130 (fun W hW => (ex_dup (x.ext hW) (by decide) (by decide)).mono fun e w' q => ⟨q.1, XO.ext hW q.2⟩)
theorem exx_131 (x : XC T A0 S0 B own w g c V st s sn stale f rest 131) : Calls Hvah.prog 120 #[.pointer (some ⟨g, 0, none⟩), .int .u8 ((131 : Nat) : Int)] w fun e w' => e = .returned (.tuple #[]) ∧ XO A0 S0 B own w g (st.stepF f rest) w' :=
  mExec_131 (fun W hW => (ex_dup (x.ext hW) (by decide) (by decide)).mono fun e w' q => ⟨q.1, XO.ext hW q.2⟩)
theorem exx_132 (x : XC T A0 S0 B own w g c V st s sn stale f rest 132) : Calls Hvah.prog 120 #[.pointer (some ⟨g, 0, none⟩), .int .u8 ((132 : Nat) : Int)] w fun e w' => e = .returned (.tuple #[]) ∧ XO A0 S0 B own w g (st.stepF f rest) w' :=
  mExec_132 (fun W hW => (ex_dup (x.ext hW) (by decide) (by decide)).mono fun e w' q => ⟨q.1, XO.ext hW q.2⟩)
theorem exx_133 (x : XC T A0 S0 B own w g c V st s sn stale f rest 133) : Calls Hvah.prog 120 #[.pointer (some ⟨g, 0, none⟩), .int .u8 ((133 : Nat) : Int)] w fun e w' => e = .returned (.tuple #[]) ∧ XO A0 S0 B own w g (st.stepF f rest) w' :=
  mExec_133 (fun W hW => (ex_dup (x.ext hW) (by decide) (by decide)).mono fun e w' q => ⟨q.1, XO.ext hW q.2⟩)
theorem exx_134 (x : XC T A0 S0 B own w g c V st s sn stale f rest 134) : Calls Hvah.prog 120 #[.pointer (some ⟨g, 0, none⟩), .int .u8 ((134 : Nat) : Int)] w fun e w' => e = .returned (.tuple #[]) ∧ XO A0 S0 B own w g (st.stepF f rest) w' :=
  mExec_134 (fun W hW => (ex_dup (x.ext hW) (by decide) (by decide)).mono fun e w' q => ⟨q.1, XO.ext hW q.2⟩)
theorem exx_135 (x : XC T A0 S0 B own w g c V st s sn stale f rest 135) : Calls Hvah.prog 120 #[.pointer (some ⟨g, 0, none⟩), .int .u8 ((135 : Nat) : Int)] w fun e w' => e = .returned (.tuple #[]) ∧ XO A0 S0 B own w g (st.stepF f rest) w' :=
  mExec_135 (fun W hW => (ex_dup (x.ext hW) (by decide) (by decide)).mono fun e w' q => ⟨q.1, XO.ext hW q.2⟩)
theorem exx_136 (x : XC T A0 S0 B own w g c V st s sn stale f rest 136) : Calls Hvah.prog 120 #[.pointer (some ⟨g, 0, none⟩), .int .u8 ((136 : Nat) : Int)] w fun e w' => e = .returned (.tuple #[]) ∧ XO A0 S0 B own w g (st.stepF f rest) w' :=
  mExec_136 (fun W hW => (ex_dup (x.ext hW) (by decide) (by decide)).mono fun e w' q => ⟨q.1, XO.ext hW q.2⟩)
theorem exx_137 (x : XC T A0 S0 B own w g c V st s sn stale f rest 137) : Calls Hvah.prog 120 #[.pointer (some ⟨g, 0, none⟩), .int .u8 ((137 : Nat) : Int)] w fun e w' => e = .returned (.tuple #[]) ∧ XO A0 S0 B own w g (st.stepF f rest) w' :=
  mExec_137 (fun W hW => (ex_dup (x.ext hW) (by decide) (by decide)).mono fun e w' q => ⟨q.1, XO.ext hW q.2⟩)
theorem exx_138 (x : XC T A0 S0 B own w g c V st s sn stale f rest 138) : Calls Hvah.prog 120 #[.pointer (some ⟨g, 0, none⟩), .int .u8 ((138 : Nat) : Int)] w fun e w' => e = .returned (.tuple #[]) ∧ XO A0 S0 B own w g (st.stepF f rest) w' :=
  mExec_138 (fun W hW => (ex_dup (x.ext hW) (by decide) (by decide)).mono fun e w' q => ⟨q.1, XO.ext hW q.2⟩)
theorem exx_139 (x : XC T A0 S0 B own w g c V st s sn stale f rest 139) : Calls Hvah.prog 120 #[.pointer (some ⟨g, 0, none⟩), .int .u8 ((139 : Nat) : Int)] w fun e w' => e = .returned (.tuple #[]) ∧ XO A0 S0 B own w g (st.stepF f rest) w' :=
  mExec_139 (fun W hW => (ex_dup (x.ext hW) (by decide) (by decide)).mono fun e w' q => ⟨q.1, XO.ext hW q.2⟩)
theorem exx_140 (x : XC T A0 S0 B own w g c V st s sn stale f rest 140) : Calls Hvah.prog 120 #[.pointer (some ⟨g, 0, none⟩), .int .u8 ((140 : Nat) : Int)] w fun e w' => e = .returned (.tuple #[]) ∧ XO A0 S0 B own w g (st.stepF f rest) w' :=
  mExec_140 (fun W hW => (ex_dup (x.ext hW) (by decide) (by decide)).mono fun e w' q => ⟨q.1, XO.ext hW q.2⟩)
theorem exx_141 (x : XC T A0 S0 B own w g c V st s sn stale f rest 141) : Calls Hvah.prog 120 #[.pointer (some ⟨g, 0, none⟩), .int .u8 ((141 : Nat) : Int)] w fun e w' => e = .returned (.tuple #[]) ∧ XO A0 S0 B own w g (st.stepF f rest) w' :=
  mExec_141 (fun W hW => (ex_dup (x.ext hW) (by decide) (by decide)).mono fun e w' q => ⟨q.1, XO.ext hW q.2⟩)
theorem exx_142 (x : XC T A0 S0 B own w g c V st s sn stale f rest 142) : Calls Hvah.prog 120 #[.pointer (some ⟨g, 0, none⟩), .int .u8 ((142 : Nat) : Int)] w fun e w' => e = .returned (.tuple #[]) ∧ XO A0 S0 B own w g (st.stepF f rest) w' :=
  mExec_142 (fun W hW => (ex_dup (x.ext hW) (by decide) (by decide)).mono fun e w' q => ⟨q.1, XO.ext hW q.2⟩)
theorem exx_143 (x : XC T A0 S0 B own w g c V st s sn stale f rest 143) : Calls Hvah.prog 120 #[.pointer (some ⟨g, 0, none⟩), .int .u8 ((143 : Nat) : Int)] w fun e w' => e = .returned (.tuple #[]) ∧ XO A0 S0 B own w g (st.stepF f rest) w' :=
  mExec_143 (fun W hW => (ex_dup (x.ext hW) (by decide) (by decide)).mono fun e w' q => ⟨q.1, XO.ext hW q.2⟩)
theorem exx_144 (x : XC T A0 S0 B own w g c V st s sn stale f rest 144) : Calls Hvah.prog 120 #[.pointer (some ⟨g, 0, none⟩), .int .u8 ((144 : Nat) : Int)] w fun e w' => e = .returned (.tuple #[]) ∧ XO A0 S0 B own w g (st.stepF f rest) w' :=
  mExec_144 (fun W hW => (ex_swap (x.ext hW) (by decide) (by decide)).mono fun e w' q => ⟨q.1, XO.ext hW q.2⟩)
theorem exx_145 (x : XC T A0 S0 B own w g c V st s sn stale f rest 145) : Calls Hvah.prog 120 #[.pointer (some ⟨g, 0, none⟩), .int .u8 ((145 : Nat) : Int)] w fun e w' => e = .returned (.tuple #[]) ∧ XO A0 S0 B own w g (st.stepF f rest) w' :=
  mExec_145 (fun W hW => (ex_swap (x.ext hW) (by decide) (by decide)).mono fun e w' q => ⟨q.1, XO.ext hW q.2⟩)
theorem exx_146 (x : XC T A0 S0 B own w g c V st s sn stale f rest 146) : Calls Hvah.prog 120 #[.pointer (some ⟨g, 0, none⟩), .int .u8 ((146 : Nat) : Int)] w fun e w' => e = .returned (.tuple #[]) ∧ XO A0 S0 B own w g (st.stepF f rest) w' :=
  mExec_146 (fun W hW => (ex_swap (x.ext hW) (by decide) (by decide)).mono fun e w' q => ⟨q.1, XO.ext hW q.2⟩)
theorem exx_147 (x : XC T A0 S0 B own w g c V st s sn stale f rest 147) : Calls Hvah.prog 120 #[.pointer (some ⟨g, 0, none⟩), .int .u8 ((147 : Nat) : Int)] w fun e w' => e = .returned (.tuple #[]) ∧ XO A0 S0 B own w g (st.stepF f rest) w' :=
  mExec_147 (fun W hW => (ex_swap (x.ext hW) (by decide) (by decide)).mono fun e w' q => ⟨q.1, XO.ext hW q.2⟩)
theorem exx_148 (x : XC T A0 S0 B own w g c V st s sn stale f rest 148) : Calls Hvah.prog 120 #[.pointer (some ⟨g, 0, none⟩), .int .u8 ((148 : Nat) : Int)] w fun e w' => e = .returned (.tuple #[]) ∧ XO A0 S0 B own w g (st.stepF f rest) w' :=
  mExec_148 (fun W hW => (ex_swap (x.ext hW) (by decide) (by decide)).mono fun e w' q => ⟨q.1, XO.ext hW q.2⟩)
theorem exx_149 (x : XC T A0 S0 B own w g c V st s sn stale f rest 149) : Calls Hvah.prog 120 #[.pointer (some ⟨g, 0, none⟩), .int .u8 ((149 : Nat) : Int)] w fun e w' => e = .returned (.tuple #[]) ∧ XO A0 S0 B own w g (st.stepF f rest) w' :=
  mExec_149 (fun W hW => (ex_swap (x.ext hW) (by decide) (by decide)).mono fun e w' q => ⟨q.1, XO.ext hW q.2⟩)
theorem exx_150 (x : XC T A0 S0 B own w g c V st s sn stale f rest 150) : Calls Hvah.prog 120 #[.pointer (some ⟨g, 0, none⟩), .int .u8 ((150 : Nat) : Int)] w fun e w' => e = .returned (.tuple #[]) ∧ XO A0 S0 B own w g (st.stepF f rest) w' :=
  mExec_150 (fun W hW => (ex_swap (x.ext hW) (by decide) (by decide)).mono fun e w' q => ⟨q.1, XO.ext hW q.2⟩)
theorem exx_151 (x : XC T A0 S0 B own w g c V st s sn stale f rest 151) : Calls Hvah.prog 120 #[.pointer (some ⟨g, 0, none⟩), .int .u8 ((151 : Nat) : Int)] w fun e w' => e = .returned (.tuple #[]) ∧ XO A0 S0 B own w g (st.stepF f rest) w' :=
  mExec_151 (fun W hW => (ex_swap (x.ext hW) (by decide) (by decide)).mono fun e w' q => ⟨q.1, XO.ext hW q.2⟩)
theorem exx_152 (x : XC T A0 S0 B own w g c V st s sn stale f rest 152) : Calls Hvah.prog 120 #[.pointer (some ⟨g, 0, none⟩), .int .u8 ((152 : Nat) : Int)] w fun e w' => e = .returned (.tuple #[]) ∧ XO A0 S0 B own w g (st.stepF f rest) w' :=
  mExec_152 (fun W hW => (ex_swap (x.ext hW) (by decide) (by decide)).mono fun e w' q => ⟨q.1, XO.ext hW q.2⟩)
theorem exx_153 (x : XC T A0 S0 B own w g c V st s sn stale f rest 153) : Calls Hvah.prog 120 #[.pointer (some ⟨g, 0, none⟩), .int .u8 ((153 : Nat) : Int)] w fun e w' => e = .returned (.tuple #[]) ∧ XO A0 S0 B own w g (st.stepF f rest) w' :=
  mExec_153 (fun W hW => (ex_swap (x.ext hW) (by decide) (by decide)).mono fun e w' q => ⟨q.1, XO.ext hW q.2⟩)
theorem exx_154 (x : XC T A0 S0 B own w g c V st s sn stale f rest 154) : Calls Hvah.prog 120 #[.pointer (some ⟨g, 0, none⟩), .int .u8 ((154 : Nat) : Int)] w fun e w' => e = .returned (.tuple #[]) ∧ XO A0 S0 B own w g (st.stepF f rest) w' :=
  mExec_154 (fun W hW => (ex_swap (x.ext hW) (by decide) (by decide)).mono fun e w' q => ⟨q.1, XO.ext hW q.2⟩)
theorem exx_155 (x : XC T A0 S0 B own w g c V st s sn stale f rest 155) : Calls Hvah.prog 120 #[.pointer (some ⟨g, 0, none⟩), .int .u8 ((155 : Nat) : Int)] w fun e w' => e = .returned (.tuple #[]) ∧ XO A0 S0 B own w g (st.stepF f rest) w' :=
  mExec_155 (fun W hW => (ex_swap (x.ext hW) (by decide) (by decide)).mono fun e w' q => ⟨q.1, XO.ext hW q.2⟩)
theorem exx_156 (x : XC T A0 S0 B own w g c V st s sn stale f rest 156) : Calls Hvah.prog 120 #[.pointer (some ⟨g, 0, none⟩), .int .u8 ((156 : Nat) : Int)] w fun e w' => e = .returned (.tuple #[]) ∧ XO A0 S0 B own w g (st.stepF f rest) w' :=
  mExec_156 (fun W hW => (ex_swap (x.ext hW) (by decide) (by decide)).mono fun e w' q => ⟨q.1, XO.ext hW q.2⟩)
theorem exx_157 (x : XC T A0 S0 B own w g c V st s sn stale f rest 157) : Calls Hvah.prog 120 #[.pointer (some ⟨g, 0, none⟩), .int .u8 ((157 : Nat) : Int)] w fun e w' => e = .returned (.tuple #[]) ∧ XO A0 S0 B own w g (st.stepF f rest) w' :=
  mExec_157 (fun W hW => (ex_swap (x.ext hW) (by decide) (by decide)).mono fun e w' q => ⟨q.1, XO.ext hW q.2⟩)
theorem exx_158 (x : XC T A0 S0 B own w g c V st s sn stale f rest 158) : Calls Hvah.prog 120 #[.pointer (some ⟨g, 0, none⟩), .int .u8 ((158 : Nat) : Int)] w fun e w' => e = .returned (.tuple #[]) ∧ XO A0 S0 B own w g (st.stepF f rest) w' :=
  mExec_158 (fun W hW => (ex_swap (x.ext hW) (by decide) (by decide)).mono fun e w' q => ⟨q.1, XO.ext hW q.2⟩)
theorem exx_159 (x : XC T A0 S0 B own w g c V st s sn stale f rest 159) : Calls Hvah.prog 120 #[.pointer (some ⟨g, 0, none⟩), .int .u8 ((159 : Nat) : Int)] w fun e w' => e = .returned (.tuple #[]) ∧ XO A0 S0 B own w g (st.stepF f rest) w' :=
  mExec_159 (fun W hW => (ex_swap (x.ext hW) (by decide) (by decide)).mono fun e w' q => ⟨q.1, XO.ext hW q.2⟩)
theorem exx_160 (x : XC T A0 S0 B own w g c V st s sn stale f rest 160) : Calls Hvah.prog 120 #[.pointer (some ⟨g, 0, none⟩), .int .u8 ((160 : Nat) : Int)] w fun e w' => e = .returned (.tuple #[]) ∧ XO A0 S0 B own w g (st.stepF f rest) w' :=
  mExec_160 (fun W hW => (ex_160 (x.ext hW)).mono fun e w' q => ⟨q.1, XO.ext hW q.2⟩)
theorem exx_161 (x : XC T A0 S0 B own w g c V st s sn stale f rest 161) : Calls Hvah.prog 120 #[.pointer (some ⟨g, 0, none⟩), .int .u8 ((161 : Nat) : Int)] w fun e w' => e = .returned (.tuple #[]) ∧ XO A0 S0 B own w g (st.stepF f rest) w' :=
  mExec_161 (fun W hW => (ex_161 (x.ext hW)).mono fun e w' q => ⟨q.1, XO.ext hW q.2⟩)
theorem exx_162 (x : XC T A0 S0 B own w g c V st s sn stale f rest 162) : Calls Hvah.prog 120 #[.pointer (some ⟨g, 0, none⟩), .int .u8 ((162 : Nat) : Int)] w fun e w' => e = .returned (.tuple #[]) ∧ XO A0 S0 B own w g (st.stepF f rest) w' :=
  mExec_162 (fun W hW => (ex_162 (x.ext hW)).mono fun e w' q => ⟨q.1, XO.ext hW q.2⟩)
theorem exx_163 (x : XC T A0 S0 B own w g c V st s sn stale f rest 163) : Calls Hvah.prog 120 #[.pointer (some ⟨g, 0, none⟩), .int .u8 ((163 : Nat) : Int)] w fun e w' => e = .returned (.tuple #[]) ∧ XO A0 S0 B own w g (st.stepF f rest) w' :=
  mExec_163 (fun W hW => (ex_163 (x.ext hW)).mono fun e w' q => ⟨q.1, XO.ext hW q.2⟩)
theorem exx_164 (x : XC T A0 S0 B own w g c V st s sn stale f rest 164) : Calls Hvah.prog 120 #[.pointer (some ⟨g, 0, none⟩), .int .u8 ((164 : Nat) : Int)] w fun e w' => e = .returned (.tuple #[]) ∧ XO A0 S0 B own w g (st.stepF f rest) w' :=
  mExec_164 (fun W hW => (ex_164 (x.ext hW)).mono fun e w' q => ⟨q.1, XO.ext hW q.2⟩)
theorem exx_240 (x : XC T A0 S0 B own w g c V st s sn stale f rest 240) : Calls Hvah.prog 120 #[.pointer (some ⟨g, 0, none⟩), .int .u8 ((240 : Nat) : Int)] w fun e w' => e = .returned (.tuple #[]) ∧ XO A0 S0 B own w g (st.stepF f rest) w' :=
  mExec_240 (fun W hW => (ex_240 (x.ext hW)).mono fun e w' q => ⟨q.1, XO.ext hW q.2⟩)
theorem exx_241 (x : XC T A0 S0 B own w g c V st s sn stale f rest 241) : Calls Hvah.prog 120 #[.pointer (some ⟨g, 0, none⟩), .int .u8 ((241 : Nat) : Int)] w fun e w' => e = .returned (.tuple #[]) ∧ XO A0 S0 B own w g (st.stepF f rest) w' :=
  mExec_241 (fun W hW => (ex_241 (x.ext hW)).mono fun e w' q => ⟨q.1, XO.ext hW q.2⟩)
theorem exx_242 (x : XC T A0 S0 B own w g c V st s sn stale f rest 242) : Calls Hvah.prog 120 #[.pointer (some ⟨g, 0, none⟩), .int .u8 ((242 : Nat) : Int)] w fun e w' => e = .returned (.tuple #[]) ∧ XO A0 S0 B own w g (st.stepF f rest) w' :=
  mExec_242 (fun W hW => (ex_242 (x.ext hW)).mono fun e w' q => ⟨q.1, XO.ext hW q.2⟩)
theorem exx_243 (x : XC T A0 S0 B own w g c V st s sn stale f rest 243) : Calls Hvah.prog 120 #[.pointer (some ⟨g, 0, none⟩), .int .u8 ((243 : Nat) : Int)] w fun e w' => e = .returned (.tuple #[]) ∧ XO A0 S0 B own w g (st.stepF f rest) w' :=
  mExec_243 (fun W hW => (ex_243 (x.ext hW)).mono fun e w' q => ⟨q.1, XO.ext hW q.2⟩)
theorem exx_244 (x : XC T A0 S0 B own w g c V st s sn stale f rest 244) : Calls Hvah.prog 120 #[.pointer (some ⟨g, 0, none⟩), .int .u8 ((244 : Nat) : Int)] w fun e w' => e = .returned (.tuple #[]) ∧ XO A0 S0 B own w g (st.stepF f rest) w' :=
  mExec_244 (fun W hW => (ex_244 (x.ext hW)).mono fun e w' q => ⟨q.1, XO.ext hW q.2⟩)
theorem exx_245 (x : XC T A0 S0 B own w g c V st s sn stale f rest 245) : Calls Hvah.prog 120 #[.pointer (some ⟨g, 0, none⟩), .int .u8 ((245 : Nat) : Int)] w fun e w' => e = .returned (.tuple #[]) ∧ XO A0 S0 B own w g (st.stepF f rest) w' :=
  mExec_245 (fun W hW => (ex_245 (x.ext hW)).mono fun e w' q => ⟨q.1, XO.ext hW q.2⟩)
theorem exx_250 (x : XC T A0 S0 B own w g c V st s sn stale f rest 250) : Calls Hvah.prog 120 #[.pointer (some ⟨g, 0, none⟩), .int .u8 ((250 : Nat) : Int)] w fun e w' => e = .returned (.tuple #[]) ∧ XO A0 S0 B own w g (st.stepF f rest) w' :=
  mExec_250 (fun W hW => (ex_250 (x.ext hW)).mono fun e w' q => ⟨q.1, XO.ext hW q.2⟩)
theorem exx_253 (x : XC T A0 S0 B own w g c V st s sn stale f rest 253) : Calls Hvah.prog 120 #[.pointer (some ⟨g, 0, none⟩), .int .u8 ((253 : Nat) : Int)] w fun e w' => e = .returned (.tuple #[]) ∧ XO A0 S0 B own w g (st.stepF f rest) w' :=
  mExec_253 (fun W hW => (ex_253 (x.ext hW)).mono fun e w' q => ⟨q.1, XO.ext hW q.2⟩)
theorem exx_255 (x : XC T A0 S0 B own w g c V st s sn stale f rest 255) : Calls Hvah.prog 120 #[.pointer (some ⟨g, 0, none⟩), .int .u8 ((255 : Nat) : Int)] w fun e w' => e = .returned (.tuple #[]) ∧ XO A0 S0 B own w g (st.stepF f rest) w' :=
  mExec_255 (fun W hW => (ex_255 (x.ext hW)).mono fun e w' q => ⟨q.1, XO.ext hW q.2⟩)
theorem opcodes2 (o : Nat) (ho : o < 256) (hf : famA o ≠ 0) : o ∈ ([0, 1, 2, 3, 4, 5, 6, 7, 8, 9, 10, 11, 16, 17, 18, 19, 20, 21, 22, 23, 24, 25, 26, 27, 28, 29, 32, 48, 49, 50, 51, 52, 53, 54, 55, 56, 57, 58, 59, 60, 61, 62, 63, 64, 65, 66, 67, 68, 69, 70, 71, 72, 80, 81, 82, 83, 84, 85, 86, 87, 88, 89, 90, 91, 92, 93, 94, 95, 96, 97, 98, 99, 100, 101, 102, 103, 104, 105, 106, 107, 108, 109, 110, 111, 112, 113, 114, 115, 116, 117, 118, 119, 120, 121, 122, 123, 124, 125, 126, 127, 128, 129, 130, 131, 132, 133, 134, 135, 136, 137, 138, 139, 140, 141, 142, 143, 144, 145, 146, 147, 148, 149, 150, 151, 152, 153, 154, 155, 156, 157, 158, 159, 160, 161, 162, 163, 164, 240, 241, 242, 243, 244, 245, 250, 253, 255] : List Nat) :=
  (show ∀ q : Fin 256, famA q.1 ≠ 0 → q.1 ∈ ([0, 1, 2, 3, 4, 5, 6, 7, 8, 9, 10, 11, 16, 17, 18, 19, 20, 21, 22, 23, 24, 25, 26, 27, 28, 29, 32, 48, 49, 50, 51, 52, 53, 54, 55, 56, 57, 58, 59, 60, 61, 62, 63, 64, 65, 66, 67, 68, 69, 70, 71, 72, 80, 81, 82, 83, 84, 85, 86, 87, 88, 89, 90, 91, 92, 93, 94, 95, 96, 97, 98, 99, 100, 101, 102, 103, 104, 105, 106, 107, 108, 109, 110, 111, 112, 113, 114, 115, 116, 117, 118, 119, 120, 121, 122, 123, 124, 125, 126, 127, 128, 129, 130, 131, 132, 133, 134, 135, 136, 137, 138, 139, 140, 141, 142, 143, 144, 145, 146, 147, 148, 149, 150, 151, 152, 153, 154, 155, 156, 157, 158, 159, 160, 161, 162, 163, 164, 240, 241, 242, 243, 244, 245, 250, 253, 255] : List Nat) by decide +kernel) ⟨o, ho⟩ hf
set_option maxRecDepth 8000 in
theorem exAll (x : XC T A0 S0 B own w g c V st s sn stale f rest o) (ho : o < 256) : Calls Hvah.prog 120 #[.pointer (some ⟨g, 0, none⟩), .int .u8 (o : Nat)] w fun e w' => e = .returned (.tuple #[]) ∧ XO A0 S0 B own w g (st.stepF f rest) w' := by
  have hm := opcodes2 o ho (refusal_zero x.hr).1
  simp only [List.mem_cons, List.not_mem_nil, or_false] at hm
  rcases hm with rfl | rfl | rfl | rfl | rfl | rfl | rfl | rfl | rfl | rfl | rfl | rfl | rfl | rfl | rfl | rfl | rfl | rfl | rfl | rfl | rfl | rfl | rfl | rfl | rfl | rfl | rfl | rfl | rfl | rfl | rfl | rfl | rfl | rfl | rfl | rfl | rfl | rfl | rfl | rfl | rfl | rfl | rfl | rfl | rfl | rfl | rfl | rfl | rfl | rfl | rfl | rfl | rfl | rfl | rfl | rfl | rfl | rfl | rfl | rfl | rfl | rfl | rfl | rfl | rfl | rfl | rfl | rfl | rfl | rfl | rfl | rfl | rfl | rfl | rfl | rfl | rfl | rfl | rfl | rfl | rfl | rfl | rfl | rfl | rfl | rfl | rfl | rfl | rfl | rfl | rfl | rfl | rfl | rfl | rfl | rfl | rfl | rfl | rfl | rfl | rfl | rfl | rfl | rfl | rfl | rfl | rfl | rfl | rfl | rfl | rfl | rfl | rfl | rfl | rfl | rfl | rfl | rfl | rfl | rfl | rfl | rfl | rfl | rfl | rfl | rfl | rfl | rfl | rfl | rfl | rfl | rfl | rfl | rfl | rfl | rfl | rfl | rfl | rfl | rfl | rfl | rfl | rfl | rfl | rfl | rfl
  · exact exx_0 x
  · exact exx_1 x
  · exact exx_2 x
  · exact exx_3 x
  · exact exx_4 x
  · exact exx_5 x
  · exact exx_6 x
  · exact exx_7 x
  · exact exx_8 x
  · exact exx_9 x
  · exact exx_10 x
  · exact exx_11 x
  · exact exx_16 x
  · exact exx_17 x
  · exact exx_18 x
  · exact exx_19 x
  · exact exx_20 x
  · exact exx_21 x
  · exact exx_22 x
  · exact exx_23 x
  · exact exx_24 x
  · exact exx_25 x
  · exact exx_26 x
  · exact exx_27 x
  · exact exx_28 x
  · exact exx_29 x
  · exact exx_32 x
  · exact exx_48 x
  · exact exx_49 x
  · exact exx_50 x
  · exact exx_51 x
  · exact exx_52 x
  · exact exx_53 x
  · exact exx_54 x
  · exact exx_55 x
  · exact exx_56 x
  · exact exx_57 x
  · exact exx_58 x
  · exact exx_59 x
  · exact exx_60 x
  · exact exx_61 x
  · exact exx_62 x
  · exact exx_63 x
  · exact exx_64 x
  · exact exx_65 x
  · exact exx_66 x
  · exact exx_67 x
  · exact exx_68 x
  · exact exx_69 x
  · exact exx_70 x
  · exact exx_71 x
  · exact exx_72 x
  · exact exx_80 x
  · exact exx_81 x
  · exact exx_82 x
  · exact exx_83 x
  · exact exx_84 x
  · exact exx_85 x
  · exact exx_86 x
  · exact exx_87 x
  · exact exx_88 x
  · exact exx_89 x
  · exact exx_90 x
  · exact exx_91 x
  · exact exx_92 x
  · exact exx_93 x
  · exact exx_94 x
  · exact exx_95 x
  · exact exx_96 x
  · exact exx_97 x
  · exact exx_98 x
  · exact exx_99 x
  · exact exx_100 x
  · exact exx_101 x
  · exact exx_102 x
  · exact exx_103 x
  · exact exx_104 x
  · exact exx_105 x
  · exact exx_106 x
  · exact exx_107 x
  · exact exx_108 x
  · exact exx_109 x
  · exact exx_110 x
  · exact exx_111 x
  · exact exx_112 x
  · exact exx_113 x
  · exact exx_114 x
  · exact exx_115 x
  · exact exx_116 x
  · exact exx_117 x
  · exact exx_118 x
  · exact exx_119 x
  · exact exx_120 x
  · exact exx_121 x
  · exact exx_122 x
  · exact exx_123 x
  · exact exx_124 x
  · exact exx_125 x
  · exact exx_126 x
  · exact exx_127 x
  · exact exx_128 x
  · exact exx_129 x
  · exact exx_130 x
  · exact exx_131 x
  · exact exx_132 x
  · exact exx_133 x
  · exact exx_134 x
  · exact exx_135 x
  · exact exx_136 x
  · exact exx_137 x
  · exact exx_138 x
  · exact exx_139 x
  · exact exx_140 x
  · exact exx_141 x
  · exact exx_142 x
  · exact exx_143 x
  · exact exx_144 x
  · exact exx_145 x
  · exact exx_146 x
  · exact exx_147 x
  · exact exx_148 x
  · exact exx_149 x
  · exact exx_150 x
  · exact exx_151 x
  · exact exx_152 x
  · exact exx_153 x
  · exact exx_154 x
  · exact exx_155 x
  · exact exx_156 x
  · exact exx_157 x
  · exact exx_158 x
  · exact exx_159 x
  · exact exx_160 x
  · exact exx_161 x
  · exact exx_162 x
  · exact exx_163 x
  · exact exx_164 x
  · exact exx_240 x
  · exact exx_241 x
  · exact exx_242 x
  · exact exx_243 x
  · exact exx_244 x
  · exact exx_245 x
  · exact exx_250 x
  · exact exx_253 x
  · exact exx_255 x
/-- The engine while a transaction runs. -/
def EJ (T A0 S0 B g : Nat) (st : ASt) (own : Nat → Nat) (w : World) : Prop :=
  ∃ c V sn stale, MRep own w g c V st sn stale ∧ AInv T B st ∧ EInv A0 S0 B V st ∧ PhOK st
theorem FrL.ok {O : Nat → Prop} {w : World} {c : Nat → Value} : ∀ {l : List AFrame} {sn : List Nat}, FrL O w c l sn → ∀ x ∈ l, FOK x
  | [], _, _ => by simp
  | f :: r, s :: sn, h => by
    intro x hx
    rcases List.mem_cons.1 hx with rfl | q
    · exact h.1.ok
    · exact FrL.ok h.2 x q
theorem MRep.opLt (h : MRep own w g c V st sn stale) (hst : st.frames = f :: rest) : f.opcode < 256 := by
  have q := h.m.frs
  rw [hst] at q
  cases sn with
  | nil => exact absurd q (by simp [FrL])
  | cons s sn =>
    obtain ⟨_, _, _, _, _, q⟩ := q.1.code
    unfold AFrame.opcode List.getD
    cases e : f.code[f.pc]? with
    | none => exact (by decide : (0 : Nat) < 256)
    | some y => exact q.1 y (List.mem_of_getElem? e)
/-- A frame's end by itself. -/
theorem EInv.leave2 (hE : EInv A0 S0 B V st) (hst : st.frames = f :: rest) {f1 : AFrame} (hg : f1.gas ≤ f.gas) (hx : V.ix f1.self ≠ none) {s2 : Nat} {out : List Nat} : EInv A0 S0 B (V.ends s f1 s2 out) (st.leave f1 rest s2 out) := by
  by_cases q : createsA f1.kind = true ∧ s2 = 0 ∧ (depositA f1.gas out).2 = 0 ∧ out ≠ []
  · obtain ⟨q1, rfl, q3, q4⟩ := q
    have hd := leave_dep (st := st) (rest := rest) q1 q3 q4
    refine hE.go (grew_ends hx) (D := 200) ?_ (by omega) (by omega) (by omega) (by omega) (by omega) (by omega)
    rw [hst, gsum_cons]; omega
  · refine hE.go (grew_ends0 q) (D := 0) ?_ (by omega) (by omega) (by omega) (by omega) (by omega) (by omega)
    rw [hst, gsum_cons]
    exact Nat.le_trans (leave_gsum _ _ _ _ _) (by omega)
theorem ejStep (hT : T < P256) (h : EJ T A0 S0 B g st own w) (hne : st.frames ≠ []) : Calls Hvah.prog 46 #[.pointer (some ⟨g, 0, none⟩)] w fun e w' => ∃ own', e = .returned (.bool true) ∧ EJ T A0 S0 B g st.step own' w' ∧ MStep own w own' w' ∧ ∀ x ∈ st.step.frames, FOK x := by
  obtain ⟨c, V, sn, stale, hR, hA, hE, hP⟩ := h
  have hph : st.phase = 1 := by
    rcases hP with q | q
    · exact q.2
    · exact absurd q.1 hne
  obtain ⟨f, rest, hst⟩ : ∃ f rest, st.frames = f :: rest := by
    cases e : st.frames with
    | nil => exact absurd e hne
    | cons f rest => exact ⟨f, rest, rfl⟩
  have es : st.step = st.stepF f rest := by unfold ASt.step; rw [hst]
  have hsn : ∃ s sn', sn = s :: sn' := by
    have := FrL.len hR.m.frs
    rw [hst] at this
    cases sn with
    | nil => simp at this
    | cons s sn' => exact ⟨s, sn', rfl⟩
  obtain ⟨s, sn', rfl⟩ := hsn
  have fin : ∀ w', XO A0 S0 B own w g (st.stepF f rest) w' → ∃ own', EJ T A0 S0 B g st.step own' w' ∧ MStep own w own' w' ∧ ∀ x ∈ st.step.frames, FOK x := by
    rintro w' ⟨own', c', V', sn2, stale2, h', k', hE'⟩
    rw [← es] at h' hE'
    have hok := FrL.ok h'.m.frs
    exact ⟨own', ⟨c', V', sn2, stale2, h', (hA.step hne hok).1, hE', by rw [es]; exact stepF_ph _ _ _ hph⟩, k', hok⟩
  have hp1 : c 2404 = .int .u8 1 := by have := hR.m.phase; rw [hph] at this; exact this
  have hbl : ∀ p r, rest = p :: r → p.gas + f.gas ≤ 1048576 ∧ p.stack.length < 64 ∧ p.pc ≤ 50000 := fun p r e => by
    have h1 := hA.wait f rest hst p (by rw [e]; simp)
    have h2 := hA.gas
    have h3 := hA.hB
    rw [hst, e, gsum_cons, gsum_cons] at h2
    exact ⟨by omega, h1.2, by omega⟩
  have hself : V.ix f.self ≠ none := acct_at (by rw [hR.abs]; exact hA.warm f (by rw [hst]; simp))
  have hfok : FOK f := hA.ok f (by rw [hst]; simp)
  have key : Calls Hvah.prog 46 #[.pointer (some ⟨g, 0, none⟩)] w fun e w' => e = .returned (.bool true) ∧ XO A0 S0 B own w g (st.stepF f rest) w' := by
    by_cases hpre : f.pre = 0
    · have HN := mRunNat0 hR hst hph hpre
      have HO : ∀ W, Ext w W → Calls Hvah.prog 117 #[.pointer (some ⟨g, 0, none⟩)] W fun e w' => e = .returned (.int .u8 (f.opcode : Nat)) ∧ Ext W w' := fun W hW => mOp (hR.ext hW) hst hph
      have hlt : f.opcode < 256 := hR.opLt hst
      have HI : ∀ W, Calls Hvah.prog 118 #[.int .u8 (f.opcode : Nat)] W fun e w' => e = .returned (.tuple #[.int .u8 (takesA f.opcode : Nat), .int .u8 (givesA f.opcode : Nat), .int .u16 (sgasA f.opcode : Nat), .bool (!decide (famA f.opcode = 0))]) ∧ w' = W := fun W => mInfo _ hlt W
      have hmem : f.gas + memCostA (f.mem.length / 32) ≤ 1048576 := by
        have h2 := hA.gas
        have h3 := hA.hB
        rw [hst, gsum_cons, msum_cons] at h2
        have : mcost f = memCostA (f.mem.length / 32) := rfl
        omega
      have HA := fun W (hW : Ext w W) => mAdmit (hR.ext hW) hst hph (hE.room.le (by decide)) hbl hmem f.opcode hlt
      by_cases hr : st.refusal f f.opcode = 0
      · refine mStepExec hR.v.blk hR.m.ptr hp1 _ (fun W => ∃ own' c' stale', MRep own' W g c' V { st with frames := st.paidF f f.opcode :: rest } (s :: sn') stale' ∧ MStep own w own' W) f.opcode _ _ _ _ HN HO HI (fun W hW => (HA W hW).mono ?_) (fun W hX => ?_)
        · rintro e w' (⟨q, _⟩ | ⟨_, rfl, own', c', stale', h', k'⟩)
          · exact absurd hr q
          · exact ⟨rfl, own', c', stale', h', (MStep.ext hW).trans k'⟩
        · obtain ⟨own', c', stale', h', k'⟩ := hX
          have x : XC T A0 S0 B own' W g c' V st s sn' stale' f rest f.opcode := ⟨h', hst, hph, hpre, rfl, hr, hA, hE, hT⟩
          refine (exAll x hlt).mono ?_
          rintro e w' ⟨rfl, own2, c2, V2, sn2, stale2, h2, k2, e2⟩
          exact ⟨rfl, own2, c2, V2, sn2, stale2, h2, k'.trans k2, e2⟩
      · refine mStepBad hR.v.blk hR.m.ptr hp1 _ f.opcode _ _ _ _ HN HO HI (fun W hW => (HA W hW).mono ?_)
        rintro e w' (⟨_, rfl, own', c', h', k'⟩ | ⟨q, _⟩)
        · refine ⟨rfl, ?_⟩
          rw [stepF_ref hpre hr]
          exact ⟨own', c', _, _, _, h', (MStep.ext hW).trans k', hE.leave2 hst (Nat.le_refl _) hself⟩
        · exact absurd q hr
    · have hp45 : f.pre = 4 ∨ f.pre = 5 := by
        rcases hfok.pre with q | q | q
        · exact absurd q hpre
        · exact Or.inl q
        · exact Or.inr q
      refine mStepNat hR.v.blk hR.m.ptr hp1 _ ?_
      cases hc : natCost f.pre f.input with
      | none =>
        have e : st.stepF f rest = st.leave f rest 2 [] := by unfold ASt.stepF; rw [if_pos hpre, hc]
        refine (mRunNatN hR hst hph hp45 (hE.room.le (by decide)) hbl hc).mono ?_
        rintro e1 w' ⟨rfl, own', c', h', k'⟩
        refine ⟨rfl, ?_⟩
        rw [e]
        exact ⟨own', c', _, _, _, h', k', hE.leave2 hst (Nat.le_refl _) hself⟩
      | some k =>
        by_cases hk : f.gas < k
        · have e : st.stepF f rest = st.leave f rest 2 [] := by unfold ASt.stepF; rw [if_pos hpre, hc]; simp only [if_pos hk]
          refine (mRunNatP hR hst hph hp45 (hE.room.le (by decide)) hbl k hc hk).mono ?_
          rintro e1 w' ⟨rfl, own', c', h', k'⟩
          refine ⟨rfl, ?_⟩
          rw [e]
          exact ⟨own', c', _, _, _, h', k', hE.leave2 hst (Nat.le_refl _) hself⟩
        · have e : st.stepF f rest = st.leave { f with gas := f.gas - k } rest 0 (natRun f.pre f.input) := by unfold ASt.stepF; rw [if_pos hpre, hc]; simp only [if_neg hk]
          refine (mRunNatG hR hst hph hp45 (hE.room.le (by decide)) hbl modExpOK k hc (by omega)).mono ?_
          rintro e1 w' ⟨rfl, own', c', h', k'⟩
          refine ⟨rfl, ?_⟩
          rw [e]
          exact ⟨own', c', _, _, _, h', k', hE.leave2 hst (f1 := { f with gas := f.gas - k }) (Nat.sub_le _ _) hself⟩
  refine key.mono ?_
  rintro e w' ⟨rfl, q⟩
  obtain ⟨own', h1, h2, h3⟩ := fin w' q
  exact ⟨own', rfl, h1, h2, h3⟩
theorem ejIdle (h : EJ T A0 S0 B g st own w) (hne : st.frames = []) : Calls Hvah.prog 46 #[.pointer (some ⟨g, 0, none⟩)] w fun e w' => e = .returned (.bool false) ∧ w' = w := by
  obtain ⟨c, V, sn, stale, hR, hA, hE, hP⟩ := h
  have hph : st.phase = 2 := by
    rcases hP with q | q
    · exact absurd hne q.1
    · exact q.2
  exact mStepIdle hR.v.blk 2 (by rw [hR.m.phase, hph]) (by decide)
end
end Go.Proofs.YgvahwGreat
