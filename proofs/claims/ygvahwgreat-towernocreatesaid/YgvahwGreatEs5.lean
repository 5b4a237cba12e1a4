import Derived.Test.YgvahwGreatEs4
import Derived.Test.YgvahwGreatQc241ngo
import Derived.Test.YgvahwGreatQc241npoor
import Derived.Test.YgvahwGreatQc241zgo
import Derived.Test.YgvahwGreatQc241zpoor
import Derived.Test.YgvahwGreatQc242ngo
import Derived.Test.YgvahwGreatQc242npoor
import Derived.Test.YgvahwGreatQc242zgo
import Derived.Test.YgvahwGreatQc242zpoor
import Derived.Test.YgvahwGreatQc244go
import Derived.Test.YgvahwGreatQc244poor
import Derived.Test.YgvahwGreatQc250go
import Derived.Test.YgvahwGreatQc250poor
import Derived.Test.YgvahwGreatQd240go
import Derived.Test.YgvahwGreatQd240taken
import Derived.Test.YgvahwGreatQd240poor
import Derived.Test.YgvahwGreatQd245go
import Derived.Test.YgvahwGreatQd245taken
import Derived.Test.YgvahwGreatQd245poor
namespace Go.Proofs.YgvahwGreat
open Go.RowKit
set_option linter.unusedSimpArgs false
set_option linter.unusedVariables false
section
variable {T A0 S0 B : Nat} {own : Nat → Nat} {w : World} {g : Nat} {c : Nat → Value} {V : EV} {st : ASt} {sn stale : List Nat} {s : Nat} {f : AFrame} {rest : List AFrame}
variable {o : Nat}
theorem XC.few (x : XC T A0 S0 B own w g c V st s sn stale f rest o) : rest.length ≤ 6 := by
  have := x.hA.len
  rw [x.hst] at this
  simpa using this
theorem XC.less (x : XC T A0 S0 B own w g c V st s sn stale f rest o) (h : 9100 ≤ st.bareCost f o) : (st.paidF f o).gas + 2300 ≤ 1048576 := by
  have h1 := x.paid
  have h2 := x.hA.gas
  have h3 := x.hA.hB
  rw [x.hst, gsum_cons] at h2
  omega
theorem endA_maxl {a n b m k : Nat} (h : max (endA a n) (endA b m) ≤ k) (hn : n ≠ 0) : a + n ≤ k := endA_two (Nat.le_trans (Nat.le_max_left _ _) h) hn
theorem endA_maxr {a n b m k : Nat} (h : max (endA a n) (endA b m) ≤ k) (hn : m ≠ 0) : b + m ≤ k := endA_two (Nat.le_trans (Nat.le_max_right _ _) h) hn
theorem ex_241 (x : XC T A0 S0 B own w g c V st s sn stale f rest 241) : Calls Hvah.prog 212 #[.pointer (some ⟨g, 0, none⟩)] w fun e w' => e = .returned (.tuple #[]) ∧ XO A0 S0 B own w g (st.stepF f rest) w' := by
  have ho : 241 = 241 ∨ 241 = 242 ∨ 241 = 244 ∨ 241 = 250 := by decide
  have hl : takesA 241 ≤ (st.paidF f 241).stack.length := x.tk
  have hrd : f.arg 4 ≠ 0 → f.arg 3 + f.arg 4 ≤ (st.paidF f 241).mem.length := fun q => endA_maxl (a := f.arg 3) (n := f.arg 4) (b := f.arg 5) (m := f.arg 6) x.reach q
  have hou : f.arg 6 ≠ 0 → f.arg 5 + f.arg 6 ≤ (st.paidF f 241).mem.length := fun q => endA_maxr (a := f.arg 3) (n := f.arg 4) (b := f.arg 5) (m := f.arg 6) x.reach q
  have hcl : (st.now.code (addrA (f.arg 1))).length ≤ 256 := x.noOv.code _
  have ecv : callVal f 241 = f.arg 2 := rfl
  by_cases hv : f.arg 2 = 0
  · by_cases hd : 6 ≤ rest.length ∨ (st.now.bal f.self < f.arg 2)
    · refine (mCall241z_poor (st := { st with frames := st.paidF f 241 :: rest }) (f := st.paidF f 241) (rest := rest) (t := addrA (f.arg 1)) (show Hid _ from rfl) x.h rfl x.hph x.op hl x.pc x.room (show Hid _ from hv) hd).mono ?_
      rintro e1 w' ⟨rfl, own', c', V2, h', k', q⟩
      exact ⟨rfl, x.callP ho (V2 := V2) h' k' q⟩
    · refine (mCall241z_go (st := { st with frames := st.paidF f 241 :: rest }) (f := st.paidF f 241) (rest := rest) (t := addrA (f.arg 1)) (show Hid _ from rfl) x.h rfl x.hph x.op hl x.pc x.room (show Hid _ from hv) (by omega) (by show f.arg 2 ≤ st.now.bal f.self; omega) hrd hou hcl (fun _ => x.noOv.moveFit x.hT (by show f.arg 2 ≤ st.now.bal f.self; omega))).mono ?_
      rintro e1 w' ⟨rfl, own', c', V2, sn', h', k', q⟩
      exact ⟨rfl, x.callG ho (V2 := V2) h' k' q (Or.inr ⟨_, _, _, rfl⟩)⟩
  · by_cases hd : 6 ≤ rest.length ∨ (st.now.bal f.self < f.arg 2)
    · refine (mCall241n_poor (st := { st with frames := st.paidF f 241 :: rest }) (f := st.paidF f 241) (rest := rest) (t := addrA (f.arg 1)) (show Hid _ from rfl) x.h rfl x.hph x.op hl x.pc x.room hv (x.less ((bare_call ho).2 (by decide) hv)) hd).mono ?_
      rintro e1 w' ⟨rfl, own', c', V2, h', k', q⟩
      exact ⟨rfl, x.callP ho (V2 := V2) h' k' q⟩
    · refine (mCall241n_go (st := { st with frames := st.paidF f 241 :: rest }) (f := st.paidF f 241) (rest := rest) (t := addrA (f.arg 1)) (show Hid _ from rfl) x.h rfl x.hph x.op hl x.pc x.room hv (x.less ((bare_call ho).2 (by decide) hv)) (by omega) (by show f.arg 2 ≤ st.now.bal f.self; omega) hrd hou hcl (fun _ => x.noOv.moveFit x.hT (by show f.arg 2 ≤ st.now.bal f.self; omega))).mono ?_
      rintro e1 w' ⟨rfl, own', c', V2, sn', h', k', q⟩
      exact ⟨rfl, x.callG ho (V2 := V2) h' k' q (Or.inr ⟨_, _, _, rfl⟩)⟩
theorem ex_242 (x : XC T A0 S0 B own w g c V st s sn stale f rest 242) : Calls Hvah.prog 212 #[.pointer (some ⟨g, 0, none⟩)] w fun e w' => e = .returned (.tuple #[]) ∧ XO A0 S0 B own w g (st.stepF f rest) w' := by
  have ho : 242 = 241 ∨ 242 = 242 ∨ 242 = 244 ∨ 242 = 250 := by decide
  have hl : takesA 242 ≤ (st.paidF f 242).stack.length := x.tk
  have hrd : f.arg 4 ≠ 0 → f.arg 3 + f.arg 4 ≤ (st.paidF f 242).mem.length := fun q => endA_maxl (a := f.arg 3) (n := f.arg 4) (b := f.arg 5) (m := f.arg 6) x.reach q
  have hou : f.arg 6 ≠ 0 → f.arg 5 + f.arg 6 ≤ (st.paidF f 242).mem.length := fun q => endA_maxr (a := f.arg 3) (n := f.arg 4) (b := f.arg 5) (m := f.arg 6) x.reach q
  have hcl : (st.now.code (addrA (f.arg 1))).length ≤ 256 := x.noOv.code _
  have ecv : callVal f 242 = f.arg 2 := rfl
  by_cases hv : f.arg 2 = 0
  · by_cases hd : 6 ≤ rest.length ∨ (st.now.bal f.self < f.arg 2)
    · refine (mCall242z_poor (st := { st with frames := st.paidF f 242 :: rest }) (f := st.paidF f 242) (rest := rest) (t := addrA (f.arg 1)) (show Hid _ from rfl) x.h rfl x.hph x.op hl x.pc x.room (show Hid _ from hv) hd).mono ?_
      rintro e1 w' ⟨rfl, own', c', V2, h', k', q⟩
      exact ⟨rfl, x.callP ho (V2 := V2) h' k' q⟩
    · refine (mCall242z_go (st := { st with frames := st.paidF f 242 :: rest }) (f := st.paidF f 242) (rest := rest) (t := addrA (f.arg 1)) (show Hid _ from rfl) x.h rfl x.hph x.op hl x.pc x.room (show Hid _ from hv) (by omega) (by show f.arg 2 ≤ st.now.bal f.self; omega) hrd hou hcl (fun _ => x.noOv.moveFit x.hT (by show f.arg 2 ≤ st.now.bal f.self; omega))).mono ?_
      rintro e1 w' ⟨rfl, own', c', V2, sn', h', k', q⟩
      exact ⟨rfl, x.callG ho (V2 := V2) h' k' q (Or.inl rfl)⟩
  · by_cases hd : 6 ≤ rest.length ∨ (st.now.bal f.self < f.arg 2)
    · refine (mCall242n_poor (st := { st with frames := st.paidF f 242 :: rest }) (f := st.paidF f 242) (rest := rest) (t := addrA (f.arg 1)) (show Hid _ from rfl) x.h rfl x.hph x.op hl x.pc x.room hv (x.less ((bare_call ho).2 (by decide) hv)) hd).mono ?_
      rintro e1 w' ⟨rfl, own', c', V2, h', k', q⟩
      exact ⟨rfl, x.callP ho (V2 := V2) h' k' q⟩
    · refine (mCall242n_go (st := { st with frames := st.paidF f 242 :: rest }) (f := st.paidF f 242) (rest := rest) (t := addrA (f.arg 1)) (show Hid _ from rfl) x.h rfl x.hph x.op hl x.pc x.room hv (x.less ((bare_call ho).2 (by decide) hv)) (by omega) (by show f.arg 2 ≤ st.now.bal f.self; omega) hrd hou hcl (fun _ => x.noOv.moveFit x.hT (by show f.arg 2 ≤ st.now.bal f.self; omega))).mono ?_
      rintro e1 w' ⟨rfl, own', c', V2, sn', h', k', q⟩
      exact ⟨rfl, x.callG ho (V2 := V2) h' k' q (Or.inl rfl)⟩
theorem ex_244 (x : XC T A0 S0 B own w g c V st s sn stale f rest 244) : Calls Hvah.prog 212 #[.pointer (some ⟨g, 0, none⟩)] w fun e w' => e = .returned (.tuple #[]) ∧ XO A0 S0 B own w g (st.stepF f rest) w' := by
  have ho : 244 = 241 ∨ 244 = 242 ∨ 244 = 244 ∨ 244 = 250 := by decide
  have hl : takesA 244 ≤ (st.paidF f 244).stack.length := x.tk
  have hrd : f.arg 3 ≠ 0 → f.arg 2 + f.arg 3 ≤ (st.paidF f 244).mem.length := fun q => endA_maxl (a := f.arg 2) (n := f.arg 3) (b := f.arg 4) (m := f.arg 5) x.reach q
  have hou : f.arg 5 ≠ 0 → f.arg 4 + f.arg 5 ≤ (st.paidF f 244).mem.length := fun q => endA_maxr (a := f.arg 2) (n := f.arg 3) (b := f.arg 4) (m := f.arg 5) x.reach q
  have hcl : (st.now.code (addrA (f.arg 1))).length ≤ 256 := x.noOv.code _
  have ecv : callVal f 244 = 0 := rfl
  by_cases hd : 6 ≤ rest.length ∨ (st.now.bal f.self < 0)
  · refine (mCall244_poor (st := { st with frames := st.paidF f 244 :: rest }) (f := st.paidF f 244) (rest := rest) (t := addrA (f.arg 1)) (show Hid _ from rfl) x.h rfl x.hph x.op hl x.pc x.room hd).mono ?_
    rintro e1 w' ⟨rfl, own', c', V2, h', k', q⟩
    exact ⟨rfl, x.callP ho (V2 := V2) h' k' q⟩
  · refine (mCall244_go (st := { st with frames := st.paidF f 244 :: rest }) (f := st.paidF f 244) (rest := rest) (t := addrA (f.arg 1)) (show Hid _ from rfl) x.h rfl x.hph x.op hl x.pc x.room (by omega) (Nat.zero_le _) hrd hou hcl ).mono ?_
    rintro e1 w' ⟨rfl, own', c', V2, sn', h', k', q⟩
    exact ⟨rfl, x.callG ho (V2 := V2) h' k' q (Or.inl rfl)⟩
theorem ex_250 (x : XC T A0 S0 B own w g c V st s sn stale f rest 250) : Calls Hvah.prog 212 #[.pointer (some ⟨g, 0, none⟩)] w fun e w' => e = .returned (.tuple #[]) ∧ XO A0 S0 B own w g (st.stepF f rest) w' := by
  have ho : 250 = 241 ∨ 250 = 242 ∨ 250 = 244 ∨ 250 = 250 := by decide
  have hl : takesA 250 ≤ (st.paidF f 250).stack.length := x.tk
  have hrd : f.arg 3 ≠ 0 → f.arg 2 + f.arg 3 ≤ (st.paidF f 250).mem.length := fun q => endA_maxl (a := f.arg 2) (n := f.arg 3) (b := f.arg 4) (m := f.arg 5) x.reach q
  have hou : f.arg 5 ≠ 0 → f.arg 4 + f.arg 5 ≤ (st.paidF f 250).mem.length := fun q => endA_maxr (a := f.arg 2) (n := f.arg 3) (b := f.arg 4) (m := f.arg 5) x.reach q
  have hcl : (st.now.code (addrA (f.arg 1))).length ≤ 256 := x.noOv.code _
  have ecv : callVal f 250 = 0 := rfl
  by_cases hd : 6 ≤ rest.length ∨ (st.now.bal f.self < 0)
  · refine (mCall250_poor (st := { st with frames := st.paidF f 250 :: rest }) (f := st.paidF f 250) (rest := rest) (t := addrA (f.arg 1)) (show Hid _ from rfl) x.h rfl x.hph x.op hl x.pc x.room hd).mono ?_
    rintro e1 w' ⟨rfl, own', c', V2, h', k', q⟩
    exact ⟨rfl, x.callP ho (V2 := V2) h' k' q⟩
  · refine (mCall250_go (st := { st with frames := st.paidF f 250 :: rest }) (f := st.paidF f 250) (rest := rest) (t := addrA (f.arg 1)) (show Hid _ from rfl) x.h rfl x.hph x.op hl x.pc x.room (by omega) (Nat.zero_le _) hrd hou hcl ).mono ?_
    rintro e1 w' ⟨rfl, own', c', V2, sn', h', k', q⟩
    exact ⟨rfl, x.callG ho (V2 := V2) h' k' q (Or.inr ⟨_, _, _, rfl⟩)⟩
theorem ex_240 (x : XC T A0 S0 B own w g c V st s sn stale f rest 240) : Calls Hvah.prog 209 #[.pointer (some ⟨g, 0, none⟩)] w fun e w' => e = .returned (.tuple #[]) ∧ XO A0 S0 B own w g (st.stepF f rest) w' := by
  have ho : 240 = 240 ∨ 240 = 245 := by decide
  have hl : takesA 240 ≤ (st.paidF f 240).stack.length := x.tk
  have hrd : f.arg 2 ≠ 0 → f.arg 1 + f.arg 2 ≤ (st.paidF f 240).mem.length := fun q => endA_two (a := f.arg 1) (n := f.arg 2) x.reach q
  have hil : f.arg 2 ≤ 512 := (refusal_zero x.hr).2.2.2.2.2 ho
  by_cases hd : 6 ≤ rest.length ∨ st.now.bal f.self < f.arg 0 ∨ 18446744073709551615 ≤ st.now.nonce f.self
  · refine (mCreate240_poor (st := { st with frames := st.paidF f 240 :: rest }) (f := st.paidF f 240) (rest := rest) x.h rfl x.hph x.op hl x.pc x.room hd).mono ?_
    rintro e1 w' ⟨rfl, own', c', h', k'⟩
    exact ⟨rfl, x.make ho h' k' ((Grew.id V).le (by omega) (by omega) (by omega) (by omega) (by omega) (by omega))⟩
  · have hd1 : rest.length < 6 := by omega
    have hd2 : f.arg 0 ≤ st.now.bal f.self := by omega
    have hd3 : st.now.nonce f.self < 18446744073709551615 := by omega
    obtain ⟨sf, esf⟩ : ∃ sf, createAddrA f.self (st.now.nonce f.self) = sf := ⟨_, rfl⟩
    by_cases htk : (((st.now.setNonce f.self (st.now.nonce f.self + 1)).warm sf).nonce sf ≠ 0 ∨ ((st.now.setNonce f.self (st.now.nonce f.self + 1)).warm sf).code sf ≠ [])
    · refine (mCreate240_taken (st := { st with frames := st.paidF f 240 :: rest }) (f := st.paidF f 240) (rest := rest) x.h rfl x.hph x.op hl x.pc x.room hd1 hd2 hd3 hrd hil (sf := sf) (show Hid _ from esf) htk).mono ?_
      rintro e1 w' ⟨rfl, own', c', V2, h', k', q⟩
      refine ⟨rfl, x.make ho h' k' ?_⟩
      rcases q with rfl | rfl
      · exact (grew_opA _ _ _ _).le (by omega) (by omega) (by omega) (by omega) (by omega) (by omega)
      · exact ((grew_opA _ _ _ _).trans (grew_opA _ _ _ _)).le (by omega) (by omega) (by omega) (by omega) (by omega) (by omega)
    · have hov : f.arg 0 ≠ 0 → (((((st.now.setNonce f.self (st.now.nonce f.self + 1)).warm sf).setNonce sf 1).markMade sf).setBal f.self (((((st.now.setNonce f.self (st.now.nonce f.self + 1)).warm sf).setNonce sf 1).markMade sf).bal f.self - f.arg 0)).bal sf + f.arg 0 < P256 := fun _ => ((((x.noOv.setNonce f.self (st.now.nonce f.self + 1) (by omega)).warm sf).setNonce sf 1 (by decide)).markMade sf).moveFit x.hT hd2
      refine (mCreate240_go (st := { st with frames := st.paidF f 240 :: rest }) (f := st.paidF f 240) (rest := rest) x.h rfl x.hph x.op hl x.pc x.room hd1 hd2 hd3 hrd hil (sf := sf) (show Hid _ from esf) htk hov).mono ?_
      rintro e1 w' ⟨rfl, own', c', V2, sn', h', k', q⟩
      refine ⟨rfl, x.make ho h' k' ?_⟩
      have q2 : V.Grew V2 2 2 0 0 0 0 := by
        rcases q with rfl | rfl
        · exact (grew_opA _ _ _ _).le (by omega) (by omega) (by omega) (by omega) (by omega) (by omega)
        · exact ((grew_opA _ _ _ _).trans (grew_opA _ _ _ _)).le (by omega) (by omega) (by omega) (by omega) (by omega) (by omega)
      exact ((((q2.trans (grew_snap _)).trans (grew_opA _ _ _ _)).trans (grew_opA _ _ _ _)).trans (grew_moveI _ _ _ _)).le (by omega) (by omega) (by omega) (by omega) (by omega) (by omega)
theorem ex_245 (x : XC T A0 S0 B own w g c V st s sn stale f rest 245) : Calls Hvah.prog 209 #[.pointer (some ⟨g, 0, none⟩)] w fun e w' => e = .returned (.tuple #[]) ∧ XO A0 S0 B own w g (st.stepF f rest) w' := by
  have ho : 245 = 240 ∨ 245 = 245 := by decide
  have hl : takesA 245 ≤ (st.paidF f 245).stack.length := x.tk
  have hrd : f.arg 2 ≠ 0 → f.arg 1 + f.arg 2 ≤ (st.paidF f 245).mem.length := fun q => endA_two (a := f.arg 1) (n := f.arg 2) x.reach q
  have hil : f.arg 2 ≤ 512 := (refusal_zero x.hr).2.2.2.2.2 ho
  by_cases hd : 6 ≤ rest.length ∨ st.now.bal f.self < f.arg 0 ∨ 18446744073709551615 ≤ st.now.nonce f.self
  · refine (mCreate245_poor (st := { st with frames := st.paidF f 245 :: rest }) (f := st.paidF f 245) (rest := rest) x.h rfl x.hph x.op hl x.pc x.room hd).mono ?_
    rintro e1 w' ⟨rfl, own', c', h', k'⟩
    exact ⟨rfl, x.make ho h' k' ((Grew.id V).le (by omega) (by omega) (by omega) (by omega) (by omega) (by omega))⟩
  · have hd1 : rest.length < 6 := by omega
    have hd2 : f.arg 0 ≤ st.now.bal f.self := by omega
    have hd3 : st.now.nonce f.self < 18446744073709551615 := by omega
    obtain ⟨sf, esf⟩ : ∃ sf, create2AddrA f.self (f.arg 3) (readA (st.paidF f 245).mem (f.arg 1) (f.arg 2)) = sf := ⟨_, rfl⟩
    by_cases htk : (((st.now.setNonce f.self (st.now.nonce f.self + 1)).warm sf).nonce sf ≠ 0 ∨ ((st.now.setNonce f.self (st.now.nonce f.self + 1)).warm sf).code sf ≠ [])
    · refine (mCreate245_taken (st := { st with frames := st.paidF f 245 :: rest }) (f := st.paidF f 245) (rest := rest) x.h rfl x.hph x.op hl x.pc x.room hd1 hd2 hd3 hrd hil (sf := sf) (show Hid _ from esf) htk).mono ?_
      rintro e1 w' ⟨rfl, own', c', V2, h', k', q⟩
      refine ⟨rfl, x.make ho h' k' ?_⟩
      rcases q with rfl | rfl
      · exact (grew_opA _ _ _ _).le (by omega) (by omega) (by omega) (by omega) (by omega) (by omega)
      · exact ((grew_opA _ _ _ _).trans (grew_opA _ _ _ _)).le (by omega) (by omega) (by omega) (by omega) (by omega) (by omega)
    · have hov : f.arg 0 ≠ 0 → (((((st.now.setNonce f.self (st.now.nonce f.self + 1)).warm sf).setNonce sf 1).markMade sf).setBal f.self (((((st.now.setNonce f.self (st.now.nonce f.self + 1)).warm sf).setNonce sf 1).markMade sf).bal f.self - f.arg 0)).bal sf + f.arg 0 < P256 := fun _ => ((((x.noOv.setNonce f.self (st.now.nonce f.self + 1) (by omega)).warm sf).setNonce sf 1 (by decide)).markMade sf).moveFit x.hT hd2
      refine (mCreate245_go (st := { st with frames := st.paidF f 245 :: rest }) (f := st.paidF f 245) (rest := rest) x.h rfl x.hph x.op hl x.pc x.room hd1 hd2 hd3 hrd hil (sf := sf) (show Hid _ from esf) htk hov).mono ?_
      rintro e1 w' ⟨rfl, own', c', V2, sn', h', k', q⟩
      refine ⟨rfl, x.make ho h' k' ?_⟩
      have q2 : V.Grew V2 2 2 0 0 0 0 := by
        rcases q with rfl | rfl
        · exact (grew_opA _ _ _ _).le (by omega) (by omega) (by omega) (by omega) (by omega) (by omega)
        · exact ((grew_opA _ _ _ _).trans (grew_opA _ _ _ _)).le (by omega) (by omega) (by omega) (by omega) (by omega) (by omega)
      exact ((((q2.trans (grew_snap _)).trans (grew_opA _ _ _ _)).trans (grew_opA _ _ _ _)).trans (grew_moveI _ _ _ _)).le (by omega) (by omega) (by omega) (by omega) (by omega) (by omega)
end
end Go.Proofs.YgvahwGreat
