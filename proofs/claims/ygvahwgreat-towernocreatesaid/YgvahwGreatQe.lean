import Derived.Test.YgvahwGreatAbs
import Derived.Test.YgvahwGreatRowsJ
namespace Go.Proofs.YgvahwGreat
open Go.RowKit
theorem post_voidq {fn : Func} {R : Ending → World → Prop} {ac : Act} {w : World} (hf : fn.results = #[]) (hdf : ac.defers = []) (h : R (.returned (.tuple #[])) w) : bodyPost Hvah.prog fn R .ret ac w :=
  bodyPost_ret (v := .tuple #[]) (by simp [results, hf]) hdf h
section
variable {st : ASt} {f : AFrame} {rest : List AFrame} {t sg pn : Nat}
theorem ec241 (hph : st.phase = 1) (hd : rest.length < 6) (hb : f.arg 2 ≤ st.now.bal f.self) (e1 : addrA (f.arg 1) = t) (e2 : sentA f.gas (f.arg 0) = sg) (e3 : preA t = pn) : st.enterCall f rest 241 = ({ st with ret := [], phase := 1, now := (st.now.warm t).move f.self t (f.arg 2), frames := { kind := 2, pre := pn, static := f.static, pc := 0, gas := sg + (if f.arg 2 ≠ 0 then 2300 else 0), value := f.arg 2, outOff := 0, outLen := 0, stack := [], mem := [], code := if pn = 0 then st.now.code t else [], input := readA f.mem (f.arg 3) (f.arg 4), self := t, caller := f.self, saved := st.now.warm t } :: ({ f with gas := f.gas - sg, outOff := if f.arg 6 = 0 then 0 else f.arg 5, outLen := f.arg 6 } : AFrame).settle 7 [] 0 :: rest } : ASt) := by
  subst e1 e2 e3
  unfold ASt.enterCall
  simp only [show takesA 241 = 7 from rfl]
  rw [if_neg (by simp; omega)]
  simp [ASt.enter, AFrame.settle, createsA, hph]
theorem ep241 (hp : 6 ≤ rest.length ∨ st.now.bal f.self < f.arg 2) (e1 : addrA (f.arg 1) = t) (e2 : sentA f.gas (f.arg 0) = sg) : st.enterCall f rest 241 = ({ st with ret := [], now := st.now.warm t, frames := ({ f with gas := f.gas - sg + (sg + (if f.arg 2 ≠ 0 then 2300 else 0)) } : AFrame).settle 7 [0] 1 :: rest } : ASt) := by
  subst e1 e2
  unfold ASt.enterCall
  simp only [show takesA 241 = 7 from rfl]
  rw [if_pos (by simpa using hp)]
  simp
theorem ec242 (hph : st.phase = 1) (hd : rest.length < 6) (hb : f.arg 2 ≤ st.now.bal f.self) (e1 : addrA (f.arg 1) = t) (e2 : sentA f.gas (f.arg 0) = sg) (e3 : preA t = pn) : st.enterCall f rest 242 = ({ st with ret := [], phase := 1, now := st.now.warm t, frames := { kind := 7, pre := pn, static := f.static, pc := 0, gas := sg + (if f.arg 2 ≠ 0 then 2300 else 0), value := f.arg 2, outOff := 0, outLen := 0, stack := [], mem := [], code := if pn = 0 then st.now.code t else [], input := readA f.mem (f.arg 3) (f.arg 4), self := f.self, caller := f.self, saved := st.now.warm t } :: ({ f with gas := f.gas - sg, outOff := if f.arg 6 = 0 then 0 else f.arg 5, outLen := f.arg 6 } : AFrame).settle 7 [] 0 :: rest } : ASt) := by
  subst e1 e2 e3
  unfold ASt.enterCall
  simp only [show takesA 242 = 7 from rfl]
  rw [if_neg (by simp; omega)]
  simp [ASt.enter, AFrame.settle, createsA, hph]
theorem ep242 (hp : 6 ≤ rest.length ∨ st.now.bal f.self < f.arg 2) (e1 : addrA (f.arg 1) = t) (e2 : sentA f.gas (f.arg 0) = sg) : st.enterCall f rest 242 = ({ st with ret := [], now := st.now.warm t, frames := ({ f with gas := f.gas - sg + (sg + (if f.arg 2 ≠ 0 then 2300 else 0)) } : AFrame).settle 7 [0] 1 :: rest } : ASt) := by
  subst e1 e2
  unfold ASt.enterCall
  simp only [show takesA 242 = 7 from rfl]
  rw [if_pos (by simpa using hp)]
  simp
theorem ec244 (hph : st.phase = 1) (hd : rest.length < 6) (e1 : addrA (f.arg 1) = t) (e2 : sentA f.gas (f.arg 0) = sg) (e3 : preA t = pn) : st.enterCall f rest 244 = ({ st with ret := [], phase := 1, now := st.now.warm t, frames := { kind := 3, pre := pn, static := f.static, pc := 0, gas := sg, value := f.value, outOff := 0, outLen := 0, stack := [], mem := [], code := if pn = 0 then st.now.code t else [], input := readA f.mem (f.arg 2) (f.arg 3), self := f.self, caller := f.caller, saved := st.now.warm t } :: ({ f with gas := f.gas - sg, outOff := if f.arg 5 = 0 then 0 else f.arg 4, outLen := f.arg 5 } : AFrame).settle 6 [] 0 :: rest } : ASt) := by
  subst e1 e2 e3
  unfold ASt.enterCall
  simp only [show takesA 244 = 6 from rfl]
  rw [if_neg (by simp; omega)]
  simp [ASt.enter, AFrame.settle, createsA, hph]
theorem ep244 (hp : 6 ≤ rest.length ∨ st.now.bal f.self < 0) (e1 : addrA (f.arg 1) = t) (e2 : sentA f.gas (f.arg 0) = sg) : st.enterCall f rest 244 = ({ st with ret := [], now := st.now.warm t, frames := ({ f with gas := f.gas - sg + (sg) } : AFrame).settle 6 [0] 1 :: rest } : ASt) := by
  subst e1 e2
  unfold ASt.enterCall
  simp only [show takesA 244 = 6 from rfl]
  rw [if_pos (by simpa using hp)]
  simp
theorem ec250 (hph : st.phase = 1) (hd : rest.length < 6) (e1 : addrA (f.arg 1) = t) (e2 : sentA f.gas (f.arg 0) = sg) (e3 : preA t = pn) : st.enterCall f rest 250 = ({ st with ret := [], phase := 1, now := (st.now.warm t).move f.self t 0, frames := { kind := 4, pre := pn, static := true, pc := 0, gas := sg, value := 0, outOff := 0, outLen := 0, stack := [], mem := [], code := if pn = 0 then st.now.code t else [], input := readA f.mem (f.arg 2) (f.arg 3), self := t, caller := f.self, saved := st.now.warm t } :: ({ f with gas := f.gas - sg, outOff := if f.arg 5 = 0 then 0 else f.arg 4, outLen := f.arg 5 } : AFrame).settle 6 [] 0 :: rest } : ASt) := by
  subst e1 e2 e3
  unfold ASt.enterCall
  simp only [show takesA 250 = 6 from rfl]
  rw [if_neg (by simp; omega)]
  simp [ASt.enter, AFrame.settle, createsA, hph]
theorem ep250 (hp : 6 ≤ rest.length ∨ st.now.bal f.self < 0) (e1 : addrA (f.arg 1) = t) (e2 : sentA f.gas (f.arg 0) = sg) : st.enterCall f rest 250 = ({ st with ret := [], now := st.now.warm t, frames := ({ f with gas := f.gas - sg + (sg) } : AFrame).settle 6 [0] 1 :: rest } : ASt) := by
  subst e1 e2
  unfold ASt.enterCall
  simp only [show takesA 250 = 6 from rfl]
  rw [if_pos (by simpa using hp)]
  simp
end
end Go.Proofs.YgvahwGreat
