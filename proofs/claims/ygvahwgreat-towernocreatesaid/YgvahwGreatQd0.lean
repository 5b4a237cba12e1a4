import Derived.Test.YgvahwGreatQb
import Derived.Test.YgvahwGreatQh
import Derived.Test.YgvahwGreatQe
namespace Go.Proofs.YgvahwGreat
open Go.RowKit
set_option linter.unusedSimpArgs false
theorem b72c {a v ad : Nat} {rv : Value} (ha : a < 2 ^ 160) (had : ad < 2 ^ 160) (hrv : rv.oneCell' = true) : ∃ r : Array Value, r.size = 65 ∧ (∀ i, i < 65 → cf r i = updv (layv (updv (kc0 false ad a) 0 (.int .u8 (5 : Nat))) 49 (wvA v)) 53 rv i) ∧ ∀ w, (Instr.build 85 ([(0, .int .u8 5), (10, .agg (av a)), (11, wv v), (12, rv), (9, .agg (av ad))] : List (Nat × Value)).toArray).run Hvah.prog w = .ok (.agg r) w := by
  refine ⟨_, ?_, fun i hi => ?_, fun w => run_build_gen (pl := [(0, 1), (1, 1), (2, 1), (3, 1), (4, 1), (5, 1), (6, 1), (7, 1), (8, 1), (9, 20), (29, 20), (49, 4), (53, 1), (54, 1), (55, 8), (63, 1), (64, 1)]) (z := z72a) (by kernel_rfl) (by kernel_rfl) ([(0, .int .u8 5), (10, .agg (av a)), (11, wv v), (12, rv), (9, .agg (av ad))] : List (Nat × Value)) ⟨0, 1, rfl, rfl, by decide, 29, 20, rfl, av_size ha, by decide, 49, 4, rfl, rfl, by decide, 53, 1, rfl, by rw [one_cells hrv]; rfl, by decide, 9, 20, rfl, av_size had, by decide, trivial⟩ w⟩
  · rw [bld_size]; rfl
  · rw [bld_get _ _ _ (by exact hi)]
    simp only [partsA, List.map_cons, List.map_nil, List.getD_cons_zero, List.getD_cons_succ, bldc, one_agg]
    rw [one_cells (v := .int .u8 5) rfl, one_cells hrv, layv_one, layv_one]
    show layv (updv (layv (layv (updv (cf z72a) 0 (.int .u8 5)) 29 (av a)) 49 (wvA v)) 53 rv) 9 (av ad) i = _
    unfold kc0
    have s1 := av_size ha
    have s2 := av_size had
    have s3 : (wvA v).size = 4 := rfl
    by_cases q0 : i = 0
    · subst q0
      rw [layv_out _ _ _ (by omega), updv_ne _ _ (by decide), layv_out _ _ _ (by omega), layv_out _ _ _ (by omega), updv_same, updv_ne _ _ (by decide), layv_out _ _ _ (by omega), updv_same]
      rfl
    by_cases q3 : i = 3
    · subst q3
      rw [layv_out _ _ _ (by omega), updv_ne _ _ (by decide), layv_out _ _ _ (by omega), layv_out _ _ _ (by omega), updv_ne _ _ (by decide), updv_ne _ _ (by decide), layv_out _ _ _ (by omega), updv_ne _ _ (by decide), layv_out _ _ _ (by omega), layv_out _ _ _ (by omega), updv_same]
      rfl
    by_cases q9 : 9 ≤ i ∧ i < 29
    · obtain ⟨j, rfl⟩ : ∃ j, i = 9 + j := ⟨i - 9, by omega⟩
      rw [layv_in _ _ _ (by omega), updv_ne _ _ (by omega), layv_out _ _ _ (by omega), updv_ne _ _ (by omega), layv_out _ _ _ (by omega), layv_in _ _ _ (by omega)]
    by_cases q29 : 29 ≤ i ∧ i < 49
    · obtain ⟨j, rfl⟩ : ∃ j, i = 29 + j := ⟨i - 29, by omega⟩
      rw [layv_out _ _ _ (by omega), updv_ne _ _ (by omega), layv_out _ _ _ (by omega), layv_in _ _ _ (by omega), updv_ne _ _ (by omega), layv_out _ _ _ (by omega), updv_ne _ _ (by omega), layv_in _ _ _ (by omega)]
    by_cases q49 : 49 ≤ i ∧ i < 53
    · obtain ⟨j, rfl⟩ : ∃ j, i = 49 + j := ⟨i - 49, by omega⟩
      rw [layv_out _ _ _ (by omega), updv_ne _ _ (by omega), layv_in _ _ _ (by omega), updv_ne _ _ (by omega), layv_in _ _ _ (by omega)]
    by_cases q53 : i = 53
    · subst q53
      rw [layv_out _ _ _ (by omega), updv_same, updv_same]
    · rw [layv_out _ _ _ (by omega), updv_ne _ _ q53, layv_out _ _ _ (by omega), layv_out _ _ _ (by omega), updv_ne _ _ q0, updv_ne _ _ q53, layv_out _ _ _ (by omega), updv_ne _ _ q0, layv_out _ _ _ (by omega), layv_out _ _ _ (by omega), updv_ne _ _ q3, updv_ne _ _ q0]
theorem joinQ {P Fc : Nat → World → Prop} {G : Prop} (h : (∀ B W, Fc B W → P B W) → G) (k : ∀ B W, Fc B W → P B W) : G := h k
theorem NL.reoq {O O' : Nat → Prop} {w : World} {v : Value} {l : List Nat} (h : NL O w v l) (hO : ∀ b, b < w.heap.size → O' b → O b) : NL O' w v l := by
  obtain ⟨o, c, h1, h2, h3, h4⟩ := h
  refine ⟨o, c, h1, h2, h3, h4.lt, fun hl => ?_⟩
  obtain ⟨b, off, q1, q2, q3, q4⟩ := h4.spot hl
  exact ⟨b, off, q1, fun q => q2 (hO b q3 q), q3, q4⟩
theorem VStep.nlq {own own' : Nat → Nat} {w w' : World} {c c' : Nat → Value} (k : VStep own w c own' w' c') (hf : ∀ b, w.heap.size ≤ b → own b = 0) {v : Value} {l : List Nat} (h : NL (Mu own) w v l) : NL (Mu own') w' v l := by
  have h1 : NL (Mu own') w v l := h.reoq (fun b hb q => by
    have q2 : own' b ≠ 0 := q
    rw [k.keep b hb] at q2
    exact q2)
  refine h1.keep k.mod (fun b hb q => ?_)
  rcases Nat.lt_or_ge b w.heap.size with h2 | h2
  · exact hb (by show own' b ≠ 0; rw [k.keep b h2]; exact q.1.1)
  · exact q.1.1 (hf b h2)
theorem VRep.nonLt {own : Nat → Nat} {w : World} {g : Nat} {c : Nat → Value} {V : EV} (h : VRep own w g c V) (a : Nat) : (V.acct a).nonce < 18446744073709551616 := by
  unfold EV.acct
  cases e : look EAcct.addr a V.accts with
  | none => exact (by decide : 0 < 18446744073709551616)
  | some x =>
    obtain ⟨hm, _⟩ := look_some e
    obtain ⟨i, hi, rfl⟩ := List.getElem_of_mem hm
    obtain ⟨b, cap, cc, _, _, _, _, _, hrow⟩ := GRow.at_ h.accts (fun q => by rw [q] at hi; cases hi)
    exact (hrow i hi).nLt
theorem ChC.like {O : Nat → Prop} {w : World} {d d' : Nat → Value} {k pre gas self caller v : Nat} {sb : Bool} {code input : List Nat} (h : ChC O w d k pre gas self caller v sb code input) (hd : ∀ i, i < 65 → d' i = d i) : ChC O w d' k pre gas self caller v sb code input where
  kind := (hd 0 (by decide)).trans h.kind
  pre := (hd 2 (by decide)).trans h.pre
  static := (hd 3 (by decide)).trans h.static
  pc := (hd 4 (by decide)).trans h.pc
  sp := (hd 6 (by decide)).trans h.sp
  gas := (hd 7 (by decide)).trans h.gas
  self := h.self.same h.sLt (fun j hj => hd _ (by omega))
  sLt := h.sLt
  caller := h.caller.same h.cLt (fun j hj => hd _ (by omega))
  cLt := h.cLt
  value := ⟨(hd 49 (by decide)).trans h.value.c0, (hd 50 (by decide)).trans h.value.c1, (hd 51 (by decide)).trans h.value.c2, (hd 52 (by decide)).trans h.value.c3⟩
  code := by rw [hd 53 (by decide)]; exact h.code
  input := by rw [hd 54 (by decide)]; exact h.input
  outOff := (hd 63 (by decide)).trans h.outOff
  outLen := (hd 64 (by decide)).trans h.outLen
  ones := fun i hi => by rw [hd i hi]; exact h.ones i hi
section
variable {st : ASt} {f : AFrame} {rest : List AFrame} {sf cg : Nat}
theorem np240 (hp : 6 ≤ rest.length ∨ st.now.bal f.self < f.arg 0 ∨ 18446744073709551615 ≤ st.now.nonce f.self) : st.enterCreate f rest 240 = ({ st with ret := [], frames := f.settle 3 [0] 1 :: rest } : ASt) := by
  unfold ASt.enterCreate
  rw [if_pos hp]
  rfl
theorem nt240 (hd : rest.length < 6) (hb : f.arg 0 ≤ st.now.bal f.self) (hn : st.now.nonce f.self < 18446744073709551615) (e1 : createAddrA f.self (st.now.nonce f.self) = sf) (e2 : sentA f.gas f.gas = cg) (ht : ((st.now.setNonce f.self (st.now.nonce f.self + 1)).warm sf).nonce sf ≠ 0 ∨ ((st.now.setNonce f.self (st.now.nonce f.self + 1)).warm sf).code sf ≠ []) : st.enterCreate f rest 240 = ({ st with ret := [], now := (st.now.setNonce f.self (st.now.nonce f.self + 1)).warm sf, frames := ({ f with gas := f.gas - cg } : AFrame).settle 3 [0] 1 :: rest } : ASt) := by
  subst e1 e2
  unfold ASt.enterCreate
  rw [if_neg (by omega)]
  simp only [show takesA 240 = 3 from rfl, show ¬ ((240 : Nat) = 245) by decide, if_false]
  rw [if_pos ht]
theorem ng240 (hph : st.phase = 1) (hd : rest.length < 6) (hb : f.arg 0 ≤ st.now.bal f.self) (hn : st.now.nonce f.self < 18446744073709551615) (e1 : createAddrA f.self (st.now.nonce f.self) = sf) (e2 : sentA f.gas f.gas = cg) (ht : ¬ (((st.now.setNonce f.self (st.now.nonce f.self + 1)).warm sf).nonce sf ≠ 0 ∨ ((st.now.setNonce f.self (st.now.nonce f.self + 1)).warm sf).code sf ≠ [])) : st.enterCreate f rest 240 = ({ st with ret := [], phase := 1, now := (((((st.now.setNonce f.self (st.now.nonce f.self + 1)).warm sf).setNonce sf 1).markMade sf).move f.self sf (f.arg 0)), frames := { kind := 5, pre := 0, static := false, pc := 0, gas := cg, value := f.arg 0, outOff := 0, outLen := 0, stack := [], mem := [], code := readA f.mem (f.arg 1) (f.arg 2), input := [], self := sf, caller := f.self, saved := (st.now.setNonce f.self (st.now.nonce f.self + 1)).warm sf } :: ({ f with gas := f.gas - cg, outOff := 0, outLen := 0 } : AFrame).settle 3 [] 0 :: rest } : ASt) := by
  subst e1 e2
  unfold ASt.enterCreate
  rw [if_neg (by omega)]
  simp only [show takesA 240 = 3 from rfl, show ¬ ((240 : Nat) = 245) by decide, if_false]
  rw [if_neg ht]
  simp [ASt.enter, AFrame.settle, createsA, hph]
theorem np245 (hp : 6 ≤ rest.length ∨ st.now.bal f.self < f.arg 0 ∨ 18446744073709551615 ≤ st.now.nonce f.self) : st.enterCreate f rest 245 = ({ st with ret := [], frames := f.settle 4 [0] 1 :: rest } : ASt) := by
  unfold ASt.enterCreate
  rw [if_pos hp]
  rfl
theorem nt245 (hd : rest.length < 6) (hb : f.arg 0 ≤ st.now.bal f.self) (hn : st.now.nonce f.self < 18446744073709551615) (e1 : create2AddrA f.self (f.arg 3) (readA f.mem (f.arg 1) (f.arg 2)) = sf) (e2 : sentA f.gas f.gas = cg) (ht : ((st.now.setNonce f.self (st.now.nonce f.self + 1)).warm sf).nonce sf ≠ 0 ∨ ((st.now.setNonce f.self (st.now.nonce f.self + 1)).warm sf).code sf ≠ []) : st.enterCreate f rest 245 = ({ st with ret := [], now := (st.now.setNonce f.self (st.now.nonce f.self + 1)).warm sf, frames := ({ f with gas := f.gas - cg } : AFrame).settle 4 [0] 1 :: rest } : ASt) := by
  subst e1 e2
  unfold ASt.enterCreate
  rw [if_neg (by omega)]
  simp only [show takesA 245 = 4 from rfl, if_true]
  rw [if_pos ht]
theorem ng245 (hph : st.phase = 1) (hd : rest.length < 6) (hb : f.arg 0 ≤ st.now.bal f.self) (hn : st.now.nonce f.self < 18446744073709551615) (e1 : create2AddrA f.self (f.arg 3) (readA f.mem (f.arg 1) (f.arg 2)) = sf) (e2 : sentA f.gas f.gas = cg) (ht : ¬ (((st.now.setNonce f.self (st.now.nonce f.self + 1)).warm sf).nonce sf ≠ 0 ∨ ((st.now.setNonce f.self (st.now.nonce f.self + 1)).warm sf).code sf ≠ [])) : st.enterCreate f rest 245 = ({ st with ret := [], phase := 1, now := (((((st.now.setNonce f.self (st.now.nonce f.self + 1)).warm sf).setNonce sf 1).markMade sf).move f.self sf (f.arg 0)), frames := { kind := 6, pre := 0, static := false, pc := 0, gas := cg, value := f.arg 0, outOff := 0, outLen := 0, stack := [], mem := [], code := readA f.mem (f.arg 1) (f.arg 2), input := [], self := sf, caller := f.self, saved := (st.now.setNonce f.self (st.now.nonce f.self + 1)).warm sf } :: ({ f with gas := f.gas - cg, outOff := 0, outLen := 0 } : AFrame).settle 4 [] 0 :: rest } : ASt) := by
  subst e1 e2
  unfold ASt.enterCreate
  rw [if_neg (by omega)]
  simp only [show takesA 245 = 4 from rfl, if_true]
  rw [if_neg ht]
  simp [ASt.enter, AFrame.settle, createsA, hph]
end
end Go.Proofs.YgvahwGreat
