import Derived.Test.YgvahwGreatZr0
import Derived.Test.YgvahwGreatYqS
import Derived.Test.YgvahwGreatYpC241
import Derived.Test.YgvahwGreatYpC242
import Derived.Test.YgvahwGreatYpC244
import Derived.Test.YgvahwGreatYpC250
import Derived.Test.YgvahwGreatYpM240
import Derived.Test.YgvahwGreatYpM245
namespace Go.Proofs.YgvahwGreat
open Go.RowKit
set_option linter.unusedVariables false
set_option linter.unusedSimpArgs false
theorem arg_ltC {f : AFrame} (h : FOK f) (i : Nat) : f.arg i < P256 := by
  unfold AFrame.arg List.getD
  cases e : f.stack[i]? with
  | none => rw [P256_eq]; exact Nat.pow_pos (by decide)
  | some y => exact h.sLt y (List.mem_of_getElem? e)
theorem preA_cases (t : Nat) : preA t = 0 ∨ preA t = 4 ∨ preA t = 5 := by
  unfold preA
  split
  · rename_i q; exact Or.inr q
  · exact Or.inl rfl
theorem fok_callP {f : AFrame} {o : Nat} (hk : FOK f) (hre : endA (f.arg (takesA o - 4 + 2)) (f.arg (takesA o - 4 + 3)) ≤ f.mem.length) : FOK (callP f o) := by
  have hm := hk.mLen
  have hg := hk.gas
  have hs := hk.sLen
  unfold endA at hre
  unfold callP
  refine ⟨hk.kind, hk.pre, hk.pc, by simp; omega, fun x hx => hk.sLt x (List.mem_of_mem_drop hx), by simp; omega, hk.self, hk.caller, hk.value, hk.code, hk.mLen, hk.m32, ?_, ?_, ?_⟩
  · simp only
    split
    · decide
    · rename_i q; rw [if_neg q] at hre; omega
  · simp only
    split at hre
    · omega
    · omega
  · simp only
    intro q
    rw [if_neg q] at hre
    rw [if_neg q]
    exact hre
theorem fok_callC {now : AW} {f : AFrame} {o : Nat} {cd : List Nat} (hk : FOK f) (hg : callG f o ≤ 1048576) (hcd : cd.length ≤ 512) : FOK (callC now f o cd) := by
  have ha : addrA (f.arg 1) < 2 ^ 160 := Nat.mod_lt _ (by decide)
  have hP : (0 : Nat) < P256 := by rw [P256_eq]; exact Nat.pow_pos (by decide)
  unfold callC
  refine ⟨?_, preA_cases _, by simp, by simp, by simp, hg, ?_, ?_, ?_, ?_, by simp, by simp, by simp, by simp, by simp⟩
  · simp only
    split
    · decide
    split
    · decide
    split <;> decide
  · simp only
    split
    · exact hk.self
    · exact ha
  · simp only
    split
    · exact hk.caller
    · exact hk.self
  · simp only
    split
    · exact hk.value
    · unfold callV
      split
      · exact arg_ltC hk 2
      · exact hP
  · simp only
    split
    · exact hcd
    · simp
theorem sent_le (g a : Nat) : sentA g a ≤ g := by unfold sentA; omega
theorem call_gs (st : ASt) (f : AFrame) (rest : List AFrame) (o : Nat) : gsum (st.enterCall f rest o).frames = f.gas + (if callV f o ≠ 0 then 2300 else 0) + gsum rest := by
  have hs := sent_le f.gas (f.arg 0)
  by_cases hc : 6 ≤ rest.length ∨ st.now.bal f.self < callV f o
  · rw [enterCall_poor o hc]
    simp only [gsum, List.map_cons, List.sum_cons, AFrame.settle, callG]
    omega
  · rw [enterCall_go o hc]
    simp only [ASt.enter, gsum, List.map_cons, List.sum_cons, callP, callC, callG]
    omega
theorem create_gs (st : ASt) (f : AFrame) (rest : List AFrame) (o : Nat) : gsum (st.enterCreate f rest o).frames ≤ f.gas + gsum rest := by
  have hs := sent_le f.gas f.gas
  by_cases hc : 6 ≤ rest.length ∨ st.now.bal f.self < f.arg 0 ∨ 18446744073709551615 ≤ st.now.nonce f.self
  · rw [enterCreate_poor o hc]
    exact Nat.le_refl _
  · by_cases ht : (makeNow st.now f o).nonce (makeS f o (st.now.nonce f.self)) ≠ 0 ∨ (makeNow st.now f o).code (makeS f o (st.now.nonce f.self)) ≠ []
    · rw [enterCreate_taken o hc ht]
      show f.gas - sentA f.gas f.gas + gsum rest ≤ _
      omega
    · rw [enterCreate_go o hc ht]
      show sentA f.gas f.gas + (f.gas - sentA f.gas f.gas + gsum rest) ≤ _
      omega
theorem fok_makeP {f : AFrame} {o : Nat} (hk : FOK f) : FOK (makeP f o) := by
  have hg := hk.gas
  have hs := hk.sLen
  unfold makeP
  exact ⟨hk.kind, hk.pre, hk.pc, by simp; omega, fun x hx => hk.sLt x (List.mem_of_mem_drop hx), by simp; omega, hk.self, hk.caller, hk.value, hk.code, hk.mLen, hk.m32, by simp, by simp, by simp⟩
theorem makeS_lt (f : AFrame) (o n : Nat) : makeS f o n < 2 ^ 160 := by unfold makeS; split <;> exact Nat.mod_lt _ (by decide)
theorem fok_makeC {now : AW} {f : AFrame} {o n : Nat} (hk : FOK f) (h2 : f.arg 2 ≤ 512) : FOK (makeC now f o n) := by
  have hg := hk.gas
  have hs := sent_le f.gas f.gas
  unfold makeC
  refine ⟨?_, Or.inl rfl, by simp, by simp, by simp, by simp only; omega, makeS_lt _ _ _, hk.self, arg_ltC hk 0, ?_, by simp, by simp, by simp, by simp, by simp⟩
  · simp only
    split <;> decide
  · simp only
    rw [readA_lenm]; exact h2
section
variable {K T B : Nat} {O TL : Nat → Prop} {w : World} {Y F n : Nat} {c d : Nat → Value} {W : YW} {start : List (Nat × Nat × Nat)} {st : ASt} {tot : Nat} {x : YFrm} {r : List YFrm}
theorem ZrP.slots (h : ZrP K T B O TL w Y F n c d W start st tot x r) {W2 : YW} {k : Nat} (hs : W2.siz ≤ W.siz + k) (hk : k ≤ 2000) : ∀ y ∈ W2.accts, y.slots.length ≤ 90000 := fun y hy => by
  have h1 := wts_mem hy
  have h2 := h.siz
  have h3 : wts W2.accts ≤ W2.siz := by unfold YW.siz; omega
  have h4 : y.wt = 1 + y.slots.length := rfl
  omega
/-- A balance that is lowered. -/
theorem ZrP.limDown (h : ZrP K T B O TL w Y F n c d W start st tot x r) {W2 : YW} {k : Nat} (hs : W2.siz ≤ W.siz + k) (hk : k ≤ 1000) (hi : WInv T 2097152 st.orig W2.abs) (a v : Nat) : YLim (W2.setBal a ((W2.acct a).bal - v)) := by
  have hsz := h.siz
  have s1 := (siz_setBal W2 a ((W2.acct a).bal - v)).1
  have ea := YW.setBal_abs W2 a ((W2.acct a).bal - v)
  refine YLim.of (by omega) (fun b => ?_) (fun b => ?_) (fun b => ?_) ?_
  · show ((W2.setBal a ((W2.acct a).bal - v)).abs.code b).length ≤ _
    rw [ea]
    have := hi.code b
    show (W2.abs.code b).length ≤ _
    omega
  · show (W2.setBal a ((W2.acct a).bal - v)).abs.nonce b < _
    rw [ea]; exact hi.nonce b
  · show (W2.setBal a ((W2.acct a).bal - v)).abs.bal b < _
    rw [ea]
    have h1 := hi.sum.one b
    have h2 := h.hT
    show up W2.abs.bal a ((W2.acct a).bal - v) b < _
    unfold up
    split
    · rename_i q
      have h3 : (W2.acct a).bal ≤ T := hi.sum.one a
      omega
    · omega
  · show (W2.setBal a ((W2.acct a).bal - v)).abs.refund < _
    rw [ea]
    have := hi.ref
    show W2.abs.refund < _
    omega
theorem ZrP.fin2 (h : ZrP K T B O TL w Y F n c d W start st tot x r) {w' : World} {W' : YW} {st' : ASt} {S : YW → Prop} (k : Nat) (q : YNx O w w' Y W' start st' tot S) (hw : W'.siz ≤ W.siz + k) (hg : gsum st'.frames + 50 * k ≤ gsum st.frames) (hS : ∀ v, S v → v.siz ≤ W.siz + k ∨ ∃ z ∈ x :: r, v = z.sv) : YRn K O w w' Y start st' tot := by
  obtain ⟨O', TL', F', n', c', d', L', hY, hO, hM, hs⟩ := q
  have h1 := h.si.now
  refine ⟨O', TL', F', n', c', d', W', L', hY, ⟨by omega, fun y hy => ?_⟩, hO, hM⟩
  rcases hS _ (hs y hy) with e | ⟨z, hz, e⟩
  · omega
  · have := h.si.saved z hz
    rw [e]; omega
theorem stepF_call {f : AFrame} {rest : List AFrame} {o : Nat} (hpre : f.pre = 0) (hr : st.refusal f f.opcode = 0) (hop : f.opcode = o) (ho : o = 241 ∨ o = 242 ∨ o = 244 ∨ o = 250) : st.stepF f rest = st.enterCall (st.paidF f o) rest o := by
  rw [stepF_go hpre hr, hop]
  rcases ho with rfl | rfl | rfl | rfl <;> rfl
theorem stepF_create {f : AFrame} {rest : List AFrame} {o : Nat} (hpre : f.pre = 0) (hr : st.refusal f f.opcode = 0) (hop : f.opcode = o) (ho : o = 240 ∨ o = 245) : st.stepF f rest = st.enterCreate (st.paidF f o) rest o := by
  rw [stepF_go hpre hr, hop]
  rcases ho with rfl | rfl <;> rfl
set_option maxHeartbeats 4000000 in
theorem zCreateM240 {MS : Nat} (hMS : makeS x.f 240 (W.acct x.f.self).nonce = MS) (HLG : ∀ {O T : Nat → Prop} {w : World} {v : Value} {l : List ALog}, Small O w → LogL T O w v l → l.length ≤ 100000 → Calls Hvah.prog 80 #[v] w fun e w' => ∃ r, e = .returned r ∧ GRow 141 22 (LgC O w') (fun b => ¬ O b) w' r l ∧ Full r ∧ Ext w w') (HCA : ∀ {O : Nat → Prop} {w : World} {cr n : Nat} {vs : Value}, cr < 2 ^ 160 → Small O w → NV O w vs n → n < 18446744073709551616 → Calls Hvah.prog 54 #[.agg (av cr), vs] w fun e w' => e = .returned (.agg (av (createAddrA cr n))) ∧ Ext w w')  (h : YZ O TL w Y F n c d W start st tot (x :: r)) (hret : st.ret = []) (hT : 3 ≤ x.f.stack.length) (hl1 : ¬ (6 ≤ r.length ∨ (W.acct x.f.self).bal < x.f.arg 0 ∨ 18446744073709551615 ≤ (W.acct x.f.self).nonce) → YLim (W.setNonce x.f.self ((W.acct x.f.self).nonce + 1))) (hl2 : ¬ (6 ≤ r.length ∨ (W.acct x.f.self).bal < x.f.arg 0 ∨ 18446744073709551615 ≤ (W.acct x.f.self).nonce) → YLim ((W.setNonce x.f.self ((W.acct x.f.self).nonce + 1)).warm MS)) (hrd : x.f.arg 2 ≤ 717280) (hokP : FOK (x.f.settle 3 [0] 1)) (hokQ : FOK (({ x.f with gas := x.f.gas - sentA x.f.gas x.f.gas }).settle 3 [0] 1)) (hokG : FOK (makeP x.f 240)) (hokC : ¬ (6 ≤ r.length ∨ (W.acct x.f.self).bal < x.f.arg 0 ∨ 18446744073709551615 ≤ (W.acct x.f.self).nonce) → (((st.now.setNonce x.f.self ((W.acct x.f.self).nonce + 1)).warm MS).nonce MS = 0 ∧ ((st.now.setNonce x.f.self ((W.acct x.f.self).nonce + 1)).warm MS).code MS = []) → FOK (makeC ((st.now.setNonce x.f.self ((W.acct x.f.self).nonce + 1)).warm MS) x.f 240 (W.acct x.f.self).nonce)) (hsl : ∀ y ∈ ((W.setNonce x.f.self ((W.acct x.f.self).nonce + 1)).warm MS).accts, y.slots.length ≤ 90000) (hm1 : ¬ (6 ≤ r.length ∨ (W.acct x.f.self).bal < x.f.arg 0 ∨ 18446744073709551615 ≤ (W.acct x.f.self).nonce) → (((st.now.setNonce x.f.self ((W.acct x.f.self).nonce + 1)).warm MS).nonce MS = 0 ∧ ((st.now.setNonce x.f.self ((W.acct x.f.self).nonce + 1)).warm MS).code MS = []) → YLim (((W.setNonce x.f.self ((W.acct x.f.self).nonce + 1)).warm MS).setNonce MS 1)) (hm2 : ¬ (6 ≤ r.length ∨ (W.acct x.f.self).bal < x.f.arg 0 ∨ 18446744073709551615 ≤ (W.acct x.f.self).nonce) → (((st.now.setNonce x.f.self ((W.acct x.f.self).nonce + 1)).warm MS).nonce MS = 0 ∧ ((st.now.setNonce x.f.self ((W.acct x.f.self).nonce + 1)).warm MS).code MS = []) → YLim ((((W.setNonce x.f.self ((W.acct x.f.self).nonce + 1)).warm MS).setNonce MS 1).markMade MS)) (hm3 : ¬ (6 ≤ r.length ∨ (W.acct x.f.self).bal < x.f.arg 0 ∨ 18446744073709551615 ≤ (W.acct x.f.self).nonce) → (((st.now.setNonce x.f.self ((W.acct x.f.self).nonce + 1)).warm MS).nonce MS = 0 ∧ ((st.now.setNonce x.f.self ((W.acct x.f.self).nonce + 1)).warm MS).code MS = []) → YLim (((((W.setNonce x.f.self ((W.acct x.f.self).nonce + 1)).warm MS).setNonce MS 1).markMade MS).setBal x.f.self ((((((W.setNonce x.f.self ((W.acct x.f.self).nonce + 1)).warm MS).setNonce MS 1).markMade MS).acct x.f.self).bal - x.f.arg 0))) (hm4 : ¬ (6 ≤ r.length ∨ (W.acct x.f.self).bal < x.f.arg 0 ∨ 18446744073709551615 ≤ (W.acct x.f.self).nonce) → (((st.now.setNonce x.f.self ((W.acct x.f.self).nonce + 1)).warm MS).nonce MS = 0 ∧ ((st.now.setNonce x.f.self ((W.acct x.f.self).nonce + 1)).warm MS).code MS = []) → YLim (((((W.setNonce x.f.self ((W.acct x.f.self).nonce + 1)).warm MS).setNonce MS 1).markMade MS).move x.f.self MS (x.f.arg 0))) :
    Calls Hvah.prog 158 #[.pointer (some ⟨Y, 0, none⟩), .pointer (some ⟨F, r.length * 60, none⟩), .int .u8 240] w fun e w' => e = .returned (.tuple #[]) ∧ YNx O w w' Y (if (6 ≤ r.length ∨ (W.acct x.f.self).bal < x.f.arg 0 ∨ 18446744073709551615 ≤ (W.acct x.f.self).nonce) then W else if (((st.now.setNonce x.f.self ((W.acct x.f.self).nonce + 1)).warm MS).nonce MS = 0 ∧ ((st.now.setNonce x.f.self ((W.acct x.f.self).nonce + 1)).warm MS).code MS = []) then (((((W.setNonce x.f.self ((W.acct x.f.self).nonce + 1)).warm MS).setNonce MS 1).markMade MS).move x.f.self MS (x.f.arg 0)) else ((W.setNonce x.f.self ((W.acct x.f.self).nonce + 1)).warm MS)) start (st.enterCreate x.f (r.map (·.f)) 240) tot (fun v => v = ((W.setNonce x.f.self ((W.acct x.f.self).nonce + 1)).warm MS) ∨ ∃ z ∈ x :: r, v = z.sv) := by
  subst hMS
  exact zCreate240 HLG HCA h hret hT hl1 hl2 hrd hokP hokQ hokG hokC hsl hm1 hm2 hm3 hm4
set_option maxHeartbeats 4000000 in
theorem zCreateM245 {MS : Nat} (hMS : makeS x.f 245 (W.acct x.f.self).nonce = MS) (HLG : ∀ {O T : Nat → Prop} {w : World} {v : Value} {l : List ALog}, Small O w → LogL T O w v l → l.length ≤ 100000 → Calls Hvah.prog 80 #[v] w fun e w' => ∃ r, e = .returned r ∧ GRow 141 22 (LgC O w') (fun b => ¬ O b) w' r l ∧ Full r ∧ Ext w w') (HCA : ∀ {O : Nat → Prop} {w : World} {cr n : Nat} {vs : Value}, cr < 2 ^ 160 → Small O w → NV O w vs n → n < 18446744073709551616 → Calls Hvah.prog 54 #[.agg (av cr), vs] w fun e w' => e = .returned (.agg (av (createAddrA cr n))) ∧ Ext w w') (HC2 : ∀ {O O' : Nat → Prop} {w : World} {cr salt : Nat} {vs v : Value} {init : List Nat}, cr < 2 ^ 160 → NV O w vs salt → salt < P256 → NL O' w v init → init.length ≤ 1000000 → Calls Hvah.prog 234 #[.agg (av cr), vs, v] w fun e w' => e = .returned (.agg (av (create2AddrA cr salt init))) ∧ Ext w w') (h : YZ O TL w Y F n c d W start st tot (x :: r)) (hret : st.ret = []) (hT : 4 ≤ x.f.stack.length) (hl1 : ¬ (6 ≤ r.length ∨ (W.acct x.f.self).bal < x.f.arg 0 ∨ 18446744073709551615 ≤ (W.acct x.f.self).nonce) → YLim (W.setNonce x.f.self ((W.acct x.f.self).nonce + 1))) (hl2 : ¬ (6 ≤ r.length ∨ (W.acct x.f.self).bal < x.f.arg 0 ∨ 18446744073709551615 ≤ (W.acct x.f.self).nonce) → YLim ((W.setNonce x.f.self ((W.acct x.f.self).nonce + 1)).warm MS)) (hrd : x.f.arg 2 ≤ 717280) (hokP : FOK (x.f.settle 4 [0] 1)) (hokQ : FOK (({ x.f with gas := x.f.gas - sentA x.f.gas x.f.gas }).settle 4 [0] 1)) (hokG : FOK (makeP x.f 245)) (hokC : ¬ (6 ≤ r.length ∨ (W.acct x.f.self).bal < x.f.arg 0 ∨ 18446744073709551615 ≤ (W.acct x.f.self).nonce) → (((st.now.setNonce x.f.self ((W.acct x.f.self).nonce + 1)).warm MS).nonce MS = 0 ∧ ((st.now.setNonce x.f.self ((W.acct x.f.self).nonce + 1)).warm MS).code MS = []) → FOK (makeC ((st.now.setNonce x.f.self ((W.acct x.f.self).nonce + 1)).warm MS) x.f 245 (W.acct x.f.self).nonce)) (hsl : ∀ y ∈ ((W.setNonce x.f.self ((W.acct x.f.self).nonce + 1)).warm MS).accts, y.slots.length ≤ 90000) (hm1 : ¬ (6 ≤ r.length ∨ (W.acct x.f.self).bal < x.f.arg 0 ∨ 18446744073709551615 ≤ (W.acct x.f.self).nonce) → (((st.now.setNonce x.f.self ((W.acct x.f.self).nonce + 1)).warm MS).nonce MS = 0 ∧ ((st.now.setNonce x.f.self ((W.acct x.f.self).nonce + 1)).warm MS).code MS = []) → YLim (((W.setNonce x.f.self ((W.acct x.f.self).nonce + 1)).warm MS).setNonce MS 1)) (hm2 : ¬ (6 ≤ r.length ∨ (W.acct x.f.self).bal < x.f.arg 0 ∨ 18446744073709551615 ≤ (W.acct x.f.self).nonce) → (((st.now.setNonce x.f.self ((W.acct x.f.self).nonce + 1)).warm MS).nonce MS = 0 ∧ ((st.now.setNonce x.f.self ((W.acct x.f.self).nonce + 1)).warm MS).code MS = []) → YLim ((((W.setNonce x.f.self ((W.acct x.f.self).nonce + 1)).warm MS).setNonce MS 1).markMade MS)) (hm3 : ¬ (6 ≤ r.length ∨ (W.acct x.f.self).bal < x.f.arg 0 ∨ 18446744073709551615 ≤ (W.acct x.f.self).nonce) → (((st.now.setNonce x.f.self ((W.acct x.f.self).nonce + 1)).warm MS).nonce MS = 0 ∧ ((st.now.setNonce x.f.self ((W.acct x.f.self).nonce + 1)).warm MS).code MS = []) → YLim (((((W.setNonce x.f.self ((W.acct x.f.self).nonce + 1)).warm MS).setNonce MS 1).markMade MS).setBal x.f.self ((((((W.setNonce x.f.self ((W.acct x.f.self).nonce + 1)).warm MS).setNonce MS 1).markMade MS).acct x.f.self).bal - x.f.arg 0))) (hm4 : ¬ (6 ≤ r.length ∨ (W.acct x.f.self).bal < x.f.arg 0 ∨ 18446744073709551615 ≤ (W.acct x.f.self).nonce) → (((st.now.setNonce x.f.self ((W.acct x.f.self).nonce + 1)).warm MS).nonce MS = 0 ∧ ((st.now.setNonce x.f.self ((W.acct x.f.self).nonce + 1)).warm MS).code MS = []) → YLim (((((W.setNonce x.f.self ((W.acct x.f.self).nonce + 1)).warm MS).setNonce MS 1).markMade MS).move x.f.self MS (x.f.arg 0))) :
    Calls Hvah.prog 158 #[.pointer (some ⟨Y, 0, none⟩), .pointer (some ⟨F, r.length * 60, none⟩), .int .u8 245] w fun e w' => e = .returned (.tuple #[]) ∧ YNx O w w' Y (if (6 ≤ r.length ∨ (W.acct x.f.self).bal < x.f.arg 0 ∨ 18446744073709551615 ≤ (W.acct x.f.self).nonce) then W else if (((st.now.setNonce x.f.self ((W.acct x.f.self).nonce + 1)).warm MS).nonce MS = 0 ∧ ((st.now.setNonce x.f.self ((W.acct x.f.self).nonce + 1)).warm MS).code MS = []) then (((((W.setNonce x.f.self ((W.acct x.f.self).nonce + 1)).warm MS).setNonce MS 1).markMade MS).move x.f.self MS (x.f.arg 0)) else ((W.setNonce x.f.self ((W.acct x.f.self).nonce + 1)).warm MS)) start (st.enterCreate x.f (r.map (·.f)) 245) tot (fun v => v = ((W.setNonce x.f.self ((W.acct x.f.self).nonce + 1)).warm MS) ∨ ∃ z ∈ x :: r, v = z.sv) := by
  subst hMS
  exact zCreate245 HLG HCA HC2 h hret hT hl1 hl2 hrd hokP hokQ hokG hokC hsl hm1 hm2 hm3 hm4
theorem zr_241 (HLG : ∀ {O T : Nat → Prop} {w : World} {v : Value} {l : List ALog}, Small O w → LogL T O w v l → l.length ≤ 100000 → Calls Hvah.prog 80 #[v] w fun e w' => ∃ r, e = .returned r ∧ GRow 141 22 (LgC O w') (fun b => ¬ O b) w' r l ∧ Full r ∧ Ext w w') (h : ZrP K T B O TL w Y F n c d W start st tot x r) (hpre : x.f.pre = 0) (hop : x.f.opcode = 241) (hr : st.refusal x.f x.f.opcode = 0) : Calls Hvah.prog 30 #[.pointer (some ⟨Y, 0, none⟩)] w fun e w' => e = .returned (.bool true) ∧ YRn K O w w' Y start (st.stepF x.f (r.map (·.f))) tot := by
  have q := h.q hop hr
  obtain ⟨hb1, hb2⟩ := bare_call (st := st) (f := x.f) (o := 241) (by decide)
  have e3 := stepF_call (st := st) (rest := r.map (·.f)) hpre hr hop (by decide)
  have hq := q.gas
  have hxg := h.fok.gas
  have hV : ∃ k, (if (callV (st.paidF x.f 241) 241) ≠ 0 then 2300 else 0) + 50 * k ≤ st.bareCost x.f 241 ∧ 1 ≤ k ∧ ((callV (st.paidF x.f 241) 241) ≠ 0 → 2 ≤ k) ∧ k ≤ 2 := by
    by_cases hv : (callV (st.paidF x.f 241) 241) = 0
    · exact ⟨1, by rw [if_neg (by omega)]; omega, by decide, fun q => absurd hv q, by decide⟩
    · have h9 : 9100 ≤ st.bareCost x.f 241 := hb2 (by decide) (by
        have hv2 := hv
        unfold callV at hv2
        rw [if_pos (by decide)] at hv2
        exact hv2)
      exact ⟨2, by rw [if_pos hv]; omega, by decide, fun _ => Nat.le_refl _, by decide⟩
  obtain ⟨k, k1, k2, k3, k4⟩ := hV
  have hs := sent_le (st.paidF x.f 241).gas ((st.paidF x.f 241).arg 0)
  have s1 := (siz_warm W (addrA ((st.paidF x.f 241).arg 1))).1
  have i1 : WInv T 2097152 st.orig (W.warm (addrA ((st.paidF x.f 241).arg 1))).abs := by rw [YW.warm_abs]; exact h.now.warm _
  have l1 := h.lim 1 s1 (by decide) i1
  have hre := q.re
  have hrm := q.rm
  have er : x.f.reach 241 = max (endA (x.f.arg 3) (x.f.arg 4)) (endA (x.f.arg 5) (x.f.arg 6)) := by unfold AFrame.reach; simp
  rw [er] at hre hrm
  have hrd : (st.paidF x.f 241).arg 4 ≤ 717280 := by
    have hh : endA (x.f.arg 3) (x.f.arg 4) ≤ 717280 := by omega
    show x.f.arg 4 ≤ 717280
    unfold endA at hh
    split at hh <;> omega
  have hpc := q.pc (by decide)
  have hcg : callG (st.paidF x.f 241) 241 ≤ 1048576 := by unfold callG; omega
  have hokP : FOK (({ (st.paidF x.f 241) with gas := (st.paidF x.f 241).gas - sentA (st.paidF x.f 241).gas ((st.paidF x.f 241).arg 0) + callG (st.paidF x.f 241) 241 }).settle 7 [0] 1) :=
    (q.ok.lessGas (by unfold callG; omega)).settle1 (by rw [P256_eq]; exact Nat.pow_pos (by decide)) (by have := q.ok.sLen; show (st.paidF x.f 241).stack.length - 7 < 64; omega) (by show x.f.pc + 1 ≤ 60000; omega)
  have hokG : FOK (callP (st.paidF x.f 241) 241) := fok_callP q.ok (by
    show endA (x.f.arg 5) (x.f.arg 6) ≤ _
    omega)
  have hcd : (W.acct (addrA ((st.paidF x.f 241).arg 1))).code.length ≤ 512 := by have := h.now.code (addrA ((st.paidF x.f 241).arg 1)); show (W.abs.code (addrA ((st.paidF x.f 241).arg 1))).length ≤ 512; omega
  have l3 := h.limDown s1 (by decide) i1 (st.paidF x.f 241).self (callV (st.paidF x.f 241) 241)
  have l4 : YLim ((W.warm (addrA ((st.paidF x.f 241).arg 1))).move (st.paidF x.f 241).self (addrA ((st.paidF x.f 241).arg 1)) (callV (st.paidF x.f 241) 241)) := h.lim 2 (by have := (siz_move (W.warm (addrA ((st.paidF x.f 241).arg 1))) (st.paidF x.f 241).self (addrA ((st.paidF x.f 241).arg 1)) (callV (st.paidF x.f 241) 241)).2.1; omega) (by decide) (by rw [YW.move_abs]; exact i1.move _ _ _)
  refine (zsCall h.z h.ph hpre 241 (by decide) (by decide) (by decide) hop hr q.ok1 q.re q.ok (by decide) rfl (if (6 ≤ r.length ∨ (W.acct (st.paidF x.f 241).self).bal < (callV (st.paidF x.f 241) 241)) then (W.warm (addrA ((st.paidF x.f 241).arg 1))) else ((W.warm (addrA ((st.paidF x.f 241).arg 1))).move (st.paidF x.f 241).self (addrA ((st.paidF x.f 241).arg 1)) (callV (st.paidF x.f 241) 241))) (W.warm (addrA ((st.paidF x.f 241).arg 1))) (fun O' W1 c' d' TM' hz => zCall241 HLG hz rfl q.tk l1 hrd hokP hokG (fun _ => fok_callC q.ok hcg hcd) (h.slots s1 (by decide)) (fun _ => l3) (fun _ => l4))).mono ?_
  rintro e w' ⟨rfl, kk⟩
  refine ⟨rfl, h.fin2 k kk ?_ ?_ ?_⟩
  · split
    · omega
    · by_cases hv : (callV (st.paidF x.f 241) 241) = 0
      · rw [(siz_move (W.warm (addrA ((st.paidF x.f 241).arg 1))) (st.paidF x.f 241).self (addrA ((st.paidF x.f 241).arg 1)) (callV (st.paidF x.f 241) 241)).2.2 hv]; omega
      · have := (siz_move (W.warm (addrA ((st.paidF x.f 241).arg 1))) (st.paidF x.f 241).self (addrA ((st.paidF x.f 241).arg 1)) (callV (st.paidF x.f 241) 241)).2.1
        have := k3 hv
        omega
  · rw [e3, call_gs]
    have := h.gs
    omega
  · intro v hv
    rcases hv with hv | hv
    · left; rw [hv]; omega
    · exact Or.inr hv
theorem zr_242 (HLG : ∀ {O T : Nat → Prop} {w : World} {v : Value} {l : List ALog}, Small O w → LogL T O w v l → l.length ≤ 100000 → Calls Hvah.prog 80 #[v] w fun e w' => ∃ r, e = .returned r ∧ GRow 141 22 (LgC O w') (fun b => ¬ O b) w' r l ∧ Full r ∧ Ext w w') (h : ZrP K T B O TL w Y F n c d W start st tot x r) (hpre : x.f.pre = 0) (hop : x.f.opcode = 242) (hr : st.refusal x.f x.f.opcode = 0) : Calls Hvah.prog 30 #[.pointer (some ⟨Y, 0, none⟩)] w fun e w' => e = .returned (.bool true) ∧ YRn K O w w' Y start (st.stepF x.f (r.map (·.f))) tot := by
  have q := h.q hop hr
  obtain ⟨hb1, hb2⟩ := bare_call (st := st) (f := x.f) (o := 242) (by decide)
  have e3 := stepF_call (st := st) (rest := r.map (·.f)) hpre hr hop (by decide)
  have hq := q.gas
  have hxg := h.fok.gas
  have hV : ∃ k, (if (callV (st.paidF x.f 242) 242) ≠ 0 then 2300 else 0) + 50 * k ≤ st.bareCost x.f 242 ∧ 1 ≤ k ∧ ((callV (st.paidF x.f 242) 242) ≠ 0 → 2 ≤ k) ∧ k ≤ 2 := by
    by_cases hv : (callV (st.paidF x.f 242) 242) = 0
    · exact ⟨1, by rw [if_neg (by omega)]; omega, by decide, fun q => absurd hv q, by decide⟩
    · have h9 : 9100 ≤ st.bareCost x.f 242 := hb2 (by decide) (by
        have hv2 := hv
        unfold callV at hv2
        rw [if_pos (by decide)] at hv2
        exact hv2)
      exact ⟨2, by rw [if_pos hv]; omega, by decide, fun _ => Nat.le_refl _, by decide⟩
  obtain ⟨k, k1, k2, k3, k4⟩ := hV
  have hs := sent_le (st.paidF x.f 242).gas ((st.paidF x.f 242).arg 0)
  have s1 := (siz_warm W (addrA ((st.paidF x.f 242).arg 1))).1
  have i1 : WInv T 2097152 st.orig (W.warm (addrA ((st.paidF x.f 242).arg 1))).abs := by rw [YW.warm_abs]; exact h.now.warm _
  have l1 := h.lim 1 s1 (by decide) i1
  have hre := q.re
  have hrm := q.rm
  have er : x.f.reach 242 = max (endA (x.f.arg 3) (x.f.arg 4)) (endA (x.f.arg 5) (x.f.arg 6)) := by unfold AFrame.reach; simp
  rw [er] at hre hrm
  have hrd : (st.paidF x.f 242).arg 4 ≤ 717280 := by
    have hh : endA (x.f.arg 3) (x.f.arg 4) ≤ 717280 := by omega
    show x.f.arg 4 ≤ 717280
    unfold endA at hh
    split at hh <;> omega
  have hpc := q.pc (by decide)
  have hcg : callG (st.paidF x.f 242) 242 ≤ 1048576 := by unfold callG; omega
  have hokP : FOK (({ (st.paidF x.f 242) with gas := (st.paidF x.f 242).gas - sentA (st.paidF x.f 242).gas ((st.paidF x.f 242).arg 0) + callG (st.paidF x.f 242) 242 }).settle 7 [0] 1) :=
    (q.ok.lessGas (by unfold callG; omega)).settle1 (by rw [P256_eq]; exact Nat.pow_pos (by decide)) (by have := q.ok.sLen; show (st.paidF x.f 242).stack.length - 7 < 64; omega) (by show x.f.pc + 1 ≤ 60000; omega)
  have hokG : FOK (callP (st.paidF x.f 242) 242) := fok_callP q.ok (by
    show endA (x.f.arg 5) (x.f.arg 6) ≤ _
    omega)
  have hcd : (W.acct (addrA ((st.paidF x.f 242).arg 1))).code.length ≤ 512 := by have := h.now.code (addrA ((st.paidF x.f 242).arg 1)); show (W.abs.code (addrA ((st.paidF x.f 242).arg 1))).length ≤ 512; omega
  refine (zsCall h.z h.ph hpre 242 (by decide) (by decide) (by decide) hop hr q.ok1 q.re q.ok (by decide) rfl (if (6 ≤ r.length ∨ (W.acct (st.paidF x.f 242).self).bal < (callV (st.paidF x.f 242) 242)) then (W.warm (addrA ((st.paidF x.f 242).arg 1))) else (W.warm (addrA ((st.paidF x.f 242).arg 1)))) (W.warm (addrA ((st.paidF x.f 242).arg 1))) (fun O' W1 c' d' TM' hz => zCall242 HLG hz rfl q.tk l1 hrd hokP hokG (fun _ => fok_callC q.ok hcg hcd) (h.slots s1 (by decide)))).mono ?_
  rintro e w' ⟨rfl, kk⟩
  refine ⟨rfl, h.fin2 k kk ?_ ?_ ?_⟩
  · split
    · omega
    · omega
  · rw [e3, call_gs]
    have := h.gs
    omega
  · intro v hv
    rcases hv with hv | hv
    · left; rw [hv]; omega
    · exact Or.inr hv
theorem zr_244 (HLG : ∀ {O T : Nat → Prop} {w : World} {v : Value} {l : List ALog}, Small O w → LogL T O w v l → l.length ≤ 100000 → Calls Hvah.prog 80 #[v] w fun e w' => ∃ r, e = .returned r ∧ GRow 141 22 (LgC O w') (fun b => ¬ O b) w' r l ∧ Full r ∧ Ext w w') (h : ZrP K T B O TL w Y F n c d W start st tot x r) (hpre : x.f.pre = 0) (hop : x.f.opcode = 244) (hr : st.refusal x.f x.f.opcode = 0) : Calls Hvah.prog 30 #[.pointer (some ⟨Y, 0, none⟩)] w fun e w' => e = .returned (.bool true) ∧ YRn K O w w' Y start (st.stepF x.f (r.map (·.f))) tot := by
  have q := h.q hop hr
  obtain ⟨hb1, hb2⟩ := bare_call (st := st) (f := x.f) (o := 244) (by decide)
  have e3 := stepF_call (st := st) (rest := r.map (·.f)) hpre hr hop (by decide)
  have hq := q.gas
  have hxg := h.fok.gas
  have hV : ∃ k, (if (callV (st.paidF x.f 244) 244) ≠ 0 then 2300 else 0) + 50 * k ≤ st.bareCost x.f 244 ∧ 1 ≤ k ∧ ((callV (st.paidF x.f 244) 244) ≠ 0 → 2 ≤ k) ∧ k ≤ 2 := by
    by_cases hv : (callV (st.paidF x.f 244) 244) = 0
    · exact ⟨1, by rw [if_neg (by omega)]; omega, by decide, fun q => absurd hv q, by decide⟩
    · have h9 : 9100 ≤ st.bareCost x.f 244 := hb2 (absurd hv (by simp [callV])) (by
        have hv2 := hv
        unfold callV at hv2
        simp at hv2)
      exact ⟨2, by rw [if_pos hv]; omega, by decide, fun _ => Nat.le_refl _, by decide⟩
  obtain ⟨k, k1, k2, k3, k4⟩ := hV
  have hs := sent_le (st.paidF x.f 244).gas ((st.paidF x.f 244).arg 0)
  have s1 := (siz_warm W (addrA ((st.paidF x.f 244).arg 1))).1
  have i1 : WInv T 2097152 st.orig (W.warm (addrA ((st.paidF x.f 244).arg 1))).abs := by rw [YW.warm_abs]; exact h.now.warm _
  have l1 := h.lim 1 s1 (by decide) i1
  have hre := q.re
  have hrm := q.rm
  have er : x.f.reach 244 = max (endA (x.f.arg 2) (x.f.arg 3)) (endA (x.f.arg 4) (x.f.arg 5)) := by unfold AFrame.reach; simp
  rw [er] at hre hrm
  have hrd : (st.paidF x.f 244).arg 3 ≤ 717280 := by
    have hh : endA (x.f.arg 2) (x.f.arg 3) ≤ 717280 := by omega
    show x.f.arg 3 ≤ 717280
    unfold endA at hh
    split at hh <;> omega
  have hpc := q.pc (by decide)
  have hcg : callG (st.paidF x.f 244) 244 ≤ 1048576 := by unfold callG; omega
  have hokP : FOK (({ (st.paidF x.f 244) with gas := (st.paidF x.f 244).gas - sentA (st.paidF x.f 244).gas ((st.paidF x.f 244).arg 0) + callG (st.paidF x.f 244) 244 }).settle 6 [0] 1) :=
    (q.ok.lessGas (by unfold callG; omega)).settle1 (by rw [P256_eq]; exact Nat.pow_pos (by decide)) (by have := q.ok.sLen; show (st.paidF x.f 244).stack.length - 6 < 64; omega) (by show x.f.pc + 1 ≤ 60000; omega)
  have hokG : FOK (callP (st.paidF x.f 244) 244) := fok_callP q.ok (by
    show endA (x.f.arg 4) (x.f.arg 5) ≤ _
    omega)
  have hcd : (W.acct (addrA ((st.paidF x.f 244).arg 1))).code.length ≤ 512 := by have := h.now.code (addrA ((st.paidF x.f 244).arg 1)); show (W.abs.code (addrA ((st.paidF x.f 244).arg 1))).length ≤ 512; omega
  refine (zsCall h.z h.ph hpre 244 (by decide) (by decide) (by decide) hop hr q.ok1 q.re q.ok (by decide) rfl (if (6 ≤ r.length ∨ (W.acct (st.paidF x.f 244).self).bal < (callV (st.paidF x.f 244) 244)) then (W.warm (addrA ((st.paidF x.f 244).arg 1))) else (W.warm (addrA ((st.paidF x.f 244).arg 1)))) (W.warm (addrA ((st.paidF x.f 244).arg 1))) (fun O' W1 c' d' TM' hz => zCall244 HLG hz rfl q.tk l1 hrd hokP hokG (fun _ => fok_callC q.ok hcg hcd) (h.slots s1 (by decide)))).mono ?_
  rintro e w' ⟨rfl, kk⟩
  refine ⟨rfl, h.fin2 k kk ?_ ?_ ?_⟩
  · split
    · omega
    · omega
  · rw [e3, call_gs]
    have := h.gs
    omega
  · intro v hv
    rcases hv with hv | hv
    · left; rw [hv]; omega
    · exact Or.inr hv
theorem zr_250 (HLG : ∀ {O T : Nat → Prop} {w : World} {v : Value} {l : List ALog}, Small O w → LogL T O w v l → l.length ≤ 100000 → Calls Hvah.prog 80 #[v] w fun e w' => ∃ r, e = .returned r ∧ GRow 141 22 (LgC O w') (fun b => ¬ O b) w' r l ∧ Full r ∧ Ext w w') (h : ZrP K T B O TL w Y F n c d W start st tot x r) (hpre : x.f.pre = 0) (hop : x.f.opcode = 250) (hr : st.refusal x.f x.f.opcode = 0) : Calls Hvah.prog 30 #[.pointer (some ⟨Y, 0, none⟩)] w fun e w' => e = .returned (.bool true) ∧ YRn K O w w' Y start (st.stepF x.f (r.map (·.f))) tot := by
  have q := h.q hop hr
  obtain ⟨hb1, hb2⟩ := bare_call (st := st) (f := x.f) (o := 250) (by decide)
  have e3 := stepF_call (st := st) (rest := r.map (·.f)) hpre hr hop (by decide)
  have hq := q.gas
  have hxg := h.fok.gas
  have hV : ∃ k, (if (callV (st.paidF x.f 250) 250) ≠ 0 then 2300 else 0) + 50 * k ≤ st.bareCost x.f 250 ∧ 1 ≤ k ∧ ((callV (st.paidF x.f 250) 250) ≠ 0 → 2 ≤ k) ∧ k ≤ 2 := by
    by_cases hv : (callV (st.paidF x.f 250) 250) = 0
    · exact ⟨1, by rw [if_neg (by omega)]; omega, by decide, fun q => absurd hv q, by decide⟩
    · have h9 : 9100 ≤ st.bareCost x.f 250 := hb2 (absurd hv (by simp [callV])) (by
        have hv2 := hv
        unfold callV at hv2
        simp at hv2)
      exact ⟨2, by rw [if_pos hv]; omega, by decide, fun _ => Nat.le_refl _, by decide⟩
  obtain ⟨k, k1, k2, k3, k4⟩ := hV
  have hs := sent_le (st.paidF x.f 250).gas ((st.paidF x.f 250).arg 0)
  have s1 := (siz_warm W (addrA ((st.paidF x.f 250).arg 1))).1
  have i1 : WInv T 2097152 st.orig (W.warm (addrA ((st.paidF x.f 250).arg 1))).abs := by rw [YW.warm_abs]; exact h.now.warm _
  have l1 := h.lim 1 s1 (by decide) i1
  have hre := q.re
  have hrm := q.rm
  have er : x.f.reach 250 = max (endA (x.f.arg 2) (x.f.arg 3)) (endA (x.f.arg 4) (x.f.arg 5)) := by unfold AFrame.reach; simp
  rw [er] at hre hrm
  have hrd : (st.paidF x.f 250).arg 3 ≤ 717280 := by
    have hh : endA (x.f.arg 2) (x.f.arg 3) ≤ 717280 := by omega
    show x.f.arg 3 ≤ 717280
    unfold endA at hh
    split at hh <;> omega
  have hpc := q.pc (by decide)
  have hcg : callG (st.paidF x.f 250) 250 ≤ 1048576 := by unfold callG; omega
  have hokP : FOK (({ (st.paidF x.f 250) with gas := (st.paidF x.f 250).gas - sentA (st.paidF x.f 250).gas ((st.paidF x.f 250).arg 0) + callG (st.paidF x.f 250) 250 }).settle 6 [0] 1) :=
    (q.ok.lessGas (by unfold callG; omega)).settle1 (by rw [P256_eq]; exact Nat.pow_pos (by decide)) (by have := q.ok.sLen; show (st.paidF x.f 250).stack.length - 6 < 64; omega) (by show x.f.pc + 1 ≤ 60000; omega)
  have hokG : FOK (callP (st.paidF x.f 250) 250) := fok_callP q.ok (by
    show endA (x.f.arg 4) (x.f.arg 5) ≤ _
    omega)
  have hcd : (W.acct (addrA ((st.paidF x.f 250).arg 1))).code.length ≤ 512 := by have := h.now.code (addrA ((st.paidF x.f 250).arg 1)); show (W.abs.code (addrA ((st.paidF x.f 250).arg 1))).length ≤ 512; omega
  have l3 := h.limDown s1 (by decide) i1 (st.paidF x.f 250).self (callV (st.paidF x.f 250) 250)
  have l4 : YLim ((W.warm (addrA ((st.paidF x.f 250).arg 1))).move (st.paidF x.f 250).self (addrA ((st.paidF x.f 250).arg 1)) (callV (st.paidF x.f 250) 250)) := h.lim 2 (by have := (siz_move (W.warm (addrA ((st.paidF x.f 250).arg 1))) (st.paidF x.f 250).self (addrA ((st.paidF x.f 250).arg 1)) (callV (st.paidF x.f 250) 250)).2.1; omega) (by decide) (by rw [YW.move_abs]; exact i1.move _ _ _)
  refine (zsCall h.z h.ph hpre 250 (by decide) (by decide) (by decide) hop hr q.ok1 q.re q.ok (by decide) rfl (if (6 ≤ r.length ∨ (W.acct (st.paidF x.f 250).self).bal < (callV (st.paidF x.f 250) 250)) then (W.warm (addrA ((st.paidF x.f 250).arg 1))) else ((W.warm (addrA ((st.paidF x.f 250).arg 1))).move (st.paidF x.f 250).self (addrA ((st.paidF x.f 250).arg 1)) (callV (st.paidF x.f 250) 250))) (W.warm (addrA ((st.paidF x.f 250).arg 1))) (fun O' W1 c' d' TM' hz => zCall250 HLG hz rfl q.tk l1 hrd hokP hokG (fun _ => fok_callC q.ok hcg hcd) (h.slots s1 (by decide)) (fun _ => l3) (fun _ => l4))).mono ?_
  rintro e w' ⟨rfl, kk⟩
  refine ⟨rfl, h.fin2 k kk ?_ ?_ ?_⟩
  · split
    · omega
    · by_cases hv : (callV (st.paidF x.f 250) 250) = 0
      · rw [(siz_move (W.warm (addrA ((st.paidF x.f 250).arg 1))) (st.paidF x.f 250).self (addrA ((st.paidF x.f 250).arg 1)) (callV (st.paidF x.f 250) 250)).2.2 hv]; omega
      · have := (siz_move (W.warm (addrA ((st.paidF x.f 250).arg 1))) (st.paidF x.f 250).self (addrA ((st.paidF x.f 250).arg 1)) (callV (st.paidF x.f 250) 250)).2.1
        have := k3 hv
        omega
  · rw [e3, call_gs]
    have := h.gs
    omega
  · intro v hv
    rcases hv with hv | hv
    · left; rw [hv]; omega
    · exact Or.inr hv
set_option maxHeartbeats 4000000 in
theorem zr_240 (HLG : ∀ {O T : Nat → Prop} {w : World} {v : Value} {l : List ALog}, Small O w → LogL T O w v l → l.length ≤ 100000 → Calls Hvah.prog 80 #[v] w fun e w' => ∃ r, e = .returned r ∧ GRow 141 22 (LgC O w') (fun b => ¬ O b) w' r l ∧ Full r ∧ Ext w w') (HCA : ∀ {O : Nat → Prop} {w : World} {cr n : Nat} {vs : Value}, cr < 2 ^ 160 → Small O w → NV O w vs n → n < 18446744073709551616 → Calls Hvah.prog 54 #[.agg (av cr), vs] w fun e w' => e = .returned (.agg (av (createAddrA cr n))) ∧ Ext w w')  (h : ZrP K T B O TL w Y F n c d W start st tot x r) (hpre : x.f.pre = 0) (hop : x.f.opcode = 240) (hr : st.refusal x.f x.f.opcode = 0) : Calls Hvah.prog 30 #[.pointer (some ⟨Y, 0, none⟩)] w fun e w' => e = .returned (.bool true) ∧ YRn K O w w' Y start (st.stepF x.f (r.map (·.f))) tot := by
  obtain ⟨MS, hMS⟩ : ∃ z, Hid (makeS (st.paidF x.f 240) 240 (W.acct (st.paidF x.f 240).self).nonce = z) := ⟨_, rfl⟩
  have q := h.q hop hr
  have hb1 := bare_create (st := st) (f := x.f) (o := 240) (by decide)
  have e3 := stepF_create (st := st) (rest := r.map (·.f)) hpre hr hop (by decide)
  have hq := q.gas
  have hre := q.re
  have hr0 : st.refusal x.f 240 = 0 := by rw [hop] at hr; exact hr
  have h512 : x.f.arg 2 ≤ 512 := (refusal_zero hr0).2.2.2.2.2 (by decide)
  have hrd : (st.paidF x.f 240).arg 2 ≤ 717280 := Nat.le_trans h512 (by decide)
  have hpc := q.pc (by decide)
  have hs := sent_le (st.paidF x.f 240).gas (st.paidF x.f 240).gas
  have hg := q.ok.gas
  have hst : (st.paidF x.f 240).stack.length - 3 < 64 := by have := q.ok.sLen; omega
  have hz0 : (0 : Nat) < P256 := by rw [P256_eq]; exact Nat.pow_pos (by decide)
  have hokP : FOK ((st.paidF x.f 240).settle 3 [0] 1) := q.ok.settle1 hz0 hst (by show x.f.pc + 1 ≤ 60000; omega)
  have hokQ : FOK (({ (st.paidF x.f 240) with gas := (st.paidF x.f 240).gas - sentA (st.paidF x.f 240).gas (st.paidF x.f 240).gas }).settle 3 [0] 1) := (q.ok.lessGas (by omega)).settle1 hz0 hst (by show x.f.pc + 1 ≤ 60000; omega)
  have t1 := (siz_setNonce W (st.paidF x.f 240).self ((W.acct (st.paidF x.f 240).self).nonce + 1)).1
  have t2 := (siz_warm (W.setNonce (st.paidF x.f 240).self ((W.acct (st.paidF x.f 240).self).nonce + 1)) MS).1
  have t3 := (siz_setNonce ((W.setNonce (st.paidF x.f 240).self ((W.acct (st.paidF x.f 240).self).nonce + 1)).warm MS) MS 1).1
  have t4 := siz_markMade (((W.setNonce (st.paidF x.f 240).self ((W.acct (st.paidF x.f 240).self).nonce + 1)).warm MS).setNonce MS 1) MS
  have t5 := (siz_move ((((W.setNonce (st.paidF x.f 240).self ((W.acct (st.paidF x.f 240).self).nonce + 1)).warm MS).setNonce MS 1).markMade MS) (st.paidF x.f 240).self MS ((st.paidF x.f 240).arg 0)).2.1
  have i1 : ¬ (6 ≤ r.length ∨ (W.acct (st.paidF x.f 240).self).bal < (st.paidF x.f 240).arg 0 ∨ 18446744073709551615 ≤ (W.acct (st.paidF x.f 240).self).nonce) → WInv T 2097152 st.orig (W.setNonce (st.paidF x.f 240).self ((W.acct (st.paidF x.f 240).self).nonce + 1)).abs := fun hc => by
    rw [YW.setNonce_abs]; exact h.now.setNonce _ _ (by omega)
  have i2 : ¬ (6 ≤ r.length ∨ (W.acct (st.paidF x.f 240).self).bal < (st.paidF x.f 240).arg 0 ∨ 18446744073709551615 ≤ (W.acct (st.paidF x.f 240).self).nonce) → WInv T 2097152 st.orig ((W.setNonce (st.paidF x.f 240).self ((W.acct (st.paidF x.f 240).self).nonce + 1)).warm MS).abs := fun hc => by
    rw [YW.warm_abs]; exact (i1 hc).warm _
  have i3 : ¬ (6 ≤ r.length ∨ (W.acct (st.paidF x.f 240).self).bal < (st.paidF x.f 240).arg 0 ∨ 18446744073709551615 ≤ (W.acct (st.paidF x.f 240).self).nonce) → WInv T 2097152 st.orig (((W.setNonce (st.paidF x.f 240).self ((W.acct (st.paidF x.f 240).self).nonce + 1)).warm MS).setNonce MS 1).abs := fun hc => by
    rw [YW.setNonce_abs]; exact (i2 hc).setNonce _ _ (by decide)
  have i4 : ¬ (6 ≤ r.length ∨ (W.acct (st.paidF x.f 240).self).bal < (st.paidF x.f 240).arg 0 ∨ 18446744073709551615 ≤ (W.acct (st.paidF x.f 240).self).nonce) → WInv T 2097152 st.orig ((((W.setNonce (st.paidF x.f 240).self ((W.acct (st.paidF x.f 240).self).nonce + 1)).warm MS).setNonce MS 1).markMade MS).abs := fun hc => by
    rw [YW.markMade_abs]; exact (i3 hc).markMade _
  have i5 : ¬ (6 ≤ r.length ∨ (W.acct (st.paidF x.f 240).self).bal < (st.paidF x.f 240).arg 0 ∨ 18446744073709551615 ≤ (W.acct (st.paidF x.f 240).self).nonce) → WInv T 2097152 st.orig (((((W.setNonce (st.paidF x.f 240).self ((W.acct (st.paidF x.f 240).self).nonce + 1)).warm MS).setNonce MS 1).markMade MS).move (st.paidF x.f 240).self MS ((st.paidF x.f 240).arg 0)).abs := fun hc => by
    rw [YW.move_abs]; exact (i4 hc).move _ _ _
  have l1 : ¬ (6 ≤ r.length ∨ (W.acct (st.paidF x.f 240).self).bal < (st.paidF x.f 240).arg 0 ∨ 18446744073709551615 ≤ (W.acct (st.paidF x.f 240).self).nonce) → YLim (W.setNonce (st.paidF x.f 240).self ((W.acct (st.paidF x.f 240).self).nonce + 1)) := fun hc => h.lim 1 t1 (by decide) (i1 hc)
  have l2 : ¬ (6 ≤ r.length ∨ (W.acct (st.paidF x.f 240).self).bal < (st.paidF x.f 240).arg 0 ∨ 18446744073709551615 ≤ (W.acct (st.paidF x.f 240).self).nonce) → YLim ((W.setNonce (st.paidF x.f 240).self ((W.acct (st.paidF x.f 240).self).nonce + 1)).warm MS) := fun hc => h.lim 2 (by omega) (by decide) (i2 hc)
  have l3 : ¬ (6 ≤ r.length ∨ (W.acct (st.paidF x.f 240).self).bal < (st.paidF x.f 240).arg 0 ∨ 18446744073709551615 ≤ (W.acct (st.paidF x.f 240).self).nonce) → YLim (((W.setNonce (st.paidF x.f 240).self ((W.acct (st.paidF x.f 240).self).nonce + 1)).warm MS).setNonce MS 1) := fun hc => h.lim 3 (by omega) (by decide) (i3 hc)
  have l4 : ¬ (6 ≤ r.length ∨ (W.acct (st.paidF x.f 240).self).bal < (st.paidF x.f 240).arg 0 ∨ 18446744073709551615 ≤ (W.acct (st.paidF x.f 240).self).nonce) → YLim ((((W.setNonce (st.paidF x.f 240).self ((W.acct (st.paidF x.f 240).self).nonce + 1)).warm MS).setNonce MS 1).markMade MS) := fun hc => h.lim 4 (by omega) (by decide) (i4 hc)
  have l5 : ¬ (6 ≤ r.length ∨ (W.acct (st.paidF x.f 240).self).bal < (st.paidF x.f 240).arg 0 ∨ 18446744073709551615 ≤ (W.acct (st.paidF x.f 240).self).nonce) → YLim (((((W.setNonce (st.paidF x.f 240).self ((W.acct (st.paidF x.f 240).self).nonce + 1)).warm MS).setNonce MS 1).markMade MS).setBal (st.paidF x.f 240).self ((((((W.setNonce (st.paidF x.f 240).self ((W.acct (st.paidF x.f 240).self).nonce + 1)).warm MS).setNonce MS 1).markMade MS).acct (st.paidF x.f 240).self).bal - (st.paidF x.f 240).arg 0)) := fun hc => h.limDown (k := 4) (by omega) (by decide) (i4 hc) _ _
  have l6 : ¬ (6 ≤ r.length ∨ (W.acct (st.paidF x.f 240).self).bal < (st.paidF x.f 240).arg 0 ∨ 18446744073709551615 ≤ (W.acct (st.paidF x.f 240).self).nonce) → YLim (((((W.setNonce (st.paidF x.f 240).self ((W.acct (st.paidF x.f 240).self).nonce + 1)).warm MS).setNonce MS 1).markMade MS).move (st.paidF x.f 240).self MS ((st.paidF x.f 240).arg 0)) := fun hc => h.lim 5 (by omega) (by decide) (i5 hc)
  have hsl := h.slots (W2 := ((W.setNonce (st.paidF x.f 240).self ((W.acct (st.paidF x.f 240).self).nonce + 1)).warm MS)) (k := 2) (by omega) (by decide)
  refine (zsCreate240 h.z h.ph hpre hop hr q.ok1 q.re q.ok (if (6 ≤ r.length ∨ (W.acct (st.paidF x.f 240).self).bal < (st.paidF x.f 240).arg 0 ∨ 18446744073709551615 ≤ (W.acct (st.paidF x.f 240).self).nonce) then W else if (((st.now.setNonce (st.paidF x.f 240).self ((W.acct (st.paidF x.f 240).self).nonce + 1)).warm MS).nonce MS = 0 ∧ ((st.now.setNonce (st.paidF x.f 240).self ((W.acct (st.paidF x.f 240).self).nonce + 1)).warm MS).code MS = []) then (((((W.setNonce (st.paidF x.f 240).self ((W.acct (st.paidF x.f 240).self).nonce + 1)).warm MS).setNonce MS 1).markMade MS).move (st.paidF x.f 240).self MS ((st.paidF x.f 240).arg 0)) else ((W.setNonce (st.paidF x.f 240).self ((W.acct (st.paidF x.f 240).self).nonce + 1)).warm MS)) ((W.setNonce (st.paidF x.f 240).self ((W.acct (st.paidF x.f 240).self).nonce + 1)).warm MS) (fun O' W1 c' d' TM' hz => zCreateM240 (x := ⟨st.paidF x.f 240, x.sv, TM'⟩) (W := W) (st := { st with frames := st.paidF x.f 240 :: r.map (·.f), ret := [] }) hMS.out HLG HCA  hz rfl q.tk l1 l2 hrd hokP hokQ (fok_makeP q.ok) (fun _ _ => fok_makeC q.ok h512) hsl (fun hc _ => l3 hc) (fun hc _ => l4 hc) (fun hc _ => l5 hc) (fun hc _ => l6 hc))).mono ?_
  rintro e w' ⟨rfl, kk⟩
  refine ⟨rfl, h.fin2 5 kk ?_ ?_ ?_⟩
  · split
    · omega
    · split <;> omega
  · rw [e3]
    have := create_gs st (st.paidF x.f 240) (r.map (·.f)) 240
    have := h.gs
    omega
  · intro v hv
    rcases hv with hv | hv
    · left; rw [hv]; omega
    · exact Or.inr hv
set_option maxHeartbeats 4000000 in
theorem zr_245 (HLG : ∀ {O T : Nat → Prop} {w : World} {v : Value} {l : List ALog}, Small O w → LogL T O w v l → l.length ≤ 100000 → Calls Hvah.prog 80 #[v] w fun e w' => ∃ r, e = .returned r ∧ GRow 141 22 (LgC O w') (fun b => ¬ O b) w' r l ∧ Full r ∧ Ext w w') (HCA : ∀ {O : Nat → Prop} {w : World} {cr n : Nat} {vs : Value}, cr < 2 ^ 160 → Small O w → NV O w vs n → n < 18446744073709551616 → Calls Hvah.prog 54 #[.agg (av cr), vs] w fun e w' => e = .returned (.agg (av (createAddrA cr n))) ∧ Ext w w') (HC2 : ∀ {O O' : Nat → Prop} {w : World} {cr salt : Nat} {vs v : Value} {init : List Nat}, cr < 2 ^ 160 → NV O w vs salt → salt < P256 → NL O' w v init → init.length ≤ 1000000 → Calls Hvah.prog 234 #[.agg (av cr), vs, v] w fun e w' => e = .returned (.agg (av (create2AddrA cr salt init))) ∧ Ext w w') (h : ZrP K T B O TL w Y F n c d W start st tot x r) (hpre : x.f.pre = 0) (hop : x.f.opcode = 245) (hr : st.refusal x.f x.f.opcode = 0) : Calls Hvah.prog 30 #[.pointer (some ⟨Y, 0, none⟩)] w fun e w' => e = .returned (.bool true) ∧ YRn K O w w' Y start (st.stepF x.f (r.map (·.f))) tot := by
  obtain ⟨MS, hMS⟩ : ∃ z, Hid (makeS (st.paidF x.f 245) 245 (W.acct (st.paidF x.f 245).self).nonce = z) := ⟨_, rfl⟩
  have q := h.q hop hr
  have hb1 := bare_create (st := st) (f := x.f) (o := 245) (by decide)
  have e3 := stepF_create (st := st) (rest := r.map (·.f)) hpre hr hop (by decide)
  have hq := q.gas
  have hre := q.re
  have hr0 : st.refusal x.f 245 = 0 := by rw [hop] at hr; exact hr
  have h512 : x.f.arg 2 ≤ 512 := (refusal_zero hr0).2.2.2.2.2 (by decide)
  have hrd : (st.paidF x.f 245).arg 2 ≤ 717280 := Nat.le_trans h512 (by decide)
  have hpc := q.pc (by decide)
  have hs := sent_le (st.paidF x.f 245).gas (st.paidF x.f 245).gas
  have hg := q.ok.gas
  have hst : (st.paidF x.f 245).stack.length - 4 < 64 := by have := q.ok.sLen; omega
  have hz0 : (0 : Nat) < P256 := by rw [P256_eq]; exact Nat.pow_pos (by decide)
  have hokP : FOK ((st.paidF x.f 245).settle 4 [0] 1) := q.ok.settle1 hz0 hst (by show x.f.pc + 1 ≤ 60000; omega)
  have hokQ : FOK (({ (st.paidF x.f 245) with gas := (st.paidF x.f 245).gas - sentA (st.paidF x.f 245).gas (st.paidF x.f 245).gas }).settle 4 [0] 1) := (q.ok.lessGas (by omega)).settle1 hz0 hst (by show x.f.pc + 1 ≤ 60000; omega)
  have t1 := (siz_setNonce W (st.paidF x.f 245).self ((W.acct (st.paidF x.f 245).self).nonce + 1)).1
  have t2 := (siz_warm (W.setNonce (st.paidF x.f 245).self ((W.acct (st.paidF x.f 245).self).nonce + 1)) MS).1
  have t3 := (siz_setNonce ((W.setNonce (st.paidF x.f 245).self ((W.acct (st.paidF x.f 245).self).nonce + 1)).warm MS) MS 1).1
  have t4 := siz_markMade (((W.setNonce (st.paidF x.f 245).self ((W.acct (st.paidF x.f 245).self).nonce + 1)).warm MS).setNonce MS 1) MS
  have t5 := (siz_move ((((W.setNonce (st.paidF x.f 245).self ((W.acct (st.paidF x.f 245).self).nonce + 1)).warm MS).setNonce MS 1).markMade MS) (st.paidF x.f 245).self MS ((st.paidF x.f 245).arg 0)).2.1
  have i1 : ¬ (6 ≤ r.length ∨ (W.acct (st.paidF x.f 245).self).bal < (st.paidF x.f 245).arg 0 ∨ 18446744073709551615 ≤ (W.acct (st.paidF x.f 245).self).nonce) → WInv T 2097152 st.orig (W.setNonce (st.paidF x.f 245).self ((W.acct (st.paidF x.f 245).self).nonce + 1)).abs := fun hc => by
    rw [YW.setNonce_abs]; exact h.now.setNonce _ _ (by omega)
  have i2 : ¬ (6 ≤ r.length ∨ (W.acct (st.paidF x.f 245).self).bal < (st.paidF x.f 245).arg 0 ∨ 18446744073709551615 ≤ (W.acct (st.paidF x.f 245).self).nonce) → WInv T 2097152 st.orig ((W.setNonce (st.paidF x.f 245).self ((W.acct (st.paidF x.f 245).self).nonce + 1)).warm MS).abs := fun hc => by
    rw [YW.warm_abs]; exact (i1 hc).warm _
  have i3 : ¬ (6 ≤ r.length ∨ (W.acct (st.paidF x.f 245).self).bal < (st.paidF x.f 245).arg 0 ∨ 18446744073709551615 ≤ (W.acct (st.paidF x.f 245).self).nonce) → WInv T 2097152 st.orig (((W.setNonce (st.paidF x.f 245).self ((W.acct (st.paidF x.f 245).self).nonce + 1)).warm MS).setNonce MS 1).abs := fun hc => by
    rw [YW.setNonce_abs]; exact (i2 hc).setNonce _ _ (by decide)
  have i4 : ¬ (6 ≤ r.length ∨ (W.acct (st.paidF x.f 245).self).bal < (st.paidF x.f 245).arg 0 ∨ 18446744073709551615 ≤ (W.acct (st.paidF x.f 245).self).nonce) → WInv T 2097152 st.orig ((((W.setNonce (st.paidF x.f 245).self ((W.acct (st.paidF x.f 245).self).nonce + 1)).warm MS).setNonce MS 1).markMade MS).abs := fun hc => by
    rw [YW.markMade_abs]; exact (i3 hc).markMade _
  have i5 : ¬ (6 ≤ r.length ∨ (W.acct (st.paidF x.f 245).self).bal < (st.paidF x.f 245).arg 0 ∨ 18446744073709551615 ≤ (W.acct (st.paidF x.f 245).self).nonce) → WInv T 2097152 st.orig (((((W.setNonce (st.paidF x.f 245).self ((W.acct (st.paidF x.f 245).self).nonce + 1)).warm MS).setNonce MS 1).markMade MS).move (st.paidF x.f 245).self MS ((st.paidF x.f 245).arg 0)).abs := fun hc => by
    rw [YW.move_abs]; exact (i4 hc).move _ _ _
  have l1 : ¬ (6 ≤ r.length ∨ (W.acct (st.paidF x.f 245).self).bal < (st.paidF x.f 245).arg 0 ∨ 18446744073709551615 ≤ (W.acct (st.paidF x.f 245).self).nonce) → YLim (W.setNonce (st.paidF x.f 245).self ((W.acct (st.paidF x.f 245).self).nonce + 1)) := fun hc => h.lim 1 t1 (by decide) (i1 hc)
  have l2 : ¬ (6 ≤ r.length ∨ (W.acct (st.paidF x.f 245).self).bal < (st.paidF x.f 245).arg 0 ∨ 18446744073709551615 ≤ (W.acct (st.paidF x.f 245).self).nonce) → YLim ((W.setNonce (st.paidF x.f 245).self ((W.acct (st.paidF x.f 245).self).nonce + 1)).warm MS) := fun hc => h.lim 2 (by omega) (by decide) (i2 hc)
  have l3 : ¬ (6 ≤ r.length ∨ (W.acct (st.paidF x.f 245).self).bal < (st.paidF x.f 245).arg 0 ∨ 18446744073709551615 ≤ (W.acct (st.paidF x.f 245).self).nonce) → YLim (((W.setNonce (st.paidF x.f 245).self ((W.acct (st.paidF x.f 245).self).nonce + 1)).warm MS).setNonce MS 1) := fun hc => h.lim 3 (by omega) (by decide) (i3 hc)
  have l4 : ¬ (6 ≤ r.length ∨ (W.acct (st.paidF x.f 245).self).bal < (st.paidF x.f 245).arg 0 ∨ 18446744073709551615 ≤ (W.acct (st.paidF x.f 245).self).nonce) → YLim ((((W.setNonce (st.paidF x.f 245).self ((W.acct (st.paidF x.f 245).self).nonce + 1)).warm MS).setNonce MS 1).markMade MS) := fun hc => h.lim 4 (by omega) (by decide) (i4 hc)
  have l5 : ¬ (6 ≤ r.length ∨ (W.acct (st.paidF x.f 245).self).bal < (st.paidF x.f 245).arg 0 ∨ 18446744073709551615 ≤ (W.acct (st.paidF x.f 245).self).nonce) → YLim (((((W.setNonce (st.paidF x.f 245).self ((W.acct (st.paidF x.f 245).self).nonce + 1)).warm MS).setNonce MS 1).markMade MS).setBal (st.paidF x.f 245).self ((((((W.setNonce (st.paidF x.f 245).self ((W.acct (st.paidF x.f 245).self).nonce + 1)).warm MS).setNonce MS 1).markMade MS).acct (st.paidF x.f 245).self).bal - (st.paidF x.f 245).arg 0)) := fun hc => h.limDown (k := 4) (by omega) (by decide) (i4 hc) _ _
  have l6 : ¬ (6 ≤ r.length ∨ (W.acct (st.paidF x.f 245).self).bal < (st.paidF x.f 245).arg 0 ∨ 18446744073709551615 ≤ (W.acct (st.paidF x.f 245).self).nonce) → YLim (((((W.setNonce (st.paidF x.f 245).self ((W.acct (st.paidF x.f 245).self).nonce + 1)).warm MS).setNonce MS 1).markMade MS).move (st.paidF x.f 245).self MS ((st.paidF x.f 245).arg 0)) := fun hc => h.lim 5 (by omega) (by decide) (i5 hc)
  have hsl := h.slots (W2 := ((W.setNonce (st.paidF x.f 245).self ((W.acct (st.paidF x.f 245).self).nonce + 1)).warm MS)) (k := 2) (by omega) (by decide)
  refine (zsCreate245 h.z h.ph hpre hop hr q.ok1 q.re q.ok (if (6 ≤ r.length ∨ (W.acct (st.paidF x.f 245).self).bal < (st.paidF x.f 245).arg 0 ∨ 18446744073709551615 ≤ (W.acct (st.paidF x.f 245).self).nonce) then W else if (((st.now.setNonce (st.paidF x.f 245).self ((W.acct (st.paidF x.f 245).self).nonce + 1)).warm MS).nonce MS = 0 ∧ ((st.now.setNonce (st.paidF x.f 245).self ((W.acct (st.paidF x.f 245).self).nonce + 1)).warm MS).code MS = []) then (((((W.setNonce (st.paidF x.f 245).self ((W.acct (st.paidF x.f 245).self).nonce + 1)).warm MS).setNonce MS 1).markMade MS).move (st.paidF x.f 245).self MS ((st.paidF x.f 245).arg 0)) else ((W.setNonce (st.paidF x.f 245).self ((W.acct (st.paidF x.f 245).self).nonce + 1)).warm MS)) ((W.setNonce (st.paidF x.f 245).self ((W.acct (st.paidF x.f 245).self).nonce + 1)).warm MS) (fun O' W1 c' d' TM' hz => zCreateM245 (x := ⟨st.paidF x.f 245, x.sv, TM'⟩) (W := W) (st := { st with frames := st.paidF x.f 245 :: r.map (·.f), ret := [] }) hMS.out HLG HCA HC2 hz rfl q.tk l1 l2 hrd hokP hokQ (fok_makeP q.ok) (fun _ _ => fok_makeC q.ok h512) hsl (fun hc _ => l3 hc) (fun hc _ => l4 hc) (fun hc _ => l5 hc) (fun hc _ => l6 hc))).mono ?_
  rintro e w' ⟨rfl, kk⟩
  refine ⟨rfl, h.fin2 5 kk ?_ ?_ ?_⟩
  · split
    · omega
    · split <;> omega
  · rw [e3]
    have := create_gs st (st.paidF x.f 245) (r.map (·.f)) 245
    have := h.gs
    omega
  · intro v hv
    rcases hv with hv | hv
    · left; rw [hv]; omega
    · exact Or.inr hv
end
end Go.Proofs.YgvahwGreat
