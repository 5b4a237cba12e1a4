import Derived.Test.YgvahwGreatEs0
namespace Go.Proofs.YgvahwGreat
open Go.RowKit
set_option linter.unusedSimpArgs false
set_option linter.unusedVariables false
set_option maxRecDepth 20000
theorem sent_leE (a b : Nat) : sentA a b ≤ a := by unfold sentA; omega
/-- What a call's value is. -/
def callVal (f : AFrame) (o : Nat) : Nat := if o = 241 ∨ o = 242 then f.arg 2 else 0
theorem enterCall_gsum (st : ASt) (f : AFrame) (rest : List AFrame) (o : Nat) : gsum (st.enterCall f rest o).frames ≤ f.gas + (if callVal f o ≠ 0 then 2300 else 0) + gsum rest := by
  obtain ⟨v, ev⟩ : ∃ v, (if o = 241 ∨ o = 242 then f.arg 2 else 0) = v := ⟨_, rfl⟩
  obtain ⟨x, ex⟩ : ∃ x, (if v ≠ 0 then 2300 else 0) = x := ⟨_, rfl⟩
  obtain ⟨sent, es⟩ : ∃ s, sentA f.gas (f.arg 0) = s := ⟨_, rfl⟩
  have hs : sent ≤ f.gas := by rw [← es]; exact sent_leE _ _
  have ec : callVal f o = v := ev
  rw [ec, ex]
  by_cases hd : 6 ≤ rest.length ∨ st.now.bal f.self < v
  · have e : st.enterCall f rest o = { st with now := st.now.warm (addrA (f.arg 1)), ret := [], frames := ({ f with gas := f.gas - sent + (sent + x) } : AFrame).settle (takesA o) [0] 1 :: rest } := by
      unfold ASt.enterCall; simp only [ev, ex, es, if_pos hd]
    rw [e]
    show gsum (_ :: rest) ≤ _
    rw [gsum_cons]
    show f.gas - sent + (sent + x) + gsum rest ≤ _
    omega
  · unfold ASt.enterCall
    simp only [ev, ex, es, if_neg hd]
    show gsum (_ :: _ :: rest) ≤ _
    rw [gsum_cons, gsum_cons]
    show sent + x + (f.gas - sent + gsum rest) ≤ _
    omega
theorem enterCreate_gsum (st : ASt) (f : AFrame) (rest : List AFrame) (o : Nat) : gsum (st.enterCreate f rest o).frames ≤ f.gas + gsum rest := by
  have hs := sent_leE f.gas f.gas
  by_cases h1 : 6 ≤ rest.length ∨ st.now.bal f.self < f.arg 0 ∨ 18446744073709551615 ≤ st.now.nonce f.self
  · have e : st.enterCreate f rest o = { st with ret := [], frames := f.settle (takesA o) [0] 1 :: rest } := by
      unfold ASt.enterCreate; simp only [if_pos h1]
    rw [e]
    show gsum (_ :: rest) ≤ _
    rw [gsum_cons]
    show f.gas + gsum rest ≤ _
    omega
  · obtain ⟨se, ese⟩ : ∃ s, (if o = 245 then create2AddrA f.self (f.arg 3) (readA f.mem (f.arg 1) (f.arg 2)) else createAddrA f.self (st.now.nonce f.self)) = s := ⟨_, rfl⟩
    by_cases h2 : ((st.now.setNonce f.self (st.now.nonce f.self + 1)).warm se).nonce se ≠ 0 ∨ ((st.now.setNonce f.self (st.now.nonce f.self + 1)).warm se).code se ≠ []
    · unfold ASt.enterCreate
      simp only [if_neg h1, ese, if_pos h2]
      show gsum (_ :: rest) ≤ _
      rw [gsum_cons]
      show f.gas - sentA f.gas f.gas + gsum rest ≤ _
      omega
    · unfold ASt.enterCreate
      simp only [if_neg h1, ese, if_neg h2]
      show gsum (_ :: _ :: rest) ≤ _
      rw [gsum_cons, gsum_cons]
      show sentA f.gas f.gas + (f.gas - sentA f.gas f.gas + gsum rest) ≤ _
      omega
theorem bare_acc {st : ASt} {f : AFrame} {o : Nat} (ho : o = 241 ∨ o = 242 ∨ o = 244 ∨ o = 250) : st.now.access (addrA (f.arg 1)) + (if callVal f o ≠ 0 then 9000 else 0) ≤ st.bareCost f o := by
  have e : st.bareCost f o = st.enterCost f o := by rcases ho with rfl | rfl | rfl | rfl <;> simp [ASt.bareCost, famA]
  rw [e]
  unfold ASt.enterCost
  rw [if_neg (show ¬ o = 240 by omega), if_neg (show ¬ o = 245 by omega)]
  unfold callVal
  by_cases h1 : o = 241 ∨ o = 242
  · rw [if_pos h1]
    by_cases h2 : f.arg 2 = 0
    · rw [if_neg (by omega)]; omega
    · rw [if_pos h2, if_pos ⟨h1, h2⟩]; omega
  · rw [if_neg h1]
    simp
theorem enterCall_frames (st : ASt) (l : List AFrame) (f : AFrame) (rest : List AFrame) (o : Nat) : ({ st with frames := l } : ASt).enterCall f rest o = st.enterCall f rest o := rfl
theorem enterCreate_frames (st : ASt) (l : List AFrame) (f : AFrame) (rest : List AFrame) (o : Nat) : ({ st with frames := l } : ASt).enterCreate f rest o = st.enterCreate f rest o := rfl
theorem callD_sum {G F R a D g cv : Nat} (h1 : G ≤ F + (if cv ≠ 0 then 2300 else 0) + R) (h2 : a + (if cv ≠ 0 then 9000 else 0) ≤ D) (h3 : F + D ≤ g) : G + (a + (if cv ≠ 0 then 6700 else 0)) ≤ g + R := by
  by_cases q : cv = 0
  · rw [if_neg (by omega)] at h1 h2 ⊢; omega
  · rw [if_pos q] at h1 h2 ⊢; omega
section
variable {V X Z : EV}
theorem grew_warm2 {t : Nat} (h : X = V ∨ X = V.warmA t) : V.Grew X 1 (if V.abs.warmA t = true then 0 else 1) 0 0 0 0 := by
  rcases h with rfl | rfl
  · exact (Grew.id X).le (by omega) (by omega) (by omega) (by omega) (by omega) (by omega)
  · by_cases q : V.abs.warmA t = true
    · rw [if_pos q]; exact grew_at (acct_at q)
    · rw [if_neg q]; exact grew_any
theorem move_zero (A : AW) (a b : Nat) : V.moveTo A a b 0 = V := by unfold EV.moveTo; rw [if_pos rfl]
end
section
variable {T A0 S0 B : Nat} {own : Nat → Nat} {w : World} {g : Nat} {c : Nat → Value} {V : EV} {st : ASt} {sn stale : List Nat} {s : Nat} {f : AFrame} {rest : List AFrame}
variable {o : Nat}
theorem XC.fin2 (x : XC T A0 S0 B own w g c V st s sn stale f rest o) {own' : Nat → Nat} {c' : Nat → Value} {V' : EV} {w' : World} {sn' stale' : List Nat} {st' : ASt} (e : st.stepF f rest = st') (h' : MRep own' w' g c' V' st' sn' stale') (k : MStep own w own' w')
    {j a s2 t l m D : Nat} (q : V.Grew V' j a s2 t l m) (hD : gsum st'.frames + D ≤ gsum st.frames) (hj : 25 * j ≤ D) (ha : 1250 * a ≤ D) (hs : 2100 * s2 ≤ D) (ht : 100 * t ≤ D) (hl : 375 * l ≤ D) (hm : 100 * m ≤ D) : XO A0 S0 B own w g (st.stepF f rest) w' := by
  rw [e]
  exact ⟨own', c', V', sn', stale', h', k, x.hE.go q hD hj ha hs ht hl hm⟩
theorem XC.isCall (x : XC T A0 S0 B own w g c V st s sn stale f rest o) (ho : o = 241 ∨ o = 242 ∨ o = 244 ∨ o = 250) : st.stepF f rest = st.enterCall (st.paidF f o) rest o := by
  have e := x.ho
  subst e
  unfold ASt.stepF
  rw [if_neg (fun q => q x.hpre)]
  have h4 : famA f.opcode = 16 := by rcases ho with q | q | q | q <;> rw [q] <;> rfl
  simp only [x.hr, ne_eq, not_true, if_false, if_neg (show ¬ f.opcode = 0 by omega), if_neg (show ¬ f.opcode = 243 by omega), if_neg (show ¬ f.opcode = 253 by omega), if_neg (show ¬ f.opcode = 255 by omega), if_neg (show ¬ (f.opcode = 240 ∨ f.opcode = 245) by omega), if_pos h4]
  rfl
theorem XC.isCreate (x : XC T A0 S0 B own w g c V st s sn stale f rest o) (ho : o = 240 ∨ o = 245) : st.stepF f rest = st.enterCreate (st.paidF f o) rest o := by
  have e := x.ho
  subst e
  unfold ASt.stepF
  rw [if_neg (fun q => q x.hpre)]
  simp only [x.hr, ne_eq, not_true, if_false, if_neg (show ¬ f.opcode = 0 by omega), if_neg (show ¬ f.opcode = 243 by omega), if_neg (show ¬ f.opcode = 253 by omega), if_neg (show ¬ f.opcode = 255 by omega), if_pos ho]
  rfl
theorem XC.callD (x : XC T A0 S0 B own w g c V st s sn stale f rest o) (ho : o = 241 ∨ o = 242 ∨ o = 244 ∨ o = 250) : gsum (st.enterCall (st.paidF f o) rest o).frames + (st.now.access (addrA (f.arg 1)) + (if callVal f o ≠ 0 then 6700 else 0)) ≤ gsum st.frames := by
  have h1 := enterCall_gsum st (st.paidF f o) rest o
  have h2 := bare_acc (st := st) (f := f) ho
  have h3 := x.paid
  have e : callVal (st.paidF f o) o = callVal f o := by unfold callVal; rfl
  rw [e] at h1
  rw [x.hst, gsum_cons]
  exact callD_sum h1 h2 h3
/-- A call that is refused. -/
theorem XC.callP (x : XC T A0 S0 B own w g c V st s sn stale f rest o) (ho : o = 241 ∨ o = 242 ∨ o = 244 ∨ o = 250) {own' : Nat → Nat} {c' : Nat → Value} {V2 : EV} {w' : World} {sn' stale' : List Nat} (h' : MRep own' w' g c' V2 (st.enterCall (st.paidF f o) rest o) sn' stale') (k : MStep own w own' w') (q : V2 = V ∨ V2 = V.warmA (addrA (f.arg 1))) : XO A0 S0 B own w g (st.stepF f rest) w' := by
  have hd := x.callD ho
  have hg := grew_warm2 q
  have ea : V.abs = st.now := x.h.abs
  have hac : 100 + 2500 * (if V.abs.warmA (addrA (f.arg 1)) = true then 0 else 1) = st.now.access (addrA (f.arg 1)) := by
    rw [ea]; unfold AW.access; split <;> simp
  refine x.fin2 (x.isCall ho) h' k hg hd ?_ ?_ ?_ ?_ ?_ ?_ <;> omega
/-- A call that is entered. -/
theorem XC.callG (x : XC T A0 S0 B own w g c V st s sn stale f rest o) (ho : o = 241 ∨ o = 242 ∨ o = 244 ∨ o = 250) {own' : Nat → Nat} {c' : Nat → Value} {V2 V3 : EV} {w' : World} {sn' stale' : List Nat} (h' : MRep own' w' g c' V3 (st.enterCall (st.paidF f o) rest o) sn' stale') (k : MStep own w own' w') (q : V2 = V ∨ V2 = V.warmA (addrA (f.arg 1))) (e3 : V3 = V2.snap ∨ ∃ A a b, V3 = V2.snap.moveTo A a b (callVal f o)) : XO A0 S0 B own w g (st.stepF f rest) w' := by
  have hd := x.callD ho
  have hg := grew_warm2 q
  have ea : V.abs = st.now := x.h.abs
  have hac : 100 + 2500 * (if V.abs.warmA (addrA (f.arg 1)) = true then 0 else 1) = st.now.access (addrA (f.arg 1)) := by
    rw [ea]; unfold AW.access; split <;> simp
  have hv : V2.snap.Grew V3 (if callVal f o ≠ 0 then 2 else 0) (if callVal f o ≠ 0 then 2 else 0) 0 0 0 0 := by
    rcases e3 with rfl | ⟨A, a, b, rfl⟩
    · exact (Grew.id _).le (by omega) (by omega) (by omega) (by omega) (by omega) (by omega)
    · by_cases z : callVal f o ≠ 0
      · simp only [if_pos z]; exact grew_moveI A a b _
      · simp only [if_neg z]
        rw [show callVal f o = 0 from by omega, move_zero]; exact Grew.id _
  refine x.fin2 (x.isCall ho) h' k ((hg.trans (grew_snap _)).trans hv) hd ?_ ?_ ?_ ?_ ?_ ?_ <;> (by_cases z : callVal f o ≠ 0) <;> simp only [z, if_true, if_false, ne_eq, not_true, not_false_eq_true] <;> omega
theorem XC.makeD (x : XC T A0 S0 B own w g c V st s sn stale f rest o) (ho : o = 240 ∨ o = 245) : gsum (st.enterCreate (st.paidF f o) rest o).frames + 32000 ≤ gsum st.frames := by
  have h1 := enterCreate_gsum st (st.paidF f o) rest o
  have h2 := bare_create (st := st) (f := f) ho
  have h3 := x.paid
  rw [x.hst, gsum_cons]
  omega
theorem XC.make (x : XC T A0 S0 B own w g c V st s sn stale f rest o) (ho : o = 240 ∨ o = 245) {own' : Nat → Nat} {c' : Nat → Value} {V3 : EV} {w' : World} {sn' stale' : List Nat} (h' : MRep own' w' g c' V3 (st.enterCreate (st.paidF f o) rest o) sn' stale') (k : MStep own w own' w') (q : V.Grew V3 6 6 0 0 0 1) : XO A0 S0 B own w g (st.stepF f rest) w' := by
  refine x.fin2 (x.isCreate ho) h' k q (x.makeD ho) ?_ ?_ ?_ ?_ ?_ ?_ <;> omega
end
end Go.Proofs.YgvahwGreat
