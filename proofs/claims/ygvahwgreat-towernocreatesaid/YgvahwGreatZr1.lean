import Derived.Test.YgvahwGreatZr0
import Derived.Test.YgvahwGreatYy
import Derived.Test.YgvahwGreatYyN
import Derived.Test.YgvahwGreatNf
import Derived.Test.YgvahwGreatYm3
namespace Go.Proofs.YgvahwGreat
open Go.RowKit
set_option linter.unusedVariables false
theorem natRun_len {O : Nat → Prop} {w : World} {v : Value} {p : Nat} {L : List Nat} (h : NL O w v L) (hl : L.length ≤ 717280) : (natRun p L).length ≤ 717280 := by
  unfold natRun
  split
  · exact hl
  · split
    · simp
    · rename_i b e m q
      split
      · have hm : m ≤ 64 := by
          unfold natLens at q
          simp only at q
          split at q
          · cases q
          · rename_i hh
            simp only [Option.some.injEq, Prod.mk.injEq] at q
            omega
        obtain ⟨d1, d2⟩ := cut_dig h (96 + b + e) m
        have hb : natPart L (96 + b + e) m < 256 ^ m := by
          have := bev_lt _ d1
          rw [d2] at this
          exact this
        rw [beL_length _ _ ((digs_length_le _ _).2 ?_)]
        · omega
        · unfold dmod
          split
          · exact Nat.pow_pos (by decide)
          · exact Nat.lt_trans (Nat.mod_lt _ (by omega)) hb
      · simp
theorem rd_le {f : AFrame} {o n : Nat} (h : endA o n ≤ 717280) : n ≤ 717280 := by
  unfold endA at h
  split at h <;> omega
section
variable {K T B : Nat} {O TL : Nat → Prop} {w : World} {Y F n : Nat} {c d : Nat → Value} {W : YW} {start : List (Nat × Nat × Nat)} {st : ASt} {tot : Nat} {x : YFrm} {r : List YFrm}
theorem zrRefused (h : ZrP K T B O TL w Y F n c d W start st tot x r) (hpre : x.f.pre = 0) (hr : st.refusal x.f x.f.opcode ≠ 0) : Calls Hvah.prog 30 #[.pointer (some ⟨Y, 0, none⟩)] w fun e w' => e = .returned (.bool true) ∧ YRn K O w w' Y start (st.stepF x.f (r.map (·.f))) tot := by
  refine (zsRefused h.z h.ph hpre hr (refusal_lt _ _ _) h.opLt (h.par (Nat.le_refl _))).mono ?_
  rintro e w' ⟨rfl, q⟩
  exact ⟨rfl, h.finL (f1 := x.f) 0 (Nat.le_refl _) (by omega) (stepF_ref hpre hr) q⟩
theorem zrStop (h : ZrP K T B O TL w Y F n c d W start st tot x r) (hpre : x.f.pre = 0) (hop : x.f.opcode = 0) (hr : st.refusal x.f x.f.opcode = 0) : Calls Hvah.prog 30 #[.pointer (some ⟨Y, 0, none⟩)] w fun e w' => e = .returned (.bool true) ∧ YRn K O w w' Y start (st.stepF x.f (r.map (·.f))) tot := by
  have q := h.q hop hr
  refine (zsStop h.z h.ph hpre hop hr q.ok1 q.re q.ok (h.code (k := 0) (Nat.le_refl _) (by decide) h.now) (h.par (by have := q.gas; omega))).mono ?_
  rintro e w' ⟨rfl, k⟩
  exact ⟨rfl, h.finL (f1 := st.paidF x.f 0) (st2 := st) 0 (Nat.le_refl _) (by have := q.gas; omega) (by rw [stepF_go hpre hr, hop, if_pos rfl]) k⟩
theorem zrRet243 (h : ZrP K T B O TL w Y F n c d W start st tot x r) (hpre : x.f.pre = 0) (hop : x.f.opcode = 243) (hr : st.refusal x.f x.f.opcode = 0) : Calls Hvah.prog 30 #[.pointer (some ⟨Y, 0, none⟩)] w fun e w' => e = .returned (.bool true) ∧ YRn K O w w' Y start (st.stepF x.f (r.map (·.f))) tot := by
  have q := h.q hop hr
  have hn : x.f.arg 1 ≤ 717280 := rd_le (f := x.f) (o := x.f.arg 0) (by have := q.re; unfold AFrame.reach at this; simpa using this)
  refine (zsRet243 h.z h.ph hpre hop hr q.ok1 q.re q.ok hn (by rw [readA_lenm]; exact hn) (h.code (k := 0) (Nat.le_refl _) (by decide) h.now) (h.par (by have := q.gas; omega))).mono ?_
  rintro e w' ⟨rfl, k⟩
  exact ⟨rfl, h.finL (f1 := st.paidF x.f 243) (st2 := st) 0 (Nat.le_refl _) (by have := q.gas; omega) (by rw [stepF_go hpre hr, hop, if_neg (by decide), if_pos rfl]) k⟩
theorem zrRet253 (h : ZrP K T B O TL w Y F n c d W start st tot x r) (hpre : x.f.pre = 0) (hop : x.f.opcode = 253) (hr : st.refusal x.f x.f.opcode = 0) : Calls Hvah.prog 30 #[.pointer (some ⟨Y, 0, none⟩)] w fun e w' => e = .returned (.bool true) ∧ YRn K O w w' Y start (st.stepF x.f (r.map (·.f))) tot := by
  have q := h.q hop hr
  have hn : x.f.arg 1 ≤ 717280 := rd_le (f := x.f) (o := x.f.arg 0) (by have := q.re; unfold AFrame.reach at this; simpa using this)
  refine (zsRet253 h.z h.ph hpre hop hr q.ok1 q.re q.ok hn (by rw [readA_lenm]; exact hn) (h.code (k := 0) (Nat.le_refl _) (by decide) h.now) (h.par (by have := q.gas; omega))).mono ?_
  rintro e w' ⟨rfl, k⟩
  exact ⟨rfl, h.finL (f1 := st.paidF x.f 253) (st2 := st) 0 (Nat.le_refl _) (by have := q.gas; omega) (by rw [stepF_go hpre hr, hop, if_neg (by decide), if_neg (by decide), if_pos rfl]) k⟩
theorem zrNat (h : ZrP K T B O TL w Y F n c d W start st tot x r) (hpre : x.f.pre ≠ 0) (hil : x.f.input.length ≤ 717280) : Calls Hvah.prog 30 #[.pointer (some ⟨Y, 0, none⟩)] w fun e w' => e = .returned (.bool true) ∧ YRn K O w w' Y start (st.stepF x.f (r.map (·.f))) tot := by
  have hp : x.f.pre = 4 ∨ x.f.pre = 5 := h.fok.pre.resolve_left hpre
  cases hc : natCost x.f.pre x.f.input with
  | none =>
    refine (zsNatNone h.z h.ph hp hil hc (h.par (Nat.le_refl _))).mono ?_
    rintro e w' ⟨rfl, q⟩
    exact ⟨rfl, h.finL (f1 := x.f) (st2 := st) 0 (Nat.le_refl _) (by omega) (by unfold ASt.stepF; rw [if_pos hpre, hc]) q⟩
  | some k =>
    by_cases hg : x.f.gas < k
    · refine (zsNatPoor h.z h.ph hp hil k hc hg (h.par (Nat.le_refl _))).mono ?_
      rintro e w' ⟨rfl, q⟩
      exact ⟨rfl, h.finL (f1 := x.f) (st2 := st) 0 (Nat.le_refl _) (by omega) (by unfold ASt.stepF; rw [if_pos hpre, hc]; simp only [if_pos hg]) q⟩
    · refine (zsNatRun h.z h.ph hp hil k hc hg (h.fok.lessGas (by have := h.fok.gas; omega)) (natRun_len h.z.top.fc.input hil) (h.code (k := 0) (Nat.le_refl _) (by decide) h.now) (h.par (by show x.f.gas - k ≤ _; omega))).mono ?_
      rintro e w' ⟨rfl, q⟩
      exact ⟨rfl, h.finL (f1 := { x.f with gas := x.f.gas - k }) (st2 := st) 0 (Nat.le_refl _) (by show x.f.gas - k + _ ≤ _; omega) (by unfold ASt.stepF; rw [if_pos hpre, hc]; simp only [if_neg hg]) q⟩
theorem zrDestroys (h : ZrP K T B O TL w Y F n c d W start st tot x r) (hpre : x.f.pre = 0) (hop : x.f.opcode = 255) (hr : st.refusal x.f x.f.opcode = 0) : Calls Hvah.prog 30 #[.pointer (some ⟨Y, 0, none⟩)] w fun e w' => e = .returned (.bool true) ∧ YRn K O w w' Y start (st.stepF x.f (r.map (·.f))) tot := by
  have q := h.q hop hr
  have hb : 5000 ≤ st.bareCost x.f 255 := by unfold ASt.bareCost ASt.destroyCost; simp; omega
  have hg := q.gas
  have ht0 : addrA (x.f.arg 0) = addrA (x.f.arg 0) := rfl
  have s1 := (siz_warm W (addrA (x.f.arg 0))).1
  have i1 : WInv T 2097152 st.orig (W.warm (addrA (x.f.arg 0))).abs := by rw [YW.warm_abs]; exact h.now.warm _
  have l1 := h.lim 1 s1 (by decide) i1
  have hpar := h.par (g := (st.paidF x.f 255).gas) (by omega)
  have est : st.stepF x.f (r.map (·.f)) = st.destroys (st.paidF x.f 255) (r.map (·.f)) := by rw [stepF_go hpre hr, hop, if_neg (by decide), if_neg (by decide), if_neg (by decide), if_pos rfl]
  obtain ⟨t, et⟩ : ∃ t, addrA (x.f.arg 0) = t := ⟨_, rfl⟩
  rw [et] at s1 i1 l1
  by_cases ha : t = x.f.self
  · by_cases hb2 : x.f.self ∈ (W.warm t).made
    · have s2 := siz_markGone (W.warm t) x.f.self
      have i2 : WInv T 2097152 st.orig ((W.warm t).markGone x.f.self).abs := by rw [YW.markGone_abs]; exact i1.markGone _
      refine (zsDestroys01 h.z h.ph hpre hop hr q.ok1 q.re q.ok t et l1 ha hb2 (h.lim 2 (by omega) (by decide) i2) (h.code (k := 2) (by omega) (by decide) i2) hpar).mono ?_
      rintro e w' ⟨rfl, k⟩
      exact ⟨rfl, h.finL (f1 := st.paidF x.f 255) 2 (by omega) (by omega) (by rw [est]; unfold ASt.destroys; rfl) k⟩
    · refine (zsDestroys00 h.z h.ph hpre hop hr q.ok1 q.re q.ok t et l1 ha hb2 (h.code (k := 1) (by omega) (by decide) i1) hpar).mono ?_
      rintro e w' ⟨rfl, k⟩
      exact ⟨rfl, h.finL (f1 := st.paidF x.f 255) 1 (by omega) (by omega) (by rw [est]; unfold ASt.destroys; rfl) k⟩
  · obtain ⟨m1, m2, _⟩ := siz_move (W.warm t) x.f.self t ((W.warm t).acct x.f.self).bal
    have i3 : WInv T 2097152 st.orig ((W.warm t).move x.f.self t ((W.warm t).acct x.f.self).bal).abs := by rw [YW.move_abs]; exact i1.move _ _ _
    have l3 := h.lim 2 (by omega) (by decide) i3
    have l2 : YLim ((W.warm t).setBal x.f.self (((W.warm t).acct x.f.self).bal - ((W.warm t).acct x.f.self).bal)) := by
      have hsz := h.siz
      have e1 : ∀ a, (((W.warm t).setBal x.f.self (((W.warm t).acct x.f.self).bal - ((W.warm t).acct x.f.self).bal)).abs.bal a) ≤ (W.warm t).abs.bal a := fun a => by
        rw [YW.setBal_abs]
        show up (W.warm t).abs.bal x.f.self _ a ≤ _
        unfold up
        split
        · rename_i qq; rw [Nat.sub_self]; omega
        · exact Nat.le_refl _
      exact YLim.of (by omega) (fun a => by
        have := i1.code a
        have e2 : (((W.warm t).setBal x.f.self (((W.warm t).acct x.f.self).bal - ((W.warm t).acct x.f.self).bal)).abs.code a) = (W.warm t).abs.code a := by rw [YW.setBal_abs]; rfl
        show (((W.warm t).setBal x.f.self (((W.warm t).acct x.f.self).bal - ((W.warm t).acct x.f.self).bal)).abs.code a).length ≤ _
        rw [e2]; omega) (fun a => by
        have := i1.nonce a
        have e2 : (((W.warm t).setBal x.f.self (((W.warm t).acct x.f.self).bal - ((W.warm t).acct x.f.self).bal)).abs.nonce a) = (W.warm t).abs.nonce a := by rw [YW.setBal_abs]; rfl
        show (((W.warm t).setBal x.f.self (((W.warm t).acct x.f.self).bal - ((W.warm t).acct x.f.self).bal)).abs.nonce a) < _
        rw [e2]; exact this) (fun a => Nat.lt_of_le_of_lt (e1 a) (Nat.lt_of_le_of_lt (i1.sum.one a) h.hT)) l1.refund
    by_cases hb2 : x.f.self ∈ ((W.warm t).move x.f.self t ((W.warm t).acct x.f.self).bal).made
    · have s2 := siz_markGone ((W.warm t).move x.f.self t ((W.warm t).acct x.f.self).bal) x.f.self
      have i2 : WInv T 2097152 st.orig (((W.warm t).move x.f.self t ((W.warm t).acct x.f.self).bal).markGone x.f.self).abs := by rw [YW.markGone_abs]; exact i3.markGone _
      refine (zsDestroys11 h.z h.ph hpre hop hr q.ok1 q.re q.ok t et l1 ha l2 l3 hb2 (h.lim 3 (by omega) (by decide) i2) (h.code (k := 3) (by omega) (by decide) i2) hpar).mono ?_
      rintro e w' ⟨rfl, k⟩
      exact ⟨rfl, h.finL (f1 := st.paidF x.f 255) 3 (by omega) (by omega) (by rw [est]; unfold ASt.destroys; rfl) k⟩
    · refine (zsDestroys10 h.z h.ph hpre hop hr q.ok1 q.re q.ok t et l1 ha l2 l3 hb2 (h.code (k := 2) (by omega) (by decide) i3) hpar).mono ?_
      rintro e w' ⟨rfl, k⟩
      exact ⟨rfl, h.finL (f1 := st.paidF x.f 255) 2 (by omega) (by omega) (by rw [est]; unfold ASt.destroys; rfl) k⟩
end
end Go.Proofs.YgvahwGreat
