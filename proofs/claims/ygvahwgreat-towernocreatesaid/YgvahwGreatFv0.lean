import Derived.Test.YgvahwGreatVf1
import Derived.Test.YgvahwGreatNz0
namespace Go.Proofs.YgvahwGreat
open Go.RowKit
/-- What is seen of a vault's slots. -/
def EV.sv (V : EV) (a k : Nat) : Nat × Nat × Bool := ((V.sl a k).val, (V.sl a k).orig, (V.sl a k).warm)
theorem ex_sv {V X : EV} (h : V.Ex X) (hw : V.WF) (a k : Nat) : X.sv a k = V.sv a k := by
  obtain ⟨h1, h2, h3⟩ := h.sl hw a k
  unfold EV.sv
  rw [h1, h2, h3]
theorem needS_ix2 (V : EV) (i k a : Nat) : (V.needS i k).ix a = V.ix a := by unfold EV.needS; split <;> rfl
theorem modS_ix2 (V : EV) (j : Nat) (f : ESlot → ESlot) (a : Nat) : (V.modS j f).ix a = V.ix a := rfl
/-- The rest of a vault is empty. -/
structure EV.Bare (V : EV) : Prop where
  temps : V.temps = []
  journal : V.journal = []
  logs : V.logs = []
  ref : V.ref = 0
  marks : V.marks = []
theorem EV.Bare.tp {V : EV} (h : V.Bare) (a k : Nat) : V.tp a k = 0 := by
  unfold EV.tp
  rw [h.temps]
  cases V.ix a <;> rfl
theorem needS_bare {V : EV} (h : V.Bare) (i k : Nat) : (V.needS i k).Bare := by unfold EV.needS; split; exact ⟨h.temps, h.journal, h.logs, h.ref, h.marks⟩; exact h
theorem modS_bare {V : EV} (h : V.Bare) (j : Nat) (f : ESlot → ESlot) : (V.modS j f).Bare := ⟨h.temps, h.journal, h.logs, h.ref, h.marks⟩
theorem need_bare {V : EV} (h : V.Bare) (a : Nat) : (V.need a).Bare := by unfold EV.need; split; exact ⟨h.temps, h.journal, h.logs, h.ref, h.marks⟩; exact h
theorem modA_bare {V : EV} (h : V.Bare) (j : Nat) (f : EAcct → EAcct) : (V.modA j f).Bare := ⟨h.temps, h.journal, h.logs, h.ref, h.marks⟩
/-- What one slot of the input does. -/
theorem fillS_ok {V : EV} (hw : V.WF) {a i : Nat} (hi : V.ix a = some i) (s : Nat × Nat) :
    (EV.fillS i V s).WF ∧ (∀ b, (EV.fillS i V s).ix b = V.ix b) ∧ (∀ b, (EV.fillS i V s).acct b = V.acct b) ∧ (∀ b k, (EV.fillS i V s).sv b k = if b = a ∧ k = s.1 then (s.2, s.2, (V.sl a s.1).warm) else V.sv b k) := by
  have hil : i < V.accts.length := (ix_some hi).1
  have hw1 := needS_wf hw hil s.1
  have hi1 : (V.needS i s.1).ix a = some i := (needS_ix2 V i s.1 a).trans hi
  have hj := needS_ix V i s.1
  unfold EV.fillS
  refine ⟨WF_modS hw1 _ (fun _ => rfl), fun b => ?_, fun b => ?_, fun b k => ?_⟩
  · rw [modS_ix2]; exact needS_ix2 V i s.1 b
  · show (V.needS i s.1).acct b = V.acct b
    exact (needS_ex V i s.1).acct b
  · unfold EV.sv
    rw [sl_modS hw1 hi1 hj (fun y => { y with val := s.2, orig := s.2 }) (fun _ => rfl) b k]
    obtain ⟨q1, q2, q3⟩ := (needS_ex V i s.1).sl hw a s.1
    by_cases h : b = a ∧ k = s.1
    · rw [if_pos h, if_pos h]
      show (s.2, s.2, _) = _
      rw [q3]
    · rw [if_neg h, if_neg h]
      exact ex_sv (needS_ex V i s.1) hw b k
theorem fillL_ok {a i : Nat} : ∀ (ss : List (Nat × Nat)) {V : EV}, V.WF → V.ix a = some i → V.Bare → ss.Pairwise (fun x y => x.1 < y.1) →
    (ss.foldl (EV.fillS i) V).WF ∧ (ss.foldl (EV.fillS i) V).Bare ∧ (∀ b, (ss.foldl (EV.fillS i) V).ix b = V.ix b) ∧ (∀ b, (ss.foldl (EV.fillS i) V).acct b = V.acct b) ∧ (∀ b k, (ss.foldl (EV.fillS i) V).sv b k = if b = a then (match look Prod.fst k ss with | some s => (s.2, s.2, (V.sl a k).warm) | none => V.sv b k) else V.sv b k)
  | [], V, hw, _, hb, _ => ⟨hw, hb, fun _ => rfl, fun _ => rfl, fun b k => by
      show V.sv b k = _
      split <;> rfl⟩
  | s :: ss, V, hw, hi, hb, hp => by
    obtain ⟨p1, p2⟩ := List.pairwise_cons.1 hp
    obtain ⟨h1, h2, h3, h4⟩ := fillS_ok hw hi s
    have hb1 : (EV.fillS i V s).Bare := modS_bare (needS_bare hb _ _) _ _
    obtain ⟨g1, g2, g3, g4, g5⟩ := fillL_ok ss h1 ((h2 a).trans hi) hb1 p2
    refine ⟨g1, g2, fun b => (g3 b).trans (h2 b), fun b => (g4 b).trans (h3 b), fun b k => ?_⟩
    show (ss.foldl (EV.fillS i) (EV.fillS i V s)).sv b k = _
    rw [g5 b k, look_cons]
    by_cases hba : b = a
    · rw [if_pos hba, if_pos hba]
      subst hba
      by_cases hk : s.1 = k
      · rw [if_pos hk]
        have hn : look Prod.fst k ss = none := by
          cases e : look Prod.fst k ss with
          | none => rfl
          | some x =>
            have := look_some e
            have := p1 x this.1
            omega
        rw [hn]
        show (EV.fillS i V s).sv b k = (s.2, s.2, (V.sl b k).warm)
        rw [h4 b k, if_pos ⟨rfl, hk.symm⟩, hk]
      · rw [if_neg hk]
        have e0 := h4 b k
        rw [if_neg (fun q => hk q.2.symm)] at e0
        cases e : look Prod.fst k ss with
        | none => exact e0
        | some x =>
          show (x.2, x.2, _) = (x.2, x.2, _)
          have : ((EV.fillS i V s).sl b k).warm = (V.sl b k).warm := congrArg (fun q => q.2.2) e0
          rw [this]
    · rw [if_neg hba, if_neg hba, h4 b k, if_neg (fun q => hba q.1)]
/-- An account as the vault keeps it. -/
def YA.toE (y : YA) : EAcct := ⟨y.addr, y.nonce, y.bal, y.code, false, false, false⟩
/-- The vault of an input world. -/
structure FillOK (V : EV) (l : List IAcct) : Prop where
  wf : V.WF
  bare : V.Bare
  acct : ∀ a, V.acct a = ((newW l).acct a).toE
  sv : ∀ a k, V.sv a k = (((newW l).acct a).load k, ((newW l).acct a).load k, false)
theorem fill_zero : FillOK EV.zero [] := ⟨⟨List.Pairwise.nil, List.Pairwise.nil, List.Pairwise.nil, fun _ hs => absurd hs List.not_mem_nil, fun _ hs => absurd hs List.not_mem_nil⟩, ⟨rfl, rfl, rfl, rfl, rfl⟩, fun _ => rfl, fun _ _ => rfl⟩
theorem newW_end (l : List IAcct) (x : IAcct) (hx : ∀ y ∈ l, y.addr ≠ x.addr) (a : Nat) : (newW (l ++ [x])).acct a = if a = x.addr then x.ya else (newW l).acct a := by
  unfold YW.acct
  show (look YA.addr a ((l ++ [x]).map IAcct.ya)).getD (YA.new a) = _
  rw [List.map_append, look_append]
  by_cases h : a = x.addr
  · rw [if_pos h]
    have hn : look YA.addr a (l.map IAcct.ya) = none := by
      cases e : look YA.addr a (l.map IAcct.ya) with
      | none => rfl
      | some z =>
        obtain ⟨q1, q2⟩ := look_some e
        obtain ⟨y, hy, rfl⟩ := List.mem_map.1 q1
        exact absurd (q2.trans h) (hx y hy)
    rw [hn]
    show ((look YA.addr a [x.ya])).getD _ = _
    rw [look_cons, if_pos (show x.ya.addr = a from h.symm)]
    rfl
  · rw [if_neg h]
    have hn : look YA.addr a ([x].map IAcct.ya) = none := by
      show look YA.addr a [x.ya] = none
      rw [look_cons, if_neg (fun q : x.ya.addr = a => h q.symm)]
      rfl
    rw [hn]
    show _ = (look YA.addr a (l.map IAcct.ya)).getD (YA.new a)
    cases look YA.addr a (l.map IAcct.ya) <;> rfl
theorem fill_step {V : EV} {l : List IAcct} (h : FillOK V l) {x : IAcct} (hx : ∀ y ∈ l, y.addr ≠ x.addr) (hs : x.slots.Pairwise (fun p q => p.1 < q.1)) : FillOK (V.fillA x) (l ++ [x]) := by
  obtain ⟨i, ei⟩ : ∃ i, V.at_ x.addr = i := ⟨_, rfl⟩
  have hw1 := need_wf h.wf x.addr
  have hi1 : (V.need x.addr).ix x.addr = some i := by rw [← ei]; exact need_ix V x.addr
  have hw2 : ((V.need x.addr).modA i fun y => { y with nonce := x.nonce, bal := x.bal }).WF := WF_modA hw1 _ (fun _ => rfl)
  have hi2 : ((V.need x.addr).modA i fun y => { y with nonce := x.nonce, bal := x.bal }).ix x.addr = some i := (ix_modA (fun y => { y with nonce := x.nonce, bal := x.bal }) (fun _ => rfl) _).trans hi1
  have e1 : V.fillA1 x = ((V.need x.addr).modA i fun y => { y with nonce := x.nonce, bal := x.bal }).modA i fun y => { y with code := x.code } := by unfold EV.fillA1; rw [ei]
  have hw3 : (V.fillA1 x).WF := by rw [e1]; exact WF_modA hw2 _ (fun _ => rfl)
  have hi3 : (V.fillA1 x).ix x.addr = some i := by rw [e1]; exact (ix_modA (fun y => { y with code := x.code }) (fun _ => rfl) _).trans hi2
  have hb3 : (V.fillA1 x).Bare := by rw [e1]; exact modA_bare (modA_bare (need_bare h.bare _) _ _) _ _
  have hxn : (newW l).acct x.addr = YA.new x.addr := by
    rcases newW_acct l x.addr with q | ⟨y, hy, q⟩
    · exact q
    · have := (newW l).acct_addr x.addr
      rw [q] at this
      exact absurd this (hx y hy)
  have hac : ∀ b, (V.fillA1 x).acct b = if b = x.addr then x.ya.toE else V.acct b := fun b => by
    rw [e1, acct_modA hw2 hi2 (fun y => { y with code := x.code }) (fun _ => rfl), acct_modA hw1 hi1 (fun y => { y with nonce := x.nonce, bal := x.bal }) (fun _ => rfl), acct_modA hw1 hi1 (fun y => { y with nonce := x.nonce, bal := x.bal }) (fun _ => rfl), (need_ex V x.addr).acct, (need_ex V x.addr).acct]
    by_cases q : b = x.addr
    · rw [if_pos q, if_pos q, if_pos rfl, h.acct, hxn]; rfl
    · rw [if_neg q, if_neg q, if_neg q]
  have hsv : ∀ b k, (V.fillA1 x).sv b k = V.sv b k := fun b k => by
    rw [← ex_sv (need_ex V x.addr) h.wf b k]
    unfold EV.sv
    rw [e1, sl_modA (fun y => { y with code := x.code }) (fun _ => rfl), sl_modA (fun y => { y with nonce := x.nonce, bal := x.bal }) (fun _ => rfl)]
  obtain ⟨g1, g2, g3, g4, g5⟩ := fillL_ok x.slots hw3 hi3 hb3 hs
  have ef : V.fillA x = x.slots.foldl (EV.fillS i) (V.fillA1 x) := by unfold EV.fillA; rw [ei]
  rw [ef]
  refine ⟨g1, g2, fun a => ?_, fun a k => ?_⟩
  · rw [g4 a, hac a, newW_end l x hx a]
    by_cases q : a = x.addr
    · rw [if_pos q, if_pos q]
    · rw [if_neg q, if_neg q]; exact h.acct a
  · rw [g5 a k, newW_end l x hx a]
    by_cases q : a = x.addr
    · rw [if_pos q, if_pos q]
      have hz : V.sv x.addr k = (0, 0, false) := by rw [h.sv, hxn]; rfl
      have hwm : ((V.fillA1 x).sl x.addr k).warm = false := by
        have := hsv x.addr k
        rw [hz] at this
        exact congrArg (fun z => z.2.2) this
      show _ = ((((look Prod.fst k x.slots).map Prod.snd).getD 0), (((look Prod.fst k x.slots).map Prod.snd).getD 0), false)
      cases e : look Prod.fst k x.slots with
      | none =>
        show (V.fillA1 x).sv a k = _
        rw [hsv, q, hz]; rfl
      | some s =>
        show (s.2, s.2, ((V.fillA1 x).sl x.addr k).warm) = (s.2, s.2, false)
        rw [hwm]
    · rw [if_neg q, if_neg q, hsv]; exact h.sv a k
theorem fill_all (l : List IAcct) (hl : l.Pairwise (fun x y => x.addr < y.addr)) (hs : ∀ x ∈ l, x.slots.Pairwise (fun p q => p.1 < q.1)) : ∀ n, n ≤ l.length → FillOK ((l.take n).foldl EV.fillA EV.zero) (l.take n)
  | 0, _ => by rw [List.take_zero]; exact fill_zero
  | n + 1, hn => by
    have ih := fill_all l hl hs n (by omega)
    rw [List.take_succ_eq_append_getElem (show n < l.length by omega), List.foldl_append]
    refine fill_step ih (fun y hy => ?_) (hs _ (List.getElem_mem _))
    obtain ⟨j, hj, e⟩ := List.getElem_of_mem hy
    have hj2 : j < n := by rw [List.length_take] at hj; omega
    have := (List.pairwise_iff_getElem.1 hl) j n (by omega) (by omega) hj2
    rw [List.getElem_take] at e
    rw [← e]; omega
theorem fill_len (l : List IAcct) (hs : ∀ x ∈ l, x.slots.length ≤ 16) : ∀ n, n ≤ l.length → ((l.take n).foldl EV.fillA EV.zero).accts.length ≤ n ∧ ((l.take n).foldl EV.fillA EV.zero).slots.length ≤ 16 * n
  | 0, _ => by rw [List.take_zero]; exact ⟨Nat.le_refl _, Nat.le_refl _⟩
  | n + 1, hn => by
    have ih := fill_len l hs n (by omega)
    rw [List.take_succ_eq_append_getElem (show n < l.length by omega), List.foldl_append]
    obtain ⟨V, eV⟩ : ∃ V, (l.take n).foldl EV.fillA EV.zero = V := ⟨_, rfl⟩
    rw [eV] at ih ⊢
    show (V.fillA l[n]).accts.length ≤ n + 1 ∧ (V.fillA l[n]).slots.length ≤ 16 * (n + 1)
    have h1 := fillA1_len V l[n]
    have h2 := need_len V (l[n]).addr
    have h3 : ∀ (ss : List (Nat × Nat)) (i : Nat) (X : EV), (ss.foldl (EV.fillS i) X).accts.length = X.accts.length ∧ (ss.foldl (EV.fillS i) X).slots.length ≤ X.slots.length + ss.length := fun ss => by
      induction ss with
      | nil => intro i X; exact ⟨rfl, Nat.le_refl _⟩
      | cons s ss ih2 =>
        intro i X
        obtain ⟨q1, q2⟩ := ih2 i (EV.fillS i X s)
        obtain ⟨q3, q4⟩ := fillS_len i X s
        show (ss.foldl (EV.fillS i) (EV.fillS i X s)).accts.length = _ ∧ _
        refine ⟨q1.trans (by rw [q3]), ?_⟩
        show (ss.foldl (EV.fillS i) (EV.fillS i X s)).slots.length ≤ _
        rw [List.length_cons]; omega
    obtain ⟨q1, q2⟩ := h3 (l[n]).slots (V.at_ (l[n]).addr) (V.fillA1 l[n])
    have hsl := hs _ (List.getElem_mem (show n < l.length by omega))
    have e1 : (V.fillA l[n]).accts.length = (V.fillA1 l[n]).accts.length := q1
    have e2 : (V.fillA l[n]).slots.length ≤ (V.fillA1 l[n]).slots.length + (l[n]).slots.length := q2
    rw [h1.2] at e2
    rw [h1.1] at e1
    omega
theorem fillV_ok {l : List IAcct} (h : worldOKI l = true) : FillOK (fillV l) l ∧ (fillV l).accts.length ≤ 8 ∧ (fillV l).slots.length ≤ 128 := by
  obtain ⟨h8, hr, hok, _⟩ := (worldOKI_iff l).1 h
  have hy : ∀ y ∈ l, y.slots.length ≤ 16 ∧ y.slots.Pairwise (fun p q => p.1 < q.1) := fun y hy => by
    obtain ⟨i, hi, e⟩ := List.getElem_of_mem hy
    have ho := hok i hi
    rw [e] at ho
    unfold IAcct.ok at ho
    simp only [Bool.and_eq_true, decide_eq_true_iff] at ho
    exact ⟨ho.1.2.2, rise_adj Prod.fst y.slots ((slotsOKI_iff y.slots).1 ho.2).2⟩
  have h1 := fill_all l (rise_adj (fun x => x.addr) l hr) (fun x hx => (hy x hx).2) l.length (Nat.le_refl _)
  have h2 := fill_len l (fun x hx => (hy x hx).1) l.length (Nat.le_refl _)
  rw [List.take_length] at h1 h2
  refine ⟨h1, ?_, ?_⟩
  · exact Nat.le_trans h2.1 h8
  · exact Nat.le_trans h2.2 (by omega)
theorem FillOK.abs {V : EV} {l : List IAcct} (h : FillOK V l) : V.abs = (newW l).abs := by
  have hs : ∀ a k, (V.sl a k).val = ((newW l).acct a).load k ∧ (V.sl a k).warm = false := fun a k => by
    have := h.sv a k
    exact ⟨congrArg (fun z => z.1) this, congrArg (fun z => z.2.2) this⟩
  unfold EV.abs YW.abs
  congr 1
  · funext a; rw [h.acct]; rfl
  · funext a; rw [h.acct]; rfl
  · funext a; rw [h.acct]; rfl
  · funext a k; exact (hs a k).1
  · funext a; rw [h.acct]; rfl
  · funext a k; rw [(hs a k).2]; rfl
  · exact h.bare.ref
  · exact h.bare.logs
  · funext a k; rw [h.bare.tp]; rfl
  · funext a; rw [h.acct]; rfl
  · funext a; rw [h.acct]; rfl
theorem FillOK.orig {V : EV} {l : List IAcct} (h : FillOK V l) (a k : Nat) : (V.sl a k).orig = (newW l).abs.slot a k := congrArg (fun z => z.2.1) (h.sv a k)
end Go.Proofs.YgvahwGreat
