import Derived.Test.YgvahwGreatIx
namespace Go.Proofs.YgvahwGreat
/-- A log. -/
structure ALog where
  addr : Nat
  topics : List Nat
  data : List Nat
/-- What a frame that fails puts back. -/
structure AW where
  nonce : Nat → Nat
  bal : Nat → Nat
  code : Nat → List Nat
  slot : Nat → Nat → Nat
  warmA : Nat → Bool
  warmS : Nat → Nat → Bool
  refund : Nat
  logs : List ALog
  temp : Nat → Nat → Nat
  made : Nat → Bool
  gone : Nat → Bool
section
variable {α : Type}
/-- f but at a. -/
def up (f : Nat → α) (a : Nat) (v : α) : Nat → α := fun b => if b = a then v else f b
/-- f but at a, k. -/
def up2 (f : Nat → Nat → α) (a k : Nat) (v : α) : Nat → Nat → α := fun b j => if b = a ∧ j = k then v else f b j
theorem up_self (f : Nat → α) (a : Nat) : up f a (f a) = f := by funext b; unfold up; split <;> simp_all
theorem up2_self (f : Nat → Nat → α) (a k : Nat) : up2 f a k (f a k) = f := by funext b j; unfold up2; split <;> simp_all
end
def AW.setNonce (w : AW) (a n : Nat) : AW := { w with nonce := up w.nonce a n }
def AW.setBal (w : AW) (a n : Nat) : AW := { w with bal := up w.bal a n }
def AW.setCode (w : AW) (a : Nat) (c : List Nat) : AW := { w with code := up w.code a c }
def AW.store (w : AW) (a k v : Nat) : AW := { w with slot := up2 w.slot a k v }
def AW.tstore (w : AW) (a k v : Nat) : AW := { w with temp := up2 w.temp a k v }
def AW.warm (w : AW) (a : Nat) : AW := { w with warmA := up w.warmA a true }
def AW.warmSlot (w : AW) (a k : Nat) : AW := { w with warmS := up2 w.warmS a k true }
def AW.markMade (w : AW) (a : Nat) : AW := { w with made := up w.made a true }
def AW.markGone (w : AW) (a : Nat) : AW := { w with gone := up w.gone a true }
def AW.setRefund (w : AW) (n : Nat) : AW := { w with refund := n }
def AW.putLog (w : AW) (l : ALog) : AW := { w with logs := w.logs ++ [l] }
def AW.empty (w : AW) (a : Nat) : Bool := decide (w.nonce a = 0 ∧ w.bal a = 0 ∧ w.code a = [])
def AW.move (w : AW) (a b v : Nat) : AW := if v = 0 ∨ w.bal a < v then w else
  let w1 := w.setBal a (w.bal a - v)
  w1.setBal b (w1.bal b + v)

/-- An account of the arena. -/
structure EAcct where
  addr : Nat
  nonce : Nat
  bal : Nat
  code : List Nat
  warm : Bool
  made : Bool
  gone : Bool
/-- A slot of the arena. -/
structure ESlot where
  acct : Nat
  key : Nat
  val : Nat
  orig : Nat
  warm : Bool
/-- A transient slot. -/
structure ETemp where
  acct : Nat
  key : Nat
  val : Nat
/-- An entry of the journal. -/
structure JE where
  kind : Nat
  at_ : Nat
  n : Nat
  w : Nat
  b : List Nat
  flag : Bool
/-- The vault; the journal's and the marks' newest first. -/
structure EV where
  accts : List EAcct
  slots : List ESlot
  temps : List ETemp
  journal : List JE
  logs : List ALog
  ref : Nat
  marks : List Nat
def ESlot.kc (s : ESlot) : Nat × Nat := (s.acct, s.key)
def ETemp.kc (s : ETemp) : Nat × Nat := (s.acct, s.key)
def EAcct.new (a : Nat) : EAcct := ⟨a, 0, 0, [], false, false, false⟩
def ESlot.new (i k : Nat) : ESlot := ⟨i, k, 0, 0, false⟩
def ETemp.new (i k : Nat) : ETemp := ⟨i, k, 0⟩
def EV.ix (V : EV) (a : Nat) : Option Nat := ixG EAcct.addr a V.accts
def EV.acct (V : EV) (a : Nat) : EAcct := (look EAcct.addr a V.accts).getD (EAcct.new a)
def EV.sl (V : EV) (a k : Nat) : ESlot := ((V.ix a).bind fun i => look ESlot.kc (i, k) V.slots).getD (ESlot.new 0 k)
def EV.tp (V : EV) (a k : Nat) : Nat := (((V.ix a).bind fun i => look ETemp.kc (i, k) V.temps).map (·.val)).getD 0
/-- The world that the vault stands for. -/
def EV.abs (V : EV) : AW where
  nonce := fun a => (V.acct a).nonce
  bal := fun a => (V.acct a).bal
  code := fun a => (V.acct a).code
  slot := fun a k => (V.sl a k).val
  warmA := fun a => (V.acct a).warm
  warmS := fun a k => (V.sl a k).warm
  refund := V.ref
  logs := V.logs
  temp := V.tp
  made := fun a => (V.acct a).made
  gone := fun a => (V.acct a).gone
/-- The arenas are sound. -/
structure EV.WF (V : EV) : Prop where
  a1 : Once EAcct.addr V.accts
  s1 : Once ESlot.kc V.slots
  t1 : Once ETemp.kc V.temps
  sA : ∀ s ∈ V.slots, s.acct < V.accts.length
  tA : ∀ s ∈ V.temps, s.acct < V.accts.length
def EV.modA (V : EV) (i : Nat) (f : EAcct → EAcct) : EV := { V with accts := V.accts.modify i f }
def EV.modS (V : EV) (i : Nat) (f : ESlot → ESlot) : EV := { V with slots := V.slots.modify i f }
def EV.modT (V : EV) (i : Nat) (f : ETemp → ETemp) : EV := { V with temps := V.temps.modify i f }
def EV.push (V : EV) (e : JE) : EV := { V with journal := e :: V.journal }
/-- An entry undone. -/
def EV.undo (V : EV) (e : JE) : EV :=
  if e.kind = 0 then V.modA e.at_ fun x => { x with bal := e.w }
  else if e.kind = 1 then V.modA e.at_ fun x => { x with nonce := e.n }
  else if e.kind = 2 then V.modA e.at_ fun x => { x with code := e.b }
  else if e.kind = 3 then V.modS e.at_ fun x => { x with val := e.w }
  else if e.kind = 4 then V.modA e.at_ fun x => { x with warm := e.flag }
  else if e.kind = 5 then V.modS e.at_ fun x => { x with warm := e.flag }
  else if e.kind = 6 then { V with ref := e.n }
  else if e.kind = 7 then { V with logs := V.logs.dropLast }
  else if e.kind = 8 then V.modT e.at_ fun x => { x with val := e.w }
  else if e.kind = 9 then V.modA e.at_ fun x => { x with made := e.flag }
  else V.modA e.at_ fun x => { x with gone := e.flag }
/-- An entry's place is there. -/
def EV.fits (V : EV) (e : JE) : Prop :=
  (e.kind = 0 ∨ e.kind = 1 ∨ e.kind = 2 ∨ e.kind = 4 ∨ e.kind = 9 ∨ e.kind = 10 → e.at_ < V.accts.length) ∧ (e.kind = 3 ∨ e.kind = 5 → e.at_ < V.slots.length) ∧ (e.kind = 8 → e.at_ < V.temps.length) ∧ e.kind ≤ 10
/-- V turned back till n entries are left. -/
def undoL : List JE → EV → EV
  | [], V => V
  | e :: l, V => undoL l (V.undo e)
/-- X is V with more empty places. -/
structure EV.Ex (V X : EV) : Prop where
  accts : ∃ l, X.accts = V.accts ++ l ∧ ∀ x ∈ l, x = EAcct.new x.addr
  slots : ∃ l, X.slots = V.slots ++ l ∧ ∀ x ∈ l, x = ESlot.new x.acct x.key
  temps : ∃ l, X.temps = V.temps ++ l ∧ ∀ x ∈ l, x = ETemp.new x.acct x.key
  logs : X.logs = V.logs
  ref : X.ref = V.ref
theorem EV.Ex.refl (V : EV) : V.Ex V := ⟨⟨[], by simp⟩, ⟨[], by simp⟩, ⟨[], by simp⟩, rfl, rfl⟩
theorem EV.Ex.trans {U V X : EV} (h : U.Ex V) (k : V.Ex X) : U.Ex X := by
  obtain ⟨a1, h1, h1'⟩ := h.accts; obtain ⟨a2, h2, h2'⟩ := k.accts
  obtain ⟨b1, g1, g1'⟩ := h.slots; obtain ⟨b2, g2, g2'⟩ := k.slots
  obtain ⟨c1, i1, i1'⟩ := h.temps; obtain ⟨c2, i2, i2'⟩ := k.temps
  refine ⟨⟨a1 ++ a2, by rw [h2, h1, List.append_assoc], fun x hx => ?_⟩, ⟨b1 ++ b2, by rw [g2, g1, List.append_assoc], fun x hx => ?_⟩, ⟨c1 ++ c2, by rw [i2, i1, List.append_assoc], fun x hx => ?_⟩, k.logs.trans h.logs, k.ref.trans h.ref⟩
  · rcases List.mem_append.1 hx with h | h
    · exact h1' x h
    · exact h2' x h
  · rcases List.mem_append.1 hx with h | h
    · exact g1' x h
    · exact g2' x h
  · rcases List.mem_append.1 hx with h | h
    · exact i1' x h
    · exact i2' x h
section
variable {α : Type}
theorem modify_left (l m : List α) (i : Nat) (f : α → α) (h : i < l.length) : (l ++ m).modify i f = l.modify i f ++ m := by
  induction l generalizing i with
  | nil => simp at h
  | cons x l ih =>
    cases i with
    | zero => simp [List.modify]
    | succ i => simpa [List.modify_succ_cons] using ih i (by simpa using h)
theorem modify_set (l : List α) (i : Nat) (f : α → α) (h : i < l.length) : l.modify i f = l.set i (f l[i]) := by
  induction l generalizing i with
  | nil => simp at h
  | cons x l ih =>
    cases i with
    | zero => simp
    | succ i => simpa [List.modify_succ_cons] using ih i (by simpa using h)
end
theorem EV.Ex.undo {V X : EV} (h : V.Ex X) {e : JE} (hf : V.fits e) : (V.undo e).Ex (X.undo e) := by
  obtain ⟨a, h1, h1'⟩ := h.accts
  obtain ⟨b, g1, g1'⟩ := h.slots
  obtain ⟨c, i1, i1'⟩ := h.temps
  obtain ⟨fa, fs, ft, fk⟩ := hf
  have HA : ∀ f : EAcct → EAcct, e.at_ < V.accts.length → (V.modA e.at_ f).Ex (X.modA e.at_ f) := fun f hlt =>
    ⟨⟨a, by simp only [EV.modA]; rw [h1, modify_left _ _ _ _ hlt], h1'⟩, h.slots, h.temps, h.logs, h.ref⟩
  have HS : ∀ f : ESlot → ESlot, e.at_ < V.slots.length → (V.modS e.at_ f).Ex (X.modS e.at_ f) := fun f hlt =>
    ⟨h.accts, ⟨b, by simp only [EV.modS]; rw [g1, modify_left _ _ _ _ hlt], g1'⟩, h.temps, h.logs, h.ref⟩
  have HT : ∀ f : ETemp → ETemp, e.at_ < V.temps.length → (V.modT e.at_ f).Ex (X.modT e.at_ f) := fun f hlt =>
    ⟨h.accts, h.slots, ⟨c, by simp only [EV.modT]; rw [i1, modify_left _ _ _ _ hlt], i1'⟩, h.logs, h.ref⟩
  unfold EV.undo
  by_cases k0 : e.kind = 0
  · rw [if_pos k0, if_pos k0]; exact HA _ (fa (by omega))
  rw [if_neg k0, if_neg k0]
  by_cases k1 : e.kind = 1
  · rw [if_pos k1, if_pos k1]; exact HA _ (fa (by omega))
  rw [if_neg k1, if_neg k1]
  by_cases k2 : e.kind = 2
  · rw [if_pos k2, if_pos k2]; exact HA _ (fa (by omega))
  rw [if_neg k2, if_neg k2]
  by_cases k3 : e.kind = 3
  · rw [if_pos k3, if_pos k3]; exact HS _ (fs (by omega))
  rw [if_neg k3, if_neg k3]
  by_cases k4 : e.kind = 4
  · rw [if_pos k4, if_pos k4]; exact HA _ (fa (by omega))
  rw [if_neg k4, if_neg k4]
  by_cases k5 : e.kind = 5
  · rw [if_pos k5, if_pos k5]; exact HS _ (fs (by omega))
  rw [if_neg k5, if_neg k5]
  by_cases k6 : e.kind = 6
  · rw [if_pos k6, if_pos k6]; exact ⟨h.accts, h.slots, h.temps, h.logs, rfl⟩
  rw [if_neg k6, if_neg k6]
  by_cases k7 : e.kind = 7
  · rw [if_pos k7, if_pos k7]; exact ⟨h.accts, h.slots, h.temps, by show X.logs.dropLast = V.logs.dropLast; rw [h.logs], h.ref⟩
  rw [if_neg k7, if_neg k7]
  by_cases k8 : e.kind = 8
  · rw [if_pos k8, if_pos k8]; exact HT _ (ft (by omega))
  rw [if_neg k8, if_neg k8]
  by_cases k9 : e.kind = 9
  · rw [if_pos k9, if_pos k9]; exact HA _ (fa (by omega))
  rw [if_neg k9, if_neg k9]
  exact HA _ (fa (by omega))
theorem undo_sizes (V : EV) (e : JE) : (V.undo e).accts.length = V.accts.length ∧ (V.undo e).slots.length = V.slots.length ∧ (V.undo e).temps.length = V.temps.length := by
  have HA : ∀ f, (V.modA e.at_ f).accts.length = V.accts.length ∧ (V.modA e.at_ f).slots.length = V.slots.length ∧ (V.modA e.at_ f).temps.length = V.temps.length := fun f => ⟨by simp [EV.modA], rfl, rfl⟩
  have HS : ∀ f, (V.modS e.at_ f).accts.length = V.accts.length ∧ (V.modS e.at_ f).slots.length = V.slots.length ∧ (V.modS e.at_ f).temps.length = V.temps.length := fun f => ⟨rfl, by simp [EV.modS], rfl⟩
  have HT : ∀ f, (V.modT e.at_ f).accts.length = V.accts.length ∧ (V.modT e.at_ f).slots.length = V.slots.length ∧ (V.modT e.at_ f).temps.length = V.temps.length := fun f => ⟨rfl, rfl, by simp [EV.modT]⟩
  unfold EV.undo
  by_cases k0 : e.kind = 0
  · rw [if_pos k0]; exact HA _
  rw [if_neg k0]
  by_cases k1 : e.kind = 1
  · rw [if_pos k1]; exact HA _
  rw [if_neg k1]
  by_cases k2 : e.kind = 2
  · rw [if_pos k2]; exact HA _
  rw [if_neg k2]
  by_cases k3 : e.kind = 3
  · rw [if_pos k3]; exact HS _
  rw [if_neg k3]
  by_cases k4 : e.kind = 4
  · rw [if_pos k4]; exact HA _
  rw [if_neg k4]
  by_cases k5 : e.kind = 5
  · rw [if_pos k5]; exact HS _
  rw [if_neg k5]
  by_cases k6 : e.kind = 6
  · rw [if_pos k6]; exact ⟨rfl, rfl, rfl⟩
  rw [if_neg k6]
  by_cases k7 : e.kind = 7
  · rw [if_pos k7]; exact ⟨rfl, rfl, rfl⟩
  rw [if_neg k7]
  by_cases k8 : e.kind = 8
  · rw [if_pos k8]; exact HT _
  rw [if_neg k8]
  by_cases k9 : e.kind = 9
  · rw [if_pos k9]; exact HA _
  rw [if_neg k9]
  exact HA _
theorem EV.fits.undo {V : EV} {e d : JE} (h : V.fits e) : (V.undo d).fits e := by
  obtain ⟨h1, h2, h3⟩ := undo_sizes V d
  unfold EV.fits; rw [h1, h2, h3]; exact h
theorem EV.Ex.undoL {V X : EV} (h : V.Ex X) (l : List JE) (hf : ∀ e ∈ l, V.fits e) : (undoL l V).Ex (undoL l X) := by
  induction l generalizing V X with
  | nil => exact h
  | cons e l ih => exact ih (h.undo (hf e (by simp))) (fun d hd => (hf d (by simp [hd])).undo)
theorem EV.Ex.acct {V X : EV} (h : V.Ex X) (a : Nat) : X.acct a = V.acct a := by
  obtain ⟨l, h1, h2⟩ := h.accts
  unfold EV.acct
  rw [h1, look_append]
  cases hc : look EAcct.addr a V.accts with
  | some x => rfl
  | none =>
    cases hd : look EAcct.addr a l with
    | none => rfl
    | some x =>
      have := look_some hd
      simp only [Option.none_or, Option.getD_some, Option.getD_none]
      rw [h2 x this.1, this.2]
theorem EV.Ex.sl {V X : EV} (h : V.Ex X) (hw : V.WF) (a k : Nat) : (X.sl a k).val = (V.sl a k).val ∧ (X.sl a k).orig = (V.sl a k).orig ∧ (X.sl a k).warm = (V.sl a k).warm := by
  obtain ⟨l, h1, h2⟩ := h.accts
  obtain ⟨m, g1, g2⟩ := h.slots
  have hz : ∀ j, look ESlot.kc j m = none ∨ ∃ s, look ESlot.kc j m = some s ∧ s.val = 0 ∧ s.orig = 0 ∧ s.warm = false := fun j => by
    cases hc : look ESlot.kc j m with
    | none => exact Or.inl rfl
    | some s =>
      have := look_some hc
      have e := g2 s this.1
      exact Or.inr ⟨s, rfl, by rw [e]; rfl, by rw [e]; rfl, by rw [e]; rfl⟩
  unfold EV.sl EV.ix
  rw [h1, ix_append, g1]
  cases hc : ixG EAcct.addr a V.accts with
  | some i =>
    simp only [Option.some_or, Option.bind_some, look_append]
    cases hd : look ESlot.kc (i, k) V.slots with
    | some s => simp
    | none =>
      rcases hz (i, k) with h0 | ⟨s, h0, z1, z2, z3⟩
      · simp [h0]
      · simp [h0, z1, z2, z3, ESlot.new]
  | none =>
    simp only [Option.none_or, Option.bind_none]
    cases hd : ixG EAcct.addr a l with
    | none => simp
    | some j =>
      simp only [Option.map_some, Option.bind_some, look_append]
      have hn : look ESlot.kc (j + V.accts.length, k) V.slots = none := by
        cases he : look ESlot.kc (j + V.accts.length, k) V.slots with
        | none => rfl
        | some s =>
          exfalso
          have h5 := look_some he
          have h6 := hw.sA s h5.1
          have h7 : s.acct = j + V.accts.length := congrArg Prod.fst h5.2
          omega
      rw [hn]
      rcases hz (j + V.accts.length, k) with h0 | ⟨s, h0, z1, z2, z3⟩
      · simp [h0]
      · simp [h0, z1, z2, z3, ESlot.new]
theorem EV.Ex.tp {V X : EV} (h : V.Ex X) (hw : V.WF) (a k : Nat) : X.tp a k = V.tp a k := by
  obtain ⟨l, h1, h2⟩ := h.accts
  obtain ⟨m, g1, g2⟩ := h.temps
  have hz : ∀ j, look ETemp.kc j m = none ∨ ∃ s, look ETemp.kc j m = some s ∧ s.val = 0 := fun j => by
    cases hc : look ETemp.kc j m with
    | none => exact Or.inl rfl
    | some s =>
      have := look_some hc
      have e := g2 s this.1
      exact Or.inr ⟨s, rfl, by rw [e]; rfl⟩
  unfold EV.tp EV.ix
  rw [h1, ix_append, g1]
  cases hc : ixG EAcct.addr a V.accts with
  | some i =>
    simp only [Option.some_or, Option.bind_some, look_append]
    cases hd : look ETemp.kc (i, k) V.temps with
    | some s => simp
    | none =>
      rcases hz (i, k) with h0 | ⟨s, h0, z1⟩
      · simp [h0]
      · simp [h0, z1]
  | none =>
    simp only [Option.none_or, Option.bind_none]
    cases hd : ixG EAcct.addr a l with
    | none => simp
    | some j =>
      simp only [Option.map_some, Option.bind_some, look_append]
      have hn : look ETemp.kc (j + V.accts.length, k) V.temps = none := by
        cases he : look ETemp.kc (j + V.accts.length, k) V.temps with
        | none => rfl
        | some s =>
          exfalso
          have h5 := look_some he
          have h6 := hw.tA s h5.1
          have h7 : s.acct = j + V.accts.length := congrArg Prod.fst h5.2
          omega
      rw [hn]
      rcases hz (j + V.accts.length, k) with h0 | ⟨s, h0, z1⟩
      · simp [h0]
      · simp [h0, z1]
theorem EV.Ex.abs {V X : EV} (h : V.Ex X) (hw : V.WF) : X.abs = V.abs := by
  unfold EV.abs
  congr 1
  · funext a; rw [h.acct]
  · funext a; rw [h.acct]
  · funext a; rw [h.acct]
  · funext a k; exact (h.sl hw a k).1
  · funext a; rw [h.acct]
  · funext a k; exact (h.sl hw a k).2.2
  · exact h.ref
  · exact h.logs
  · funext a k; exact h.tp hw a k
  · funext a; rw [h.acct]
  · funext a; rw [h.acct]
/-- An account of the arena changed, its address not. -/
theorem acct_modA {V : EV} (hw : V.WF) {i : Nat} {a : Nat} (hi : V.ix a = some i) (f : EAcct → EAcct) (hf : ∀ x, (f x).addr = x.addr) (b : Nat) : (V.modA i f).acct b = if b = a then f (V.acct a) else V.acct b := by
  obtain ⟨hlt, he⟩ := ix_some hi
  unfold EV.acct EV.modA
  simp only
  have hl : look EAcct.addr a V.accts = some V.accts[i] := by rw [← he]; exact look_getElem hw.a1 hlt
  rw [modify_set _ _ _ hlt, look_set hw.a1 hlt _ (hf _), hf, he]
  split
  · rw [hl]; rfl
  · rfl
theorem ix_modA {V : EV} {i : Nat} (f : EAcct → EAcct) (hf : ∀ x, (f x).addr = x.addr) (b : Nat) : (V.modA i f).ix b = V.ix b := by
  unfold EV.ix EV.modA
  simp only
  by_cases hlt : i < V.accts.length
  · rw [modify_set _ _ _ hlt, ix_set hlt _ (hf _)]
  · rw [List.modify_eq_self (by omega)]
theorem sl_modA {V : EV} {i : Nat} (f : EAcct → EAcct) (hf : ∀ x, (f x).addr = x.addr) (b k : Nat) : (V.modA i f).sl b k = V.sl b k := by
  unfold EV.sl; rw [ix_modA f hf]; rfl
theorem tp_modA {V : EV} {i : Nat} (f : EAcct → EAcct) (hf : ∀ x, (f x).addr = x.addr) (b k : Nat) : (V.modA i f).tp b k = V.tp b k := by
  unfold EV.tp; rw [ix_modA f hf]; rfl
theorem WF_modA {V : EV} (hw : V.WF) {i : Nat} (f : EAcct → EAcct) (hf : ∀ x, (f x).addr = x.addr) : (V.modA i f).WF := by
  refine ⟨?_, hw.s1, hw.t1, fun s hs => by simpa [EV.modA] using hw.sA s hs, fun s hs => by simpa [EV.modA] using hw.tA s hs⟩
  unfold EV.modA
  simp only
  by_cases hlt : i < V.accts.length
  · rw [modify_set _ _ _ hlt]; exact once_set hw.a1 hlt _ (hf _)
  · rw [List.modify_eq_self (by omega)]; exact hw.a1
/-- A slot of the arena changed, its key not. -/
theorem sl_modS {V : EV} (hw : V.WF) {i a k j : Nat} (hi : V.ix a = some i) (hj : ixG ESlot.kc (i, k) V.slots = some j) (f : ESlot → ESlot) (hf : ∀ x, (f x).kc = x.kc) (b l : Nat) : (V.modS j f).sl b l = if b = a ∧ l = k then f (V.sl a k) else V.sl b l := by
  obtain ⟨hlt, he⟩ := ix_some hj
  have hl : look ESlot.kc (i, k) V.slots = some V.slots[j] := by rw [← he]; exact look_getElem hw.s1 hlt
  unfold EV.sl EV.modS EV.ix
  simp only
  unfold EV.ix at hi
  cases hb : ixG EAcct.addr b V.accts with
  | none =>
    have hne : b ≠ a := fun e => by subst e; rw [hi] at hb; cases hb
    simp [hne]
  | some i2 =>
    simp only [Option.bind_some]
    rw [modify_set _ _ _ hlt, look_set hw.s1 hlt _ (hf _), hf, he, hi]
    simp only [Option.bind_some]
    by_cases h : b = a ∧ l = k
    · obtain ⟨rfl, rfl⟩ := h
      rw [hi] at hb; cases hb
      rw [hl]; simp
    · rw [if_neg h, if_neg]
      intro e
      have e1 : i2 = i := congrArg Prod.fst e
      have e2 : l = k := congrArg Prod.snd e
      subst e1
      obtain ⟨q1, q2⟩ := ix_some hb
      obtain ⟨q3, q4⟩ := ix_some hi
      exact h ⟨by rw [← q2, q4], e2⟩
theorem WF_modS {V : EV} (hw : V.WF) {i : Nat} (f : ESlot → ESlot) (hf : ∀ x, (f x).kc = x.kc) : (V.modS i f).WF := by
  have hA : ∀ x, (f x).acct = x.acct := fun x => congrArg Prod.fst (hf x)
  unfold EV.modS
  by_cases hlt : i < V.slots.length
  · rw [modify_set _ _ _ hlt]
    refine ⟨hw.a1, once_set hw.s1 hlt _ (hf _), hw.t1, fun s hs => ?_, hw.tA⟩
    rcases List.mem_or_eq_of_mem_set hs with h | h
    · exact hw.sA s h
    · rw [h, hA]; exact hw.sA _ (List.getElem_mem hlt)
  · rw [List.modify_eq_self (by omega)]; exact hw
theorem tp_modT {V : EV} (hw : V.WF) {i a k j : Nat} (hi : V.ix a = some i) (hj : ixG ETemp.kc (i, k) V.temps = some j) (v : Nat) (b l : Nat) : (V.modT j fun x => { x with val := v }).tp b l = if b = a ∧ l = k then v else V.tp b l := by
  obtain ⟨hlt, he⟩ := ix_some hj
  unfold EV.tp EV.modT EV.ix
  simp only
  unfold EV.ix at hi
  cases hb : ixG EAcct.addr b V.accts with
  | none =>
    have hne : b ≠ a := fun e => by subst e; rw [hi] at hb; cases hb
    simp [hne]
  | some i2 =>
    simp only [Option.bind_some]
    rw [modify_set _ _ _ hlt, look_set hw.t1 hlt _ (by rfl), show ETemp.kc { V.temps[j] with val := v } = V.temps[j].kc from rfl, he]
    by_cases h : b = a ∧ l = k
    · obtain ⟨rfl, rfl⟩ := h
      rw [hi] at hb; cases hb
      simp
    · rw [if_neg h, if_neg]
      intro e
      have e1 : i2 = i := congrArg Prod.fst e
      have e2 : l = k := congrArg Prod.snd e
      subst e1
      obtain ⟨q1, q2⟩ := ix_some hb
      obtain ⟨q3, q4⟩ := ix_some hi
      exact h ⟨by rw [← q2, q4], e2⟩
theorem WF_modT {V : EV} (hw : V.WF) {i : Nat} (v : Nat) : (V.modT i fun x => { x with val := v }).WF := by
  unfold EV.modT
  by_cases hlt : i < V.temps.length
  · rw [modify_set _ _ _ hlt]
    refine ⟨hw.a1, hw.s1, once_set hw.t1 hlt _ (by rfl), hw.sA, fun s hs => ?_⟩
    rcases List.mem_or_eq_of_mem_set hs with h | h
    · exact hw.tA s h
    · rw [h]; exact hw.tA V.temps[i] (List.getElem_mem hlt)
  · rw [List.modify_eq_self (by omega)]; exact hw
/-- The account's place, laid where it is wanting. -/
def EV.need (V : EV) (a : Nat) : EV := if V.ix a = none then { V with accts := V.accts ++ [EAcct.new a] } else V
def EV.at_ (V : EV) (a : Nat) : Nat := (V.ix a).getD V.accts.length
theorem need_ix (V : EV) (a : Nat) : (V.need a).ix a = some (V.at_ a) := by
  unfold EV.need EV.at_
  cases h : V.ix a with
  | some i => simp [h]
  | none =>
    simp only [if_true, Option.getD_none]
    unfold EV.ix at h ⊢
    simp only
    rw [ix_append, h, ixG_cons, if_pos (by rfl)]; simp
theorem need_ex (V : EV) (a : Nat) : V.Ex (V.need a) := by
  unfold EV.need
  split
  · exact ⟨⟨[EAcct.new a], rfl, fun x hx => by simp at hx; subst hx; rfl⟩, ⟨[], by simp⟩, ⟨[], by simp⟩, rfl, rfl⟩
  · exact EV.Ex.refl V
theorem need_wf {V : EV} (hw : V.WF) (a : Nat) : (V.need a).WF := by
  unfold EV.need
  split
  · rename_i h
    exact ⟨once_snoc hw.a1 _ h, hw.s1, hw.t1, fun s hs => by have := hw.sA s hs; simp; omega, fun s hs => by have := hw.tA s hs; simp; omega⟩
  · exact hw
theorem need_abs {V : EV} (hw : V.WF) (a : Nat) : (V.need a).abs = V.abs := (need_ex V a).abs hw
/-- The slot's place, laid where it is wanting. -/
def EV.needS (V : EV) (i k : Nat) : EV := if ixG ESlot.kc (i, k) V.slots = none then { V with slots := V.slots ++ [ESlot.new i k] } else V
def EV.atS (V : EV) (i k : Nat) : Nat := (ixG ESlot.kc (i, k) V.slots).getD V.slots.length
theorem needS_ix (V : EV) (i k : Nat) : ixG ESlot.kc (i, k) (V.needS i k).slots = some (V.atS i k) := by
  unfold EV.needS EV.atS
  cases h : ixG ESlot.kc (i, k) V.slots with
  | some j => simp [h]
  | none => simp only [if_true, Option.getD_none]; rw [ix_append, h, ixG_cons, if_pos (by rfl)]; simp
theorem needS_ex (V : EV) (i k : Nat) : V.Ex (V.needS i k) := by
  unfold EV.needS
  split
  · exact ⟨⟨[], by simp⟩, ⟨[ESlot.new i k], rfl, fun x hx => by simp at hx; subst hx; rfl⟩, ⟨[], by simp⟩, rfl, rfl⟩
  · exact EV.Ex.refl V
theorem needS_wf {V : EV} (hw : V.WF) {i : Nat} (hi : i < V.accts.length) (k : Nat) : (V.needS i k).WF := by
  unfold EV.needS
  split
  · rename_i h
    refine ⟨hw.a1, once_snoc hw.s1 _ h, hw.t1, fun s hs => ?_, hw.tA⟩
    rcases List.mem_append.1 hs with h1 | h1
    · exact hw.sA s h1
    · simp at h1; subst h1; exact hi
  · exact hw
def EV.needT (V : EV) (i k : Nat) : EV := if ixG ETemp.kc (i, k) V.temps = none then { V with temps := V.temps ++ [ETemp.new i k] } else V
def EV.atT (V : EV) (i k : Nat) : Nat := (ixG ETemp.kc (i, k) V.temps).getD V.temps.length
theorem needT_ix (V : EV) (i k : Nat) : ixG ETemp.kc (i, k) (V.needT i k).temps = some (V.atT i k) := by
  unfold EV.needT EV.atT
  cases h : ixG ETemp.kc (i, k) V.temps with
  | some j => simp [h]
  | none => simp only [if_true, Option.getD_none]; rw [ix_append, h, ixG_cons, if_pos (by rfl)]; simp
theorem needT_ex (V : EV) (i k : Nat) : V.Ex (V.needT i k) := by
  unfold EV.needT
  split
  · exact ⟨⟨[], by simp⟩, ⟨[], by simp⟩, ⟨[ETemp.new i k], rfl, fun x hx => by simp at hx; subst hx; rfl⟩, rfl, rfl⟩
  · exact EV.Ex.refl V
theorem needT_wf {V : EV} (hw : V.WF) {i : Nat} (hi : i < V.accts.length) (k : Nat) : (V.needT i k).WF := by
  unfold EV.needT
  split
  · rename_i h
    refine ⟨hw.a1, hw.s1, once_snoc hw.t1 _ h, hw.sA, fun s hs => ?_⟩
    rcases List.mem_append.1 hs with h1 | h1
    · exact hw.tA s h1
    · simp at h1; subst h1; exact hi
  · exact hw
theorem modA_back {V : EV} {i : Nat} {f g : EAcct → EAcct} (h : ∀ hi : i < V.accts.length, g (f V.accts[i]) = V.accts[i]) : (V.modA i f).modA i g = V := by
  unfold EV.modA
  cases V
  simp only
  congr 1
  rename_i accts _ _ _ _ _ _
  by_cases hlt : i < accts.length
  · rw [modify_set _ _ _ hlt, modify_set _ _ _ (by simpa using hlt)]
    simp only [List.getElem_set_self, List.set_set]
    rw [show g (f accts[i]) = accts[i] from h hlt]
    exact List.set_getElem_self hlt
  · rw [List.modify_eq_self (by simp; omega), List.modify_eq_self (by omega)]
theorem modS_back {V : EV} {i : Nat} {f g : ESlot → ESlot} (h : ∀ hi : i < V.slots.length, g (f V.slots[i]) = V.slots[i]) : (V.modS i f).modS i g = V := by
  unfold EV.modS
  cases V
  simp only
  congr 1
  rename_i _ slots _ _ _ _ _
  by_cases hlt : i < slots.length
  · rw [modify_set _ _ _ hlt, modify_set _ _ _ (by simpa using hlt)]
    simp only [List.getElem_set_self, List.set_set]
    rw [show g (f slots[i]) = slots[i] from h hlt]
    exact List.set_getElem_self hlt
  · rw [List.modify_eq_self (by simp; omega), List.modify_eq_self (by omega)]
theorem modT_back {V : EV} {i : Nat} {f g : ETemp → ETemp} (h : ∀ hi : i < V.temps.length, g (f V.temps[i]) = V.temps[i]) : (V.modT i f).modT i g = V := by
  unfold EV.modT
  cases V
  simp only
  congr 1
  rename_i _ _ temps _ _ _ _
  by_cases hlt : i < temps.length
  · rw [modify_set _ _ _ hlt, modify_set _ _ _ (by simpa using hlt)]
    simp only [List.getElem_set_self, List.set_set]
    rw [show g (f temps[i]) = temps[i] from h hlt]
    exact List.set_getElem_self hlt
  · rw [List.modify_eq_self (by simp; omega), List.modify_eq_self (by omega)]
theorem need_get (V : EV) (hw : V.WF) (a : Nat) (h : V.at_ a < (V.need a).accts.length) : (V.need a).accts[V.at_ a] = V.acct a := by
  have hw' := need_wf hw a
  obtain ⟨h1, h2⟩ := ix_some (need_ix V a)
  have := look_getElem hw'.a1 h1
  rw [h2] at this
  have h3 : (V.need a).acct a = (V.need a).accts[V.at_ a] := by unfold EV.acct; rw [this]; rfl
  rw [← h3]; exact (need_ex V a).acct a
/-- A setter of an account's field. -/
def EV.opA (V : EV) (a : Nat) (f : EAcct → EAcct) (e : JE) : EV := ((V.need a).modA (V.at_ a) f).push e
def EV.putBal (V : EV) (a v : Nat) : EV := V.opA a (fun x => { x with bal := v }) ⟨0, V.at_ a, 0, (V.acct a).bal, [], false⟩
def EV.putNonce (V : EV) (a v : Nat) : EV := V.opA a (fun x => { x with nonce := v }) ⟨1, V.at_ a, (V.acct a).nonce, 0, [], false⟩
def EV.putCode (V : EV) (a : Nat) (c : List Nat) : EV := V.opA a (fun x => { x with code := c }) ⟨2, V.at_ a, 0, 0, (V.acct a).code, false⟩
def EV.warmA (V : EV) (a : Nat) : EV := V.opA a (fun x => { x with warm := true }) ⟨4, V.at_ a, 0, 0, [], (V.acct a).warm⟩
def EV.markMade (V : EV) (a : Nat) : EV := V.opA a (fun x => { x with made := true }) ⟨9, V.at_ a, 0, 0, [], (V.acct a).made⟩
def EV.markGone (V : EV) (a : Nat) : EV := V.opA a (fun x => { x with gone := true }) ⟨10, V.at_ a, 0, 0, [], (V.acct a).gone⟩
/-- The slot's place with its account's. -/
def EV.needAS (V : EV) (a k : Nat) : EV := (V.need a).needS (V.at_ a) k
def EV.atAS (V : EV) (a k : Nat) : Nat := (V.need a).atS (V.at_ a) k
def EV.opS (V : EV) (a k : Nat) (f : ESlot → ESlot) (e : JE) : EV := ((V.needAS a k).modS (V.atAS a k) f).push e
def EV.store (V : EV) (a k v : Nat) : EV := V.opS a k (fun x => { x with val := v }) ⟨3, V.atAS a k, 0, (V.sl a k).val, [], false⟩
def EV.warmS (V : EV) (a k : Nat) : EV := V.opS a k (fun x => { x with warm := true }) ⟨5, V.atAS a k, 0, 0, [], (V.sl a k).warm⟩
def EV.needAT (V : EV) (a k : Nat) : EV := (V.need a).needT (V.at_ a) k
def EV.atAT (V : EV) (a k : Nat) : Nat := (V.need a).atT (V.at_ a) k
def EV.tstore (V : EV) (a k v : Nat) : EV := ((V.needAT a k).modT (V.atAT a k) fun x => { x with val := v }).push ⟨8, V.atAT a k, 0, V.tp a k, [], false⟩
def EV.setRef (V : EV) (n : Nat) : EV := ({ V with ref := n } : EV).push ⟨6, 0, V.ref, 0, [], false⟩
def EV.putLog (V : EV) (l : ALog) : EV := ({ V with logs := V.logs ++ [l] } : EV).push ⟨7, 0, 0, 0, [], false⟩

/-- The journal's entries have their places, and each log's entry its log. -/
structure EV.JOK (V : EV) : Prop where
  fits : ∀ e ∈ V.journal, V.fits e
  logs : (V.journal.filter fun e => decide (e.kind = 7)).length ≤ V.logs.length
  marks : ∀ p ∈ V.marks, p ≤ V.journal.length
  fall : V.marks.Pairwise fun x y => y ≤ x
/-- A setter: what it makes of the world, and that it is undone. -/
structure EV.Op (V X : EV) (W : AW) (e : JE) : Prop where
  wf : X.WF
  abs : X.abs = W
  jn : X.journal = e :: V.journal
  mks : X.marks = V.marks
  fits : X.fits e
  back : V.Ex (X.undo e)
  size : V.accts.length ≤ X.accts.length ∧ V.slots.length ≤ X.slots.length ∧ V.temps.length ≤ X.temps.length
  more : X.accts.length ≤ V.accts.length + 1 ∧ X.slots.length ≤ V.slots.length + 1 ∧ X.temps.length ≤ V.temps.length + 1
  log : (if e.kind = 7 then 1 else 0) + V.logs.length ≤ X.logs.length
  og : ∀ a k, (X.sl a k).orig = (V.sl a k).orig
theorem need_len (V : EV) (a : Nat) : V.accts.length ≤ (V.need a).accts.length ∧ (V.need a).accts.length ≤ V.accts.length + 1 ∧ V.at_ a < (V.need a).accts.length := by
  have h := (ix_some (need_ix V a)).1
  unfold EV.need at *
  split <;> simp_all
theorem opA_op {V : EV} (hw : V.WF) (a : Nat) (f g : EAcct → EAcct) (e : JE) (hf : ∀ x, (f x).addr = x.addr) (hk : e.kind = 0 ∨ e.kind = 1 ∨ e.kind = 2 ∨ e.kind = 4 ∨ e.kind = 9 ∨ e.kind = 10) (he : e.at_ = V.at_ a)
    (hu : ∀ X : EV, X.undo e = X.modA e.at_ g) (hg : g (f (V.acct a)) = V.acct a) (W : AW) (hW : ((V.need a).modA (V.at_ a) f).abs = W) : V.Op (V.opA a f e) W e := by
  have hl := need_len V a
  have hx : (V.opA a f e).accts.length = (V.need a).accts.length := by simp [EV.opA, EV.push, EV.modA]
  have hs : (V.need a).slots = V.slots := by unfold EV.need; split <;> rfl
  have ht : (V.need a).temps = V.temps := by unfold EV.need; split <;> rfl
  have hj : (V.need a).journal = V.journal := by unfold EV.need; split <;> rfl
  have hm : (V.need a).marks = V.marks := by unfold EV.need; split <;> rfl
  have hlg : (V.need a).logs = V.logs := by unfold EV.need; split <;> rfl
  have hw1 := need_wf hw a
  have hw2 := WF_modA hw1 (i := V.at_ a) f hf
  refine ⟨⟨hw2.a1, hw2.s1, hw2.t1, hw2.sA, hw2.tA⟩, hW, ?_, ?_, ?_, ?_, ?_, ?_, ?_, ?_⟩
  · show e :: (V.need a).journal = _; rw [hj]
  · show (V.need a).marks = _; rw [hm]
  · exact ⟨fun _ => by rw [hx, he]; exact hl.2.2, fun h => by omega, fun h => by omega, by omega⟩
  · rw [hu, he]
    have : (V.opA a f e).modA (V.at_ a) g = (V.need a).push e := by
      show ((((V.need a).modA (V.at_ a) f).push e).modA (V.at_ a) g) = _
      have hb := modA_back (V := V.need a) (i := V.at_ a) (f := f) (g := g) (fun hi => by rw [need_get V hw a hi]; exact hg)
      calc (((V.need a).modA (V.at_ a) f).push e).modA (V.at_ a) g = (((V.need a).modA (V.at_ a) f).modA (V.at_ a) g).push e := rfl
        _ = _ := by rw [hb]
    rw [this]
    have h := need_ex V a
    exact ⟨h.accts, h.slots, h.temps, h.logs, h.ref⟩
  · rw [hx]; exact ⟨hl.1, by show _ ≤ (V.need a).slots.length; rw [hs]; exact Nat.le_refl _, by show _ ≤ (V.need a).temps.length; rw [ht]; exact Nat.le_refl _⟩
  · rw [hx]; exact ⟨hl.2.1, by show (V.need a).slots.length ≤ _; rw [hs]; omega, by show (V.need a).temps.length ≤ _; rw [ht]; omega⟩
  · show _ ≤ (V.need a).logs.length; rw [hlg, if_neg (by omega)]; omega
  · intro b k
    show (((V.need a).modA (V.at_ a) f).sl b k).orig = _
    rw [sl_modA f hf]; exact ((need_ex V a).sl hw b k).2.1
end Go.Proofs.YgvahwGreat
