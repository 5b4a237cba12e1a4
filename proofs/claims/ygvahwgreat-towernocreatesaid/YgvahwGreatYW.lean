import Derived.Test.YgvahwGreatAW
namespace Go.Proofs.YgvahwGreat

/-! The specification's world: sorted lists. -/
/-- An account. -/
structure YA where
  addr : Nat
  nonce : Nat
  bal : Nat
  code : List Nat
  slots : List (Nat × Nat)
/-- The world. -/
structure YW where
  accts : List YA
  warmA : List Nat
  warmS : List (Nat × Nat)
  refund : Nat
  logs : List ALog
  temps : List (Nat × Nat × Nat)
  made : List Nat
  gone : List Nat
def YA.new (a : Nat) : YA := ⟨a, 0, 0, [], []⟩
def YA.empty (x : YA) : Bool := decide (x.nonce = 0 ∧ x.bal = 0 ∧ x.code = [])
def YA.void (x : YA) : Bool := x.empty && x.slots.isEmpty
def YA.load (x : YA) (k : Nat) : Nat := ((look Prod.fst k x.slots).map Prod.snd).getD 0
/-- 2^256. -/
def Pk : Nat := 2 ^ 256
/-- The key of a pair of address and key. -/
def pk (a k : Nat) : Nat := a * Pk + k
def mkS (m : Nat × Nat) : Nat := pk m.1 m.2
def mkT (t : Nat × Nat × Nat) : Nat := pk t.1 t.2.1
theorem mkT_def (t : Nat × Nat × Nat) : mkT t = pk t.1 t.2.1 := rfl
def YW.acct (W : YW) (a : Nat) : YA := (look YA.addr a W.accts).getD (YA.new a)
def YW.abs (W : YW) : AW where
  nonce := fun a => (W.acct a).nonce
  bal := fun a => (W.acct a).bal
  code := fun a => (W.acct a).code
  slot := fun a k => (W.acct a).load k
  warmA := fun a => decide (a ∈ W.warmA)
  warmS := fun a k => decide ((a, k) ∈ W.warmS)
  refund := W.refund
  logs := W.logs
  temp := fun a k => ((look (fun t : Nat × Nat × Nat => (t.1, t.2.1)) (a, k) W.temps).map (·.2.2)).getD 0
  made := fun a => decide (a ∈ W.made)
  gone := fun a => decide (a ∈ W.gone)
def YW.put (W : YW) (x : YA) : YW := { W with accts := insG YA.addr x x.void W.accts }
def YW.setBal (W : YW) (a n : Nat) : YW := W.put { W.acct a with bal := n }
def YW.setNonce (W : YW) (a n : Nat) : YW := W.put { W.acct a with nonce := n }
def YW.setCode (W : YW) (a : Nat) (c : List Nat) : YW := W.put { W.acct a with code := c }
def YA.store (x : YA) (k v : Nat) : YA := { x with slots := insG Prod.fst (k, v) (decide (v = 0)) x.slots }
def YW.store (W : YW) (a k v : Nat) : YW := W.put ((W.acct a).store k v)
def YW.move (W : YW) (a b v : Nat) : YW := if v = 0 ∨ (W.acct a).bal < v then W else
  let W1 := W.setBal a ((W.acct a).bal - v)
  W1.setBal b ((W1.acct b).bal + v)
/-- An address laid in its place. -/
def withA (l : List Nat) (a : Nat) : List Nat := if a ∈ l then l else insG id a false l
def YW.warm (W : YW) (a : Nat) : YW := { W with warmA := withA W.warmA a }
def YW.markMade (W : YW) (a : Nat) : YW := { W with made := withA W.made a }
def YW.markGone (W : YW) (a : Nat) : YW := { W with gone := withA W.gone a }
def YW.warmSlot (W : YW) (a k : Nat) : YW := if (a, k) ∈ W.warmS then W else { W with warmS := insG mkS (a, k) false W.warmS }
def YW.tstore (W : YW) (a k v : Nat) : YW := { W with temps := insG mkT (a, k, v) (decide (v = 0)) W.temps }

theorem insG_false_mem {α : Type} (key : α → Nat) (n : α) (l : List α) : n ∈ insG key n false l := by
  have := insG_false_look key n l (key n)
  rw [if_pos rfl] at this
  exact (look_some this).1
theorem insG_keep {α : Type} (key : α → Nat) (n : α) (b : Bool) (l : List α) (y : α) (hy : y ∈ l) (hk : key y ≠ key n) : y ∈ insG key n b l := by
  induction l generalizing b with
  | nil => cases hy
  | cons x l ih =>
    unfold insG
    refine List.mem_append.2 (Or.inr (List.mem_append.2 ?_))
    rcases List.mem_cons.1 hy with rfl | h
    · left; rw [if_neg hk]; exact List.mem_cons_self ..
    · right; exact ih _ h
theorem withA_mem (l : List Nat) (a b : Nat) : b ∈ withA l a ↔ b = a ∨ b ∈ l := by
  unfold withA
  split
  · constructor
    · exact Or.inr
    · rintro (rfl | h)
      · assumption
      · exact h
  · constructor
    · exact insG_mem id a false l b
    · rintro (rfl | h)
      · exact insG_false_mem id b l
      · by_cases e : b = a
        · subst e; exact insG_false_mem id b l
        · exact insG_keep id a false l b h e
theorem mkS_inj {a k b j : Nat} (h1 : k < Pk) (h2 : j < Pk) (h : pk a k = pk b j) : a = b ∧ k = j := by
  unfold pk at h
  generalize Pk = P at *
  have ha : (a * P + k) / P = a := by rw [Nat.mul_comm, Nat.mul_add_div (by omega), Nat.div_eq_of_lt h1, Nat.add_zero]
  have hb : (b * P + j) / P = b := by rw [Nat.mul_comm, Nat.mul_add_div (by omega), Nat.div_eq_of_lt h2, Nat.add_zero]
  have e : a = b := by rw [← ha, ← hb, h]
  subst e
  exact ⟨rfl, by omega⟩
/-- The lists are sorted. -/
structure YW.WF (W : YW) : Prop where
  accts : Rise YA.addr W.accts
  slots : ∀ x ∈ W.accts, Rise Prod.fst x.slots ∧ (∀ s ∈ x.slots, s.1 < Pk ∧ s.2 ≠ 0)
  addrs : ∀ x ∈ W.accts, x.addr < 2 ^ 160
  warmS : ∀ m ∈ W.warmS, m.2 < Pk
  temps : Rise mkT W.temps
  tkeys : ∀ m ∈ W.temps, m.2.1 < Pk ∧ m.2.2 ≠ 0
  gone : Rise id W.gone
theorem YW.acct_addr (W : YW) (a : Nat) : (W.acct a).addr = a := by
  unfold YW.acct
  cases h : look YA.addr a W.accts with
  | none => rfl
  | some x => exact (look_some h).2
theorem YW.WF.acct_slots {W : YW} (h : W.WF) (a : Nat) : Rise Prod.fst (W.acct a).slots ∧ (∀ s ∈ (W.acct a).slots, s.1 < Pk ∧ s.2 ≠ 0) := by
  unfold YW.acct
  cases e : look YA.addr a W.accts with
  | none => exact ⟨List.Pairwise.nil, fun s hs => by cases hs⟩
  | some x => exact h.slots x (look_some e).1
theorem YA.void_new {x : YA} (h : x.void = true) : x = YA.new x.addr := by
  obtain ⟨a, n, b, c, s⟩ := x
  unfold YA.void YA.empty at h
  simp at h
  obtain ⟨⟨rfl, rfl, rfl⟩, rfl⟩ := h
  rfl
theorem YW.put_acct (W : YW) (x : YA) (b : Nat) : (W.put x).acct b = if b = x.addr then x else W.acct b := by
  unfold YW.put YW.acct
  simp only
  cases hv : x.void with
  | true =>
    rw [insG_true_look]
    split
    · rename_i e; subst e; exact (YA.void_new hv).symm
    · rfl
  | false =>
    rw [insG_false_look]
    split <;> simp_all
theorem YW.put_wf {W : YW} (h : W.WF) (x : YA) (h1 : Rise Prod.fst x.slots) (h2 : ∀ s ∈ x.slots, s.1 < Pk ∧ s.2 ≠ 0) (h3 : x.addr < 2 ^ 160) : (W.put x).WF :=
  ⟨insG_rise _ _ _ _ h.accts, fun y hy => by
    rcases insG_mem _ _ _ _ _ hy with rfl | hy
    · exact ⟨h1, h2⟩
    · exact h.slots y hy, fun y hy => by
    rcases insG_mem _ _ _ _ _ hy with rfl | hy
    · exact h3
    · exact h.addrs y hy, h.warmS, h.temps, h.tkeys, h.gone⟩
theorem YW.setBal_abs (W : YW) (a n : Nat) : (W.setBal a n).abs = W.abs.setBal a n := by
  unfold YW.setBal YW.abs AW.setBal
  congr 1 <;> funext b
  all_goals rw [YW.put_acct]; simp only [up, YW.acct_addr]
  all_goals by_cases e : b = a
  all_goals (try subst e) <;> simp_all [YA.load]
theorem YW.setNonce_abs (W : YW) (a n : Nat) : (W.setNonce a n).abs = W.abs.setNonce a n := by
  unfold YW.setNonce YW.abs AW.setNonce
  congr 1 <;> funext b
  all_goals rw [YW.put_acct]; simp only [up, YW.acct_addr]
  all_goals by_cases e : b = a
  all_goals (try subst e) <;> simp_all [YA.load]
theorem YW.setCode_abs (W : YW) (a : Nat) (c : List Nat) : (W.setCode a c).abs = W.abs.setCode a c := by
  unfold YW.setCode YW.abs AW.setCode
  congr 1 <;> funext b
  all_goals rw [YW.put_acct]; simp only [up, YW.acct_addr]
  all_goals by_cases e : b = a
  all_goals (try subst e) <;> simp_all [YA.load]
theorem YA.store_load (x : YA) (k v j : Nat) : (x.store k v).load j = if j = k then v else x.load j := by
  unfold YA.store YA.load
  simp only
  by_cases hv : v = 0
  · subst hv
    simp only [decide_true, insG_true_look]
    split <;> simp
  · simp only [hv, decide_false, insG_false_look]
    split <;> simp
theorem YW.store_abs (W : YW) (a k v : Nat) : (W.store a k v).abs = W.abs.store a k v := by
  have hs : ∀ b, (W.store a k v).acct b = if b = a then (W.acct a).store k v else W.acct b := fun b => by
    unfold YW.store
    rw [YW.put_acct]
    have : ((W.acct a).store k v).addr = a := W.acct_addr a
    rw [this]
  unfold YW.abs AW.store
  congr 1
  · funext b; rw [hs]; split <;> simp_all [YA.store]
  · funext b; rw [hs]; split <;> simp_all [YA.store]
  · funext b; rw [hs]; split <;> simp_all [YA.store]
  · funext b j
    rw [hs]
    simp only [up2]
    by_cases e : b = a
    · subst e; rw [if_pos rfl, YA.store_load]; simp
    · simp [e]
theorem YW.move_abs (W : YW) (a b v : Nat) : (W.move a b v).abs = W.abs.move a b v := by
  unfold YW.move AW.move
  have e : (W.acct a).bal = W.abs.bal a := rfl
  rw [e]
  split
  · rfl
  · simp only [YW.setBal_abs]
    have : ∀ X : YW, (X.acct b).bal = X.abs.bal b := fun _ => rfl
    rw [this, YW.setBal_abs]
theorem YW.warm_abs (W : YW) (a : Nat) : (W.warm a).abs = W.abs.warm a := by
  unfold YW.warm YW.abs AW.warm
  congr 1
  funext b
  simp only [up, withA_mem]
  by_cases e : b = a <;> simp [e]
theorem YW.markMade_abs (W : YW) (a : Nat) : (W.markMade a).abs = W.abs.markMade a := by
  unfold YW.markMade YW.abs AW.markMade
  congr 1
  funext b
  simp only [up, withA_mem]
  by_cases e : b = a <;> simp [e]
theorem YW.markGone_abs (W : YW) (a : Nat) : (W.markGone a).abs = W.abs.markGone a := by
  unfold YW.markGone YW.abs AW.markGone
  congr 1
  funext b
  simp only [up, withA_mem]
  by_cases e : b = a <;> simp [e]
theorem YW.warmSlot_abs {W : YW} (h : W.WF) (a k : Nat) (hk : k < Pk) : (W.warmSlot a k).abs = W.abs.warmSlot a k := by
  unfold YW.warmSlot
  split
  · rename_i hm
    unfold YW.abs AW.warmSlot
    congr 1
    funext b j
    simp only [up2]
    split
    · rename_i e; obtain ⟨rfl, rfl⟩ := e; simp [hm]
    · rfl
  · unfold YW.abs AW.warmSlot
    congr 1
    funext b j
    simp only [up2]
    by_cases e : b = a ∧ j = k
    · obtain ⟨rfl, rfl⟩ := e
      simp [insG_false_mem]
    · rw [if_neg e]
      have : (b, j) ∈ insG mkS (a, k) false W.warmS ↔ (b, j) ∈ W.warmS := by
        constructor
        · intro q
          rcases insG_mem _ _ _ _ _ q with q | q
          · exact absurd (by simpa using q) e
          · exact q
        · intro q
          exact insG_keep _ _ _ _ _ q (fun e2 => e (mkS_inj (h.warmS _ q) hk e2))
      simp [this]
theorem look_pair1 (x : Nat × Nat × Nat) (l : List (Nat × Nat × Nat)) (a k : Nat) (ih : look (fun t : Nat × Nat × Nat => (t.1, t.2.1)) (a, k) l = look mkT (pk a k) l) (hiff : ((x.1, x.2.1) = (a, k)) ↔ mkT x = pk a k) : look (fun t : Nat × Nat × Nat => (t.1, t.2.1)) (a, k) (x :: l) = look mkT (pk a k) (x :: l) := by
  rw [look_cons, look_cons, ih]
  by_cases hc : (x.1, x.2.1) = (a, k)
  · exact (if_pos hc).trans (if_pos (hiff.1 hc)).symm
  · exact (if_neg hc).trans (if_neg (fun q => hc (hiff.2 q))).symm
theorem pk_iff (x : Nat × Nat × Nat) (a k : Nat) (h : x.2.1 < Pk) (hk : k < Pk) : ((x.1, x.2.1) = (a, k)) ↔ mkT x = pk a k := by
  constructor
  · intro q
    injection q with h1 h2
    rw [mkT_def, h1, h2]
  · intro q
    rw [mkT_def] at q
    obtain ⟨h1, h2⟩ := mkS_inj h hk q
    rw [h1, h2]
theorem look_pair (l : List (Nat × Nat × Nat)) (a k : Nat) (h : ∀ m ∈ l, m.2.1 < Pk) (hk : k < Pk) : look (fun t : Nat × Nat × Nat => (t.1, t.2.1)) (a, k) l = look mkT (pk a k) l := by
  induction l with
  | nil => rw [look_nil, look_nil]
  | cons x l ih => exact look_pair1 x l a k (ih (fun m hm => h m (List.mem_cons_of_mem _ hm))) (pk_iff x a k (h x (List.mem_cons_self ..)) hk)
theorem YW.tstore_wf {W : YW} (h : W.WF) (a k v : Nat) (hk : k < Pk) : (W.tstore a k v).WF :=
  ⟨h.accts, h.slots, h.addrs, h.warmS, insG_rise _ _ _ _ h.temps, fun m hm => by
    by_cases hv : v = 0
    · have hm' : m ∈ insG mkT (a, k, v) true W.temps := by simpa [YW.tstore, hv] using hm
      rcases insG_mem _ _ _ _ _ hm' with e | q
      · exact absurd (by rw [e]) (insG_mem_key _ _ _ _ hm')
      · exact h.tkeys m q
    · rcases insG_mem _ _ _ _ _ hm with rfl | q
      · exact ⟨hk, hv⟩
      · exact h.tkeys m q, h.gone⟩
theorem YW.tstore_abs {W : YW} (h : W.WF) (a k v : Nat) (hk : k < Pk) : (W.tstore a k v).abs = W.abs.tstore a k v := by
  have hw := YW.tstore_wf h a k v hk
  unfold YW.abs AW.tstore
  congr 1
  funext b j
  simp only [up2]
  by_cases hj : j < Pk
  · rw [look_pair _ b j (fun m hm => (hw.tkeys m hm).1) hj, look_pair _ b j (fun m hm => (h.tkeys m hm).1) hj]
    have hkey : mkT (a, k, v) = pk a k := rfl
    by_cases e : b = a ∧ j = k
    · obtain ⟨rfl, rfl⟩ := e
      rw [if_pos ⟨rfl, rfl⟩]
      by_cases hv : v = 0
      · subst hv
        simp [YW.tstore, insG_true_look, hkey]
      · simp [YW.tstore, hv, insG_false_look, hkey]
    · rw [if_neg e]
      have hne : pk b j ≠ pk a k := fun q => e (mkS_inj hj hk q)
      by_cases hv : v = 0
      · subst hv
        simp [YW.tstore, insG_true_look, hkey, hne]
      · simp [YW.tstore, hv, insG_false_look, hkey, hne]
  · have none_of : ∀ l : List (Nat × Nat × Nat), (∀ m ∈ l, m.2.1 < Pk) → look (fun t : Nat × Nat × Nat => (t.1, t.2.1)) (b, j) l = none := fun l hl => by
      cases q : look (fun t : Nat × Nat × Nat => (t.1, t.2.1)) (b, j) l with
      | none => rfl
      | some x =>
        obtain ⟨q1, q2⟩ := look_some q
        have := hl x q1
        have q3 : x.2.1 = j := by simpa using (congrArg Prod.snd q2)
        omega
    rw [none_of _ (fun m hm => (hw.tkeys m hm).1), none_of _ (fun m hm => (h.tkeys m hm).1), if_neg (fun q => hj (by rw [q.2]; exact hk))]
theorem YW.acct_wf {W : YW} (h : W.WF) (a : Nat) (ha : a < 2 ^ 160) (n b : Nat) (c : List Nat) : (W.put ⟨a, n, b, c, (W.acct a).slots⟩).WF := W.put_wf h _ (h.acct_slots a).1 (h.acct_slots a).2 ha
theorem YW.setBal_wf {W : YW} (h : W.WF) (a n : Nat) (ha : a < 2 ^ 160) : (W.setBal a n).WF := W.put_wf h _ (h.acct_slots a).1 (h.acct_slots a).2 (by simpa [YW.acct_addr] using ha)
theorem YW.setNonce_wf {W : YW} (h : W.WF) (a n : Nat) (ha : a < 2 ^ 160) : (W.setNonce a n).WF := W.put_wf h _ (h.acct_slots a).1 (h.acct_slots a).2 (by simpa [YW.acct_addr] using ha)
theorem YW.setCode_wf {W : YW} (h : W.WF) (a : Nat) (c : List Nat) (ha : a < 2 ^ 160) : (W.setCode a c).WF := W.put_wf h _ (h.acct_slots a).1 (h.acct_slots a).2 (by simpa [YW.acct_addr] using ha)
theorem YW.store_wf {W : YW} (h : W.WF) (a k v : Nat) (ha : a < 2 ^ 160) (hk : k < Pk) : (W.store a k v).WF := by
  refine W.put_wf h _ (insG_rise _ _ _ _ (h.acct_slots a).1) (fun s hs => ?_) (by simpa [YA.store, YW.acct_addr] using ha)
  by_cases hv : v = 0
  · have hm : s ∈ insG Prod.fst (k, v) true (W.acct a).slots := by simpa [YA.store, hv] using hs
    rcases insG_mem _ _ _ _ _ hm with e | q
    · exact absurd (by rw [e]) (insG_mem_key _ _ _ _ hm)
    · exact (h.acct_slots a).2 s q
  · rcases insG_mem _ _ _ _ _ hs with rfl | q
    · exact ⟨hk, hv⟩
    · exact (h.acct_slots a).2 s q
theorem YW.move_wf {W : YW} (h : W.WF) (a b v : Nat) (ha : a < 2 ^ 160) (hb : b < 2 ^ 160) : (W.move a b v).WF := by
  unfold YW.move
  split
  · exact h
  · exact YW.setBal_wf (YW.setBal_wf h a _ ha) b _ hb
theorem YW.warm_wf {W : YW} (h : W.WF) (a : Nat) : (W.warm a).WF := ⟨h.accts, h.slots, h.addrs, h.warmS, h.temps, h.tkeys, h.gone⟩
theorem YW.markMade_wf {W : YW} (h : W.WF) (a : Nat) : (W.markMade a).WF := ⟨h.accts, h.slots, h.addrs, h.warmS, h.temps, h.tkeys, h.gone⟩
theorem YW.markGone_wf {W : YW} (h : W.WF) (a : Nat) : (W.markGone a).WF := ⟨h.accts, h.slots, h.addrs, h.warmS, h.temps, h.tkeys, by
  show Rise id (withA W.gone a)
  unfold withA
  split
  · exact h.gone
  · exact insG_rise _ _ _ _ h.gone⟩
theorem YW.warmSlot_wf {W : YW} (h : W.WF) (a k : Nat) (hk : k < Pk) : (W.warmSlot a k).WF := by
  unfold YW.warmSlot
  split
  · exact h
  · exact ⟨h.accts, h.slots, h.addrs, fun m hm => by
      rcases insG_mem _ _ _ _ _ hm with rfl | q
      · exact hk
      · exact h.warmS m q, h.temps, h.tkeys, h.gone⟩
/-- What goes at the end. -/
def YW.goesL (W : YW) (l : List Nat) : YW := l.foldl (fun W a => W.put ⟨a, 0, (W.acct a).bal, [], []⟩) W
theorem YW.goesL_acct (l : List Nat) : ∀ (W : YW) (b : Nat), (W.goesL l).acct b = if b ∈ l then ⟨b, 0, (W.acct b).bal, [], []⟩ else W.acct b := by
  induction l with
  | nil => intro W b; simp [YW.goesL]
  | cons a l ih =>
    intro W b
    have := ih (W.put ⟨a, 0, (W.acct a).bal, [], []⟩) b
    unfold YW.goesL at this ⊢
    rw [List.foldl_cons, this, YW.put_acct]
    by_cases e : b = a
    · subst e; simp
    · simp [e]
theorem YW.goesL_wf (l : List Nat) : ∀ (W : YW), W.WF → (∀ a ∈ l, a < 2 ^ 160) → (W.goesL l).WF := by
  induction l with
  | nil => intro W h _; exact h
  | cons a l ih =>
    intro W h hl
    exact ih _ (W.put_wf h _ List.Pairwise.nil (fun s hs => by cases hs) (hl a (List.mem_cons_self ..))) (fun b hb => hl b (List.mem_cons_of_mem _ hb))
/-- The worlds' end of a transaction. -/
def AW.goes (w : AW) : AW := { w with nonce := fun a => if w.gone a then 0 else w.nonce a, code := fun a => if w.gone a then [] else w.code a, slot := fun a k => if w.gone a then 0 else w.slot a k }
/-- A list shows a world's accounts. -/
structure ExpOf (A : AW) (L : List YA) : Prop where
  rise : Rise YA.addr L
  srise : ∀ x ∈ L, Rise Prod.fst x.slots
  snz : ∀ x ∈ L, ∀ s ∈ x.slots, s.2 ≠ 0
  none : ∀ a, look YA.addr a L = none ↔ A.empty a = true
  some : ∀ x ∈ L, x.nonce = A.nonce x.addr ∧ x.bal = A.bal x.addr ∧ x.code = A.code x.addr ∧ ∀ k, x.load k = A.slot x.addr k
theorem load_look {l : List (Nat × Nat)} (h : ∀ s ∈ l, s.2 ≠ 0) (k : Nat) : look Prod.fst k l = if ((look Prod.fst k l).map Prod.snd).getD 0 = 0 then Option.none else Option.some (k, ((look Prod.fst k l).map Prod.snd).getD 0) := by
  cases q : look Prod.fst k l with
  | none => rfl
  | some x =>
    obtain ⟨q1, q2⟩ := look_some q
    have := h x q1
    simp [this, ← q2]
theorem ExpOf.uniq {A : AW} {L M : List YA} (h : ExpOf A L) (k : ExpOf A M) : L = M := by
  refine rise_ext YA.addr L M h.rise k.rise (fun a => ?_)
  cases q : look YA.addr a L with
  | none => exact ((k.none a).2 ((h.none a).1 q)).symm
  | some x =>
    cases p : look YA.addr a M with
    | none => rw [(h.none a).2 ((k.none a).1 p)] at q; cases q
    | some y =>
      obtain ⟨x1, x2⟩ := look_some q
      obtain ⟨y1, y2⟩ := look_some p
      obtain ⟨u1, u2, u3, u4⟩ := h.some x x1
      obtain ⟨v1, v2, v3, v4⟩ := k.some y y1
      rw [x2] at u1 u2 u3 u4
      rw [y2] at v1 v2 v3 v4
      have hs : x.slots = y.slots := by
        refine rise_ext Prod.fst _ _ (h.srise x x1) (k.srise y y1) (fun j => ?_)
        rw [load_look (h.snz x x1) j, load_look (k.snz y y1) j]
        have e1 := u4 j
        have e2 := v4 j
        unfold YA.load at e1 e2
        rw [e1, e2]
      obtain ⟨xa, xn, xb, xc, xs⟩ := x
      obtain ⟨ya, yn, yb, yc, ys⟩ := y
      simp_all
/-- What is shown. -/
def YW.shown (W : YW) : List YA := W.accts.filter fun x => !x.empty
theorem YW.shown_exp {W : YW} (h : W.WF) : ExpOf W.abs W.shown where
  rise := h.accts.filter _
  srise := fun x hx => (h.slots x (List.mem_filter.1 hx).1).1
  snz := fun x hx s hs => ((h.slots x (List.mem_filter.1 hx).1).2 s hs).2
  none := fun a => by
    constructor
    · intro q
      cases p : look YA.addr a W.accts with
      | none => simp [YW.abs, AW.empty, YW.acct, p, YA.new]
      | some x =>
        obtain ⟨x1, x2⟩ := look_some p
        have : x.empty = true := by
          apply Decidable.byContradiction
          intro hne
          exact look_none q x (List.mem_filter.2 ⟨x1, by simpa using hne⟩) x2
        have hx : W.acct a = x := by unfold YW.acct; rw [p]; rfl
        show decide ((W.acct a).nonce = 0 ∧ (W.acct a).bal = 0 ∧ (W.acct a).code = []) = true
        rw [hx]; exact this
    · intro q
      cases p : look YA.addr a W.shown with
      | none => rfl
      | some x =>
        obtain ⟨x1, x2⟩ := look_some p
        have x3 := List.mem_filter.1 x1
        have hx : W.acct a = x := by unfold YW.acct; rw [← x2, look_mem h.accts x3.1]; rfl
        have q' : decide ((W.acct a).nonce = 0 ∧ (W.acct a).bal = 0 ∧ (W.acct a).code = []) = true := q
        rw [hx] at q'
        have := x3.2
        unfold YA.empty at this
        simp_all
  some := fun x hx => by
    have hm := (List.mem_filter.1 hx).1
    have e : W.acct x.addr = x := by unfold YW.acct; rw [look_mem h.accts hm]; rfl
    show x.nonce = (W.acct x.addr).nonce ∧ x.bal = (W.acct x.addr).bal ∧ x.code = (W.acct x.addr).code ∧ ∀ k, x.load k = (W.acct x.addr).load k
    rw [e]; exact ⟨rfl, rfl, rfl, fun _ => rfl⟩
end Go.Proofs.YgvahwGreat
