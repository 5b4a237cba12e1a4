import Derived.Test.YgvahwGreatYW
namespace Go.Proofs.YgvahwGreat
/-! How much the specification's lists hold, and by how much each setter lets them grow. -/
/-- An account takes one place and one a slot. -/
def YA.wt (x : YA) : Nat := 1 + x.slots.length
def wts (l : List YA) : Nat := (l.map YA.wt).sum
/-- The places of all lists. -/
def YW.siz (W : YW) : Nat := wts W.accts + W.warmA.length + W.warmS.length + W.temps.length + W.logs.length + W.made.length + W.gone.length
theorem wts_cons (x : YA) (l : List YA) : wts (x :: l) = x.wt + wts l := by simp [wts]
theorem wts_nil : wts [] = 0 := rfl
theorem wts_append (l m : List YA) : wts (l ++ m) = wts l + wts m := by simp [wts]
def oldW (l : List YA) (a : Nat) : Nat := ((look YA.addr a l).map YA.wt).getD 0
theorem oldW_cons (x : YA) (l : List YA) (a : Nat) : oldW (x :: l) a = if x.addr = a then x.wt else oldW l a := by
  unfold oldW; rw [look_cons]; split <;> rfl
theorem insG_true_wts (n : YA) : ∀ l : List YA, wts (insG YA.addr n true l) + oldW l n.addr ≤ wts l
  | [] => by simp [insG, wts, oldW, look]
  | x :: l => by
    have ih := insG_true_wts n l
    rw [insG, oldW_cons, wts_cons]
    simp only [Bool.not_true, Bool.false_and, Bool.false_eq_true, if_false, List.nil_append, Bool.true_or, wts_append]
    by_cases h : x.addr = n.addr
    · simp only [h, if_true, wts_nil]; omega
    · simp only [h, if_false, wts_cons, wts_nil]; omega
theorem insG_wts (n : YA) (b : Bool) (l : List YA) : wts (insG YA.addr n b l) + oldW l n.addr ≤ wts l + n.wt := by
  cases b with
  | true => have := insG_true_wts n l; omega
  | false =>
    induction l with
    | nil => simp [insG, wts, oldW, look]
    | cons x l ih =>
      rw [insG, oldW_cons, wts_cons]
      simp only [Bool.not_false, Bool.true_and, Bool.false_or, wts_append]
      have ht := insG_true_wts n l
      by_cases hk : n.addr ≤ x.addr
      · simp only [hk, decide_true, if_true, wts_cons, wts_nil]
        by_cases h : x.addr = n.addr
        · simp only [h, if_true, wts_nil]; omega
        · simp only [h, if_false, wts_cons, wts_nil]; omega
      · have h : ¬ x.addr = n.addr := by omega
        simp only [hk, h, decide_false, Bool.false_eq_true, if_false, wts_cons, wts_nil]; omega
theorem insG_len {α : Type} (key : α → Nat) (n : α) (b : Bool) (l : List α) : (insG key n b l).length ≤ l.length + 1 := by
  have ht : ∀ l : List α, (insG key n true l).length ≤ l.length := fun l => by rw [insG_true]; exact List.length_filter_le _ _
  cases b with
  | true => have := ht l; omega
  | false =>
    induction l with
    | nil => simp [insG]
    | cons x l ih =>
      rw [insG]
      simp only [Bool.not_false, Bool.true_and, Bool.false_or, List.length_append, List.length_cons]
      have := ht l
      by_cases hk : key n ≤ key x
      · simp only [hk, decide_true, if_true, List.length_cons, List.length_nil]
        split <;> simp only [List.length_cons, List.length_nil] <;> omega
      · simp only [hk, decide_false, Bool.false_eq_true, if_false, List.length_nil]
        split <;> simp only [List.length_cons, List.length_nil] <;> omega
theorem withA_len (l : List Nat) (a : Nat) : (withA l a).length ≤ l.length + 1 := by
  unfold withA; split
  · omega
  · exact insG_len _ _ _ _
/-- An account that is laid in: its slots as they stood, or one more. -/
theorem siz_put (W : YW) (x : YA) (k : Nat) (hk : x.slots.length ≤ (W.acct x.addr).slots.length + k) : (W.put x).siz ≤ W.siz + k + 1 ∧ ((W.acct x.addr).void = false → (W.put x).siz ≤ W.siz + k) := by
  have h := insG_wts x x.void W.accts
  have e : (W.put x).siz + wts W.accts = W.siz + wts (insG YA.addr x x.void W.accts) := by unfold YW.siz YW.put; simp only; omega
  unfold oldW at h
  unfold YW.acct at hk ⊢
  cases hl : look YA.addr x.addr W.accts with
  | none =>
    rw [hl] at h hk
    simp only [Option.map_none, Option.getD_none, YA.new, List.length_nil, YA.wt] at h hk
    refine ⟨by omega, fun q => ?_⟩
    rw [Option.getD_none] at q
    exact absurd q (by simp [YA.new, YA.void, YA.empty])
  | some y =>
    rw [hl] at h hk
    simp only [Option.map_some, Option.getD_some, YA.wt] at h hk
    exact ⟨by omega, fun _ => by omega⟩
theorem siz_putA (W : YW) (x : YA) (a k : Nat) (ha : x.addr = a) (hk : x.slots.length ≤ (W.acct a).slots.length + k) : (W.put x).siz ≤ W.siz + k + 1 ∧ ((W.acct a).void = false → (W.put x).siz ≤ W.siz + k) := by
  subst ha; exact siz_put W x k hk
theorem siz_setBal (W : YW) (a n : Nat) : (W.setBal a n).siz ≤ W.siz + 1 ∧ ((W.acct a).void = false → (W.setBal a n).siz ≤ W.siz) :=
  siz_putA W { W.acct a with bal := n } a 0 (W.acct_addr a) (Nat.le_refl _)
theorem siz_setNonce (W : YW) (a n : Nat) : (W.setNonce a n).siz ≤ W.siz + 1 ∧ ((W.acct a).void = false → (W.setNonce a n).siz ≤ W.siz) :=
  siz_putA W { W.acct a with nonce := n } a 0 (W.acct_addr a) (Nat.le_refl _)
theorem siz_setCode (W : YW) (a : Nat) (c : List Nat) : (W.setCode a c).siz ≤ W.siz + 1 := by
  have h := siz_put W { W.acct a with code := c } 0 (by simp [YW.acct_addr])
  unfold YW.setCode; omega
theorem siz_store (W : YW) (a k v : Nat) : (W.store a k v).siz ≤ W.siz + 2 := by
  have e : ((W.acct a).store k v).addr = a := by simp [YA.store, YW.acct_addr]
  have h := siz_put W ((W.acct a).store k v) 1 (by rw [e]; exact insG_len _ _ _ _)
  unfold YW.store; omega
theorem siz_move (W : YW) (a b v : Nat) : (W.setBal a ((W.acct a).bal - v)).siz ≤ W.siz + 1 ∧ (W.move a b v).siz ≤ W.siz + 1 ∧ (v = 0 → W.move a b v = W) := by
  refine ⟨(siz_setBal W a _).1, ?_, fun h => by simp [YW.move, h]⟩
  unfold YW.move
  split
  · omega
  · rename_i h
    have q : (W.acct a).void = false := by
      have : (W.acct a).bal ≠ 0 := by omega
      simp [YA.void, YA.empty, this]
    have h1 := (siz_setBal W a ((W.acct a).bal - v)).2 q
    have h2 := (siz_setBal (W.setBal a ((W.acct a).bal - v)) b (((W.setBal a ((W.acct a).bal - v)).acct b).bal + v)).1
    simp only at h2 ⊢
    omega
theorem siz_warm (W : YW) (a : Nat) : (W.warm a).siz ≤ W.siz + 1 ∧ (W.abs.warmA a = true → (W.warm a).siz = W.siz) := by
  have h := withA_len W.warmA a
  refine ⟨by unfold YW.siz YW.warm; simp only; omega, fun q => ?_⟩
  have q : a ∈ W.warmA := by simpa [YW.abs] using q
  simp [YW.siz, YW.warm, withA, q]
theorem siz_markMade (W : YW) (a : Nat) : (W.markMade a).siz ≤ W.siz + 1 := by
  have h := withA_len W.made a
  unfold YW.siz YW.markMade; simp only; omega
theorem siz_markGone (W : YW) (a : Nat) : (W.markGone a).siz ≤ W.siz + 1 := by
  have h := withA_len W.gone a
  unfold YW.siz YW.markGone; simp only; omega
theorem siz_warmSlot (W : YW) (a k : Nat) : (W.warmSlot a k).siz ≤ W.siz + 1 ∧ (W.abs.warmS a k = true → (W.warmSlot a k).siz = W.siz) := by
  have h := insG_len mkS (a, k) false W.warmS
  refine ⟨?_, fun q => ?_⟩
  · unfold YW.warmSlot; split
    · omega
    · unfold YW.siz; simp only; omega
  · have q : (a, k) ∈ W.warmS := by simpa [YW.abs] using q
    simp [YW.warmSlot, q]
theorem siz_tstore (W : YW) (a k v : Nat) : (W.tstore a k v).siz ≤ W.siz + 1 := by
  have h := insG_len mkT (a, k, v) (decide (v = 0)) W.temps
  unfold YW.siz YW.tstore; simp only; omega
theorem wts_mem {x : YA} {l : List YA} (h : x ∈ l) : x.wt ≤ wts l := by
  induction l with
  | nil => cases h
  | cons y l ih =>
    rw [wts_cons]
    rcases List.mem_cons.1 h with rfl | h
    · omega
    · have := ih h; omega
theorem len_wts (l : List YA) : l.length ≤ wts l := by
  induction l with
  | nil => simp [wts]
  | cons y l ih => rw [wts_cons, List.length_cons]; unfold YA.wt; omega
/-- Each list is at most as long as all together. -/
theorem siz_all (W : YW) : W.accts.length ≤ W.siz ∧ W.warmA.length ≤ W.siz ∧ W.warmS.length ≤ W.siz ∧ W.temps.length ≤ W.siz ∧ W.logs.length ≤ W.siz ∧ W.made.length ≤ W.siz ∧ W.gone.length ≤ W.siz ∧ ∀ x ∈ W.accts, x.slots.length ≤ W.siz := by
  have h := len_wts W.accts
  unfold YW.siz
  refine ⟨by omega, by omega, by omega, by omega, by omega, by omega, by omega, fun x hx => ?_⟩
  have := wts_mem hx
  unfold YA.wt at this
  omega
theorem siz_slots (W : YW) (a : Nat) : (W.acct a).slots.length ≤ W.siz := by
  unfold YW.acct
  cases h : look YA.addr a W.accts with
  | none => simp [YA.new]
  | some y => exact (siz_all W).2.2.2.2.2.2.2 y (List.mem_of_find?_eq_some h)
end Go.Proofs.YgvahwGreat
