import Derived.Test.YgvahwGreatVe1
import Derived.Test.YgvahwGreatTop
namespace Go.Proofs.YgvahwGreat
open Go.RowKit
/-- The vault behind a transaction. -/
def restV (V : EV) : EV := { V with accts := V.accts.map EAcct.rest, slots := V.slots.map (ESlot.rest V.accts) }
theorem look_map {α κ : Type} [DecidableEq κ] (key : α → κ) (f : α → α) (hf : ∀ x, key (f x) = key x) (k : κ) : ∀ l : List α, look key k (l.map f) = (look key k l).map f
  | [] => rfl
  | x :: l => by
    rw [List.map_cons, look_cons, look_cons, hf, look_map key f hf k l]
    by_cases h : key x = k
    · rw [if_pos h, if_pos h]; rfl
    · rw [if_neg h, if_neg h]
theorem restV_wf {V : EV} (h : V.WF) : (restV V).WF := by
  refine ⟨?_, ?_, h.t1, ?_, ?_⟩
  · show Once EAcct.addr (V.accts.map EAcct.rest)
    have := h.a1
    unfold Once at this ⊢
    rw [List.pairwise_map]; exact this
  · show Once ESlot.kc (V.slots.map (ESlot.rest V.accts))
    have := h.s1
    unfold Once at this ⊢
    rw [List.pairwise_map]; exact this
  · intro s hs
    obtain ⟨x, hx, rfl⟩ := List.mem_map.1 hs
    show x.acct < (V.accts.map EAcct.rest).length
    rw [List.length_map]; exact h.sA x hx
  · intro s hs
    show s.acct < (V.accts.map EAcct.rest).length
    rw [List.length_map]; exact h.tA s hs
theorem restV_acct (V : EV) (a : Nat) : (restV V).acct a = (V.acct a).rest := by
  unfold EV.acct
  show (look EAcct.addr a (V.accts.map EAcct.rest)).getD _ = _
  rw [look_map EAcct.addr EAcct.rest (fun _ => rfl)]
  cases look EAcct.addr a V.accts <;> rfl
theorem restV_ix (V : EV) (a : Nat) : (restV V).ix a = V.ix a := by
  show ixG EAcct.addr a (V.accts.map EAcct.rest) = ixG EAcct.addr a V.accts
  unfold ixG
  rw [List.findIdx?_map]
  rfl
theorem restV_sl {V : EV} (h : V.WF) (a k : Nat) : ((restV V).sl a k).val = if (V.acct a).gone then 0 else (V.sl a k).val := by
  unfold EV.sl
  rw [restV_ix]
  cases e : V.ix a with
  | none =>
    show (ESlot.new 0 k).val = if (V.acct a).gone then 0 else (ESlot.new 0 k).val
    split <;> rfl
  | some i =>
    simp only [Option.bind_some]
    show ((look ESlot.kc (i, k) (V.slots.map (ESlot.rest V.accts))).getD _).val = _
    rw [look_map ESlot.kc (ESlot.rest V.accts) (fun _ => rfl)]
    obtain ⟨hi, he⟩ := ix_some e
    have ha : V.acct a = V.accts[i] := by
      unfold EV.acct
      have := look_getElem h.a1 hi
      rw [he] at this
      rw [this]; rfl
    cases e2 : look ESlot.kc (i, k) V.slots with
    | none =>
      show (0 : Nat) = if (V.acct a).gone then 0 else 0
      split <;> rfl
    | some s =>
      have hs := (look_some e2).2
      have hsa : s.acct = i := congrArg Prod.fst hs
      show (if (eA V.accts s.acct).gone then 0 else s.val) = if (V.acct a).gone then 0 else s.val
      rw [hsa, ha]
      have : eA V.accts i = V.accts[i] := by unfold eA; simp [hi]
      rw [this]
theorem restV_same {V : EV} (h : V.WF) : V.abs.goes.SameE (restV V).abs := by
  refine ⟨?_, ?_, ?_, ?_⟩
  · funext a
    show (if (V.acct a).gone = true then 0 else (V.acct a).nonce) = ((restV V).acct a).nonce
    rw [restV_acct]; rfl
  · funext a
    show (V.acct a).bal = ((restV V).acct a).bal
    rw [restV_acct]; rfl
  · funext a
    show (if (V.acct a).gone = true then [] else (V.acct a).code) = ((restV V).acct a).code
    rw [restV_acct]; rfl
  · funext a k
    show (if (V.acct a).gone = true then 0 else (V.sl a k).val) = ((restV V).sl a k).val
    rw [restV_sl h]
theorem goesL_same (W : YW) : W.abs.goes.SameE (W.goesL W.gone).abs := by
  refine ⟨?_, ?_, ?_, ?_⟩
  · funext a
    show (if decide (a ∈ W.gone) = true then 0 else (W.acct a).nonce) = ((W.goesL W.gone).acct a).nonce
    rw [YW.goesL_acct]
    by_cases h : a ∈ W.gone
    · rw [if_pos h, if_pos (decide_eq_true h)]
    · rw [if_neg h, if_neg (by simpa using h)]
  · funext a
    show (W.acct a).bal = ((W.goesL W.gone).acct a).bal
    rw [YW.goesL_acct]
    by_cases h : a ∈ W.gone
    · rw [if_pos h]
    · rw [if_neg h]
  · funext a
    show (if decide (a ∈ W.gone) = true then [] else (W.acct a).code) = ((W.goesL W.gone).acct a).code
    rw [YW.goesL_acct]
    by_cases h : a ∈ W.gone
    · rw [if_pos h, if_pos (decide_eq_true h)]
    · rw [if_neg h, if_neg (by simpa using h)]
  · funext a k
    show (if decide (a ∈ W.gone) = true then 0 else (W.acct a).load k) = ((W.goesL W.gone).acct a).load k
    rw [YW.goesL_acct]
    by_cases h : a ∈ W.gone
    · rw [if_pos h, if_pos (decide_eq_true h)]; rfl
    · rw [if_neg h, if_neg (by simpa using h)]
end Go.Proofs.YgvahwGreat
