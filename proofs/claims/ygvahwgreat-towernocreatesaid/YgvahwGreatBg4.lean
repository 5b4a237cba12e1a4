import Derived.Test.YgvahwGreatBg0
import Derived.Test.YgvahwGreatBg3
namespace Go.Proofs.YgvahwGreat
open Go.RowKit
theorem price_le2 {st : ASt} {tx : ATx} (hv : VOK st tx) : st.priceOf tx ≤ tx.most := by
  have := hv.fee
  unfold ASt.priceOf
  omega
theorem paid_le2 {st : ASt} {tx : ATx} (hv : VOK st tx) : tx.gas * st.priceOf tx ≤ st.now.bal tx.from_ := by
  have h1 : tx.gas * st.priceOf tx ≤ tx.gas * tx.most := Nat.mul_le_mul_left _ (price_le2 hv)
  have h2 := hv.funds
  omega
theorem opened_inv2 {T : Nat} {st : ASt} {tx : ATx} (hi : WIdle T st.now) (hv : VOK st tx) (t : Nat) : WInv (T - tx.gas * st.priceOf tx) 0 st.now.slot (st.opened tx t) := by
  have h0 := hi.inv
  have hn := hi.nonce tx.from_
  have hm := hv.nmax
  have e := hv.nonce
  have h1 := h0.setNonce tx.from_ (tx.nonce + 1) (by omega)
  have hs : SumLe (up st.now.bal tx.from_ (st.now.bal tx.from_ - tx.gas * st.priceOf tx)) (T - tx.gas * st.priceOf tx) := hi.sum.down tx.from_ (paid_le2 hv)
  have h2 : WInv (T - tx.gas * st.priceOf tx) 0 st.now.slot ((st.now.setNonce tx.from_ (tx.nonce + 1)).setBal tx.from_ (st.now.bal tx.from_ - tx.gas * st.priceOf tx)) := ⟨h1.code, h1.nonce, hs, h1.ref, h1.clr, h1.few⟩
  unfold ASt.opened
  exact WInv.warmList _ _ (((((h2.warm _).warm _).warm _).warm _).warm _)
theorem begin_inv2 {T : Nat} {st : ASt} {tx : ATx} (hi : WIdle T st.now) (hv : VOK st tx) (hf : tx.from_ < 2 ^ 160) (ht : tx.to_ < 2 ^ 160) (hval : tx.value < P256) :
    AInv (T - tx.gas * st.priceOf tx) (tx.gas - tx.intrinsic) (st.begin_ tx) ∧ (((st.begin_ tx).frames ≠ [] ∧ (st.begin_ tx).phase = 1) ∨ ((st.begin_ tx).frames = [] ∧ (st.begin_ tx).phase = 2)) ∧ (∀ f ∈ (st.begin_ tx).frames, f.input.length ≤ 717280) := by
  have hgas := hv.gas
  have hdata := hv.data
  obtain ⟨t, et⟩ : ∃ t, (if tx.create then createAddrA tx.from_ tx.nonce else tx.to_) = t := ⟨_, rfl⟩
  have htl : t < 2 ^ 160 := by
    rw [← et]
    split
    · exact Nat.mod_lt _ (by decide)
    · exact ht
  have ho := opened_inv2 hi hv t
  have hw := opened_warm st tx t
  unfold ASt.begin_
  simp only [et]
  by_cases hc : tx.create = true
  · simp only [hc, if_true]
    split
    · refine ⟨⟨?_, ?_, ?_, by simp, ?_, by omega, ?_, ?_, ?_, by simp⟩, Or.inr ⟨rfl, rfl⟩, ?_⟩
      · intro y hy; cases hy
      · intro y r q; cases q
      · intro y r q; cases q
      · simp [gsum, msum]
      · exact ho.mono (Nat.zero_le _)
      · intro y hy; cases hy
      · intro y hy; cases hy
      · intro y hy; cases hy
    · refine ⟨AInv.first ⟨(show (1 : Nat) ≤ 7 by decide), Or.inl rfl, by simp, by simp, by simp, by simp only; omega, htl, hf, hval, hv.init hc, by simp, by simp, by simp, by simp, by simp⟩ rfl rfl rfl (by omega) rfl ho hw, Or.inl ⟨by simp [ASt.enter], rfl⟩, ?_⟩
      intro y hy
      simp only [ASt.enter, List.mem_singleton] at hy
      subst hy
      simp
  · have hc2 : tx.create = false := by cases e : tx.create with | true => exact absurd e hc | false => rfl
    simp only [hc2, Bool.false_eq_true, if_false]
    refine ⟨AInv.first ⟨(show (0 : Nat) ≤ 7 by decide), preA_or t, by simp, by simp, by simp, by simp only; omega, htl, hf, hval, ?_, by simp, by simp, by simp, by simp, by simp⟩ rfl rfl rfl (by omega) rfl ho hw, Or.inl ⟨by simp [ASt.enter], rfl⟩, ?_⟩
    · simp only
      split
      · exact Nat.le_trans (ho.code t) (by decide)
      · simp
    · intro y hy
      simp only [ASt.enter, List.mem_singleton] at hy
      subst hy
      simp only
      omega
/-- What is paid back and out does not overflow. -/
theorem pay_fits {T : Nat} {st : ASt} (hs : SumLe st.now.bal T) (hT : T + st.limit * st.price < P256) : st.now.bal st.origin + (st.limit - st.used) * st.price < P256 ∧ (st.now.setBal st.origin (st.now.bal st.origin + (st.limit - st.used) * st.price)).bal st.env.coinbase + st.used * (st.price - st.env.baseFee) < P256 := by
  have hu : st.used ≤ st.limit := by unfold ASt.used; omega
  have h1 : (st.limit - st.used) * st.price + st.used * st.price = st.limit * st.price := by rw [← Nat.add_mul]; congr 1; omega
  have h2 : st.used * (st.price - st.env.baseFee) ≤ st.used * st.price := Nat.mul_le_mul_left _ (Nat.sub_le _ _)
  have h3 := hs.one st.origin
  have h4 := hs.one st.env.coinbase
  refine ⟨by omega, ?_⟩
  show up st.now.bal st.origin (st.now.bal st.origin + (st.limit - st.used) * st.price) st.env.coinbase + _ < P256
  unfold up
  split
  · omega
  · omega
/-- What stands at the end of a transaction. -/
structure EndOK (st : ASt) : Prop where
  ph : st.phase = 2
  left : st.left ≤ st.limit
  lim : st.limit ≤ 1048576
  fee : st.env.baseFee ≤ st.price
  ref : st.now.refund < 18446744073709551616
  p1 : st.now.bal st.origin + (st.limit - st.used) * st.price < P256
  p2 : (st.now.setBal st.origin (st.now.bal st.origin + (st.limit - st.used) * st.price)).bal st.env.coinbase + st.used * (st.price - st.env.baseFee) < P256
  few : ∀ x ∈ st.now.logs, x.topics.length ≤ 4
  status : st.status < 13
  frames : st.frames = []
  winv : ∃ T, WInv T 1048576 st.orig st.now ∧ T + st.limit * st.price < P256
theorem begin_hd (st : ASt) (tx : ATx) : (st.begin_ tx).limit = tx.gas ∧ (st.begin_ tx).price = st.priceOf tx ∧ (st.begin_ tx).env = st.env ∧ (st.begin_ tx).origin = tx.from_ := by
  unfold ASt.begin_
  split
  · simp only
    split
    · exact ⟨rfl, rfl, rfl, rfl⟩
    · exact ⟨rfl, rfl, rfl, rfl⟩
  · exact ⟨rfl, rfl, rfl, rfl⟩
theorem begin_end0 (st : ASt) (tx : ATx) (h : (st.begin_ tx).frames = []) : (st.begin_ tx).left = 0 ∧ (st.begin_ tx).status = 12 := by
  unfold ASt.begin_ at h ⊢
  by_cases hc : tx.create = true
  · simp only [hc, if_true] at h ⊢
    split at h
    · rename_i q
      rw [if_pos q]
      exact ⟨rfl, rfl⟩
    · simp [ASt.enter] at h
  · have hc2 : tx.create = false := by cases e : tx.create with | true => exact absurd e hc | false => rfl
    simp only [hc2, Bool.false_eq_true, if_false] at h
    simp [ASt.enter] at h
theorem end_ok {T n : Nat} {st : ASt} {tx : ATx} (hi : WIdle T st.now) (hT : T < P256) (hv : VOK st tx) (hf : tx.from_ < 2 ^ 160) (ht : tx.to_ < 2 ^ 160) (hval : tx.value < P256) (hr : Runs (st.begin_ tx) n) : EndOK (ASt.steps n (st.begin_ tx)) := by
  obtain ⟨hA, hP, _⟩ := begin_inv2 hi hv hf ht hval
  obtain ⟨b1, b2, b3, b4⟩ := begin_hd st tx
  obtain ⟨k1, k2, k3, k4⟩ := runs_end n hr hA (fun q => by
    obtain ⟨q1, q2⟩ := begin_end0 st tx q
    rw [q1, q2]; exact ⟨Nat.zero_le _, by decide⟩)
  have hgas := hv.gas
  have hph : (ASt.steps n (st.begin_ tx)).phase = 2 := by
    have : ∀ (m : Nat) (s : ASt), ((s.frames ≠ [] ∧ s.phase = 1) ∨ (s.frames = [] ∧ s.phase = 2)) → (∀ k, k < m → (ASt.steps k s).frames ≠ []) → ((ASt.steps m s).frames ≠ [] ∧ (ASt.steps m s).phase = 1) ∨ ((ASt.steps m s).frames = [] ∧ (ASt.steps m s).phase = 2) := fun m => by
      induction m with
      | zero => intro s h _; exact h
      | succ m ih =>
        intro s h hm
        have hne : s.frames ≠ [] := hm 0 (by omega)
        have h1 : s.phase = 1 := by
          rcases h with q | q
          · exact q.2
          · exact absurd q.1 hne
        refine ih s.step ?_ (fun k hk => hm (k + 1) (by omega))
        cases e : s.frames with
        | nil => exact absurd e hne
        | cons f rest =>
          have es : s.step = s.stepF f rest := by unfold ASt.step; rw [e]
          rw [es]; exact stepF_ph s f rest h1
    rcases this n _ hP (fun k hk => hr.more k hk) with q | q
    · exact absurd hr.last q.1
    · exact q.2
  have hlim : (ASt.steps n (st.begin_ tx)).limit = tx.gas := k1.limit.trans b1
  have hprice : (ASt.steps n (st.begin_ tx)).price = st.priceOf tx := k1.price.trans b2
  have hle := paid_le2 hv
  have hb := hi.sum.one tx.from_
  have hfit : T - tx.gas * st.priceOf tx + (ASt.steps n (st.begin_ tx)).limit * (ASt.steps n (st.begin_ tx)).price < P256 := by rw [hlim, hprice]; omega
  obtain ⟨p1, p2⟩ := pay_fits (T := T - tx.gas * st.priceOf tx) k2.now.sum hfit
  have hwi := k2.now
  refine ⟨hph, ?_, by rw [hlim]; exact hgas, ?_, ?_, p1, p2, hwi.few, k4, hr.last, ⟨_, hwi.mono (by omega), hfit⟩⟩
  · rw [hlim]; omega
  · rw [hprice, k1.env, b3]; unfold ASt.priceOf; omega
  · have := hwi.ref; omega
end Go.Proofs.YgvahwGreat
