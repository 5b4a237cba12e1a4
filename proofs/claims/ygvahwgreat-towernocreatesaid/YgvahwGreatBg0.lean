import Derived.Test.YgvahwGreatIvc
import Derived.Test.YgvahwGreatTop
namespace Go.Proofs.YgvahwGreat
set_option linter.unusedVariables false
/-- A world between two transactions. -/
structure WIdle (T : Nat) (w : AW) : Prop where
  code : ∀ a, (w.code a).length ≤ 256
  nonce : ∀ a, w.nonce a < 18446744073709551616
  sum : SumLe w.bal T
  ref : w.refund = 0
  logs : w.logs = []
theorem WIdle.inv {T : Nat} {w : AW} (h : WIdle T w) : WInv T 0 w.slot w :=
  ⟨h.code, h.nonce, h.sum, by rw [h.ref]; exact Nat.zero_le _, fun l _ q => by
    cases l with
    | nil => simp
    | cons p l => exact absurd (q p (by simp)).2 (q p (by simp)).1, by rw [h.logs]; simp⟩
theorem sumle_low {b : Nat → Nat} {T v : Nat} (h : SumLe b T) (a : Nat) (hv : v ≤ b a) : SumLe (up b a v) T := by
  have k := h.down a (d := b a - v) (by omega)
  rw [show b a - (b a - v) = v by omega] at k
  exact k.le (by omega)
section
variable {T S : Nat} {og : Nat → Nat → Nat} {w : AW}
theorem WInv.setLow (h : WInv T S og w) (a v : Nat) (hv : v ≤ w.bal a) : WInv T S og (w.setBal a v) :=
  ⟨h.code, h.nonce, sumle_low h.sum a hv, h.ref, h.clr, h.few⟩
theorem WInv.warmKeys (a : Nat) : ∀ (ks : List Nat) (w : AW), WInv T S og w → WInv T S og (ks.foldl (fun w k => w.warmSlot a k) w)
  | [], _, h => h
  | k :: ks, w, h => WInv.warmKeys a ks _ (h.warmSlot a k)
theorem WInv.warmList : ∀ (l : List (Nat × List Nat)) (w : AW), WInv T S og w → WInv T S og (w.warmList l)
  | [], _, h => h
  | p :: l, w, h => WInv.warmList l _ (WInv.warmKeys p.1 p.2 _ (h.warm p.1))
end
theorem warmKeys_warmA (a : Nat) : ∀ (ks : List Nat) (w : AW), (ks.foldl (fun w k => w.warmSlot a k) w).warmA = w.warmA
  | [], _ => rfl
  | k :: ks, w => (warmKeys_warmA a ks (w.warmSlot a k)).trans rfl
theorem warmList_warm (b : Nat) : ∀ (l : List (Nat × List Nat)) (w : AW), w.warmA b = true → (w.warmList l).warmA b = true
  | [], _, h => h
  | p :: l, w, h => warmList_warm b l _ (by rw [warmKeys_warmA]; exact warm_up p.1 b h)
/-- What an applied transaction fulfils. -/
structure VOK (st : ASt) (tx : ATx) : Prop where
  ph : st.phase = 0
  ap : st.applied < 4
  gas : tx.gas ≤ 1048576
  data : tx.data.length ≤ 1024
  list : tx.listOK = true
  nonce : tx.nonce = st.now.nonce tx.from_
  nmax : st.now.nonce tx.from_ ≠ 18446744073709551615
  code : st.now.code tx.from_ = []
  init : tx.create = true → tx.data.length ≤ 512
  intr : tx.intrinsic ≤ tx.gas
  lim : tx.gas ≤ st.env.gasLimit
  funds : tx.gas * tx.most + tx.value ≤ st.now.bal tx.from_
  tip : tx.tipF ≤ tx.most
  fee : st.env.baseFee ≤ tx.most
set_option maxHeartbeats 4000000 in
theorem verdict_zero {st : ASt} {tx : ATx} (h : st.verdict tx = 0) : VOK st tx := by
  unfold ASt.verdict at h
  split at h
  · cases h
  rename_i h1
  split at h
  · cases h
  rename_i h2
  split at h
  · cases h
  rename_i h3
  split at h
  · cases h
  rename_i h4
  split at h
  · cases h
  rename_i h5
  split at h
  · cases h
  rename_i h6
  split at h
  · cases h
  rename_i h7
  split at h
  · cases h
  rename_i h8
  split at h
  · cases h
  rename_i h9
  split at h
  · cases h
  rename_i h10
  split at h
  · cases h
  rename_i h11
  split at h
  · cases h
  rename_i h12
  refine ⟨Decidable.not_not.1 h1, by omega, by omega, by omega, ?_, Decidable.not_not.1 h4, h5, Decidable.not_not.1 h6, fun q => ?_, by omega, by omega, by omega, by omega, by omega⟩
  · cases e : tx.listOK with
    | true => rfl
    | false => exact absurd (Or.inr (Or.inr e)) h3
  · rcases Nat.lt_or_ge 512 tx.data.length with k | k
    · exact absurd ⟨q, k⟩ h7
    · exact k
/-- The world at the opening. -/
theorem opened_inv {T : Nat} {st : ASt} {tx : ATx} (hi : WIdle T st.now) (hv : VOK st tx) (t : Nat) : WInv T 0 st.now.slot (st.opened tx t) := by
  have h0 := hi.inv
  have hn := hi.nonce tx.from_
  have hm := hv.nmax
  have e := hv.nonce
  unfold ASt.opened
  exact WInv.warmList _ _ (((((((h0.setNonce tx.from_ (tx.nonce + 1) (by omega)).setLow tx.from_ _ (by show _ ≤ st.now.bal tx.from_; omega)).warm _).warm _).warm _).warm _).warm _)
theorem opened_warm (st : ASt) (tx : ATx) (t : Nat) : (st.opened tx t).warmA t = true := by
  unfold ASt.opened
  exact warmList_warm _ _ _ (warm_up _ _ (warm_up _ _ (warm_self _ _)))
/-- The first frame. -/
theorem AInv.first {T B : Nat} {st1 : ASt} {f : AFrame} (hok : FOK f) (hpc : f.pc = 0) (hm : f.mem = []) (hg : f.gas = B) (hB : B ≤ 1048576) (hfr : st1.frames = []) (hw : WInv T 0 st1.orig st1.now) (hwm : st1.now.warmA f.self = true) : AInv T B (st1.enter f) := by
  have e : (st1.enter f).frames = [{ f with saved := st1.now }] := by unfold ASt.enter; simp only; rw [hfr]
  have hmc : mcost f = 0 := by unfold mcost memCostA; rw [hm]; rfl
  have hgs : gsum (st1.enter f).frames = B := by rw [e, gsum_cons, gsum_nil]; show f.gas + 0 = B; omega
  have hnow : WInv T 0 st1.orig (st1.enter f).now ∧ (st1.enter f).now.warmA = st1.now.warmA := by
    unfold ASt.enter
    simp only
    have hw1 : WInv T 0 st1.orig (if createsA f.kind then (st1.now.setNonce f.self 1).markMade f.self else st1.now) ∧ (if createsA f.kind then (st1.now.setNonce f.self 1).markMade f.self else st1.now).warmA = st1.now.warmA := by
      split
      · exact ⟨(hw.setNonce _ 1 (by decide)).markMade _, rfl⟩
      · exact ⟨hw, rfl⟩
    split
    · exact hw1
    · exact ⟨hw1.1.move _ _ _, (move_warm _ _ _ _).trans hw1.2⟩
  have ho : (st1.enter f).orig = st1.orig := rfl
  refine ⟨?_, ?_, ?_, by rw [e]; simp, ?_, hB, ?_, ?_, ?_, by rw [e]; simp⟩
  · rw [e]
    intro y hy
    simp only [List.mem_singleton] at hy
    subst hy
    exact ⟨hok.kind, hok.pre, hok.pc, hok.sLen, hok.sLt, hok.gas, hok.self, hok.caller, hok.value, hok.code, hok.mLen, hok.m32, hok.oLt, hok.lLt, hok.out⟩
  · intro y r q
    rw [e] at q
    obtain ⟨rfl, rfl⟩ := List.cons.inj q
    show f.pc ≤ 600
    omega
  · intro y r q p hp
    rw [e] at q
    obtain ⟨rfl, rfl⟩ := List.cons.inj q
    cases hp
  · rw [hgs, e, msum_cons, msum_nil]
    show B + (mcost f + 0) ≤ B
    omega
  · rw [hgs, ho]; exact hnow.1.mono (Nat.zero_le _)
  · rw [hgs, ho, e]
    intro y hy
    simp only [List.mem_singleton] at hy
    subst hy
    exact hw.mono (Nat.zero_le _)
  · rw [e]
    intro y hy
    simp only [List.mem_singleton] at hy
    subst hy
    rw [hnow.2]
    exact hwm
theorem preA_or (t : Nat) : preA t = 0 ∨ preA t = 4 ∨ preA t = 5 := by
  unfold preA
  split
  · rename_i q; exact Or.inr q
  · exact Or.inl rfl
/-- A transaction that begins. -/
theorem begin_inv {T : Nat} {st : ASt} {tx : ATx} (hi : WIdle T st.now) (hv : VOK st tx) (hf : tx.from_ < 2 ^ 160) (ht : tx.to_ < 2 ^ 160) (hval : tx.value < P256) :
    AInv T (tx.gas - tx.intrinsic) (st.begin_ tx) ∧ (((st.begin_ tx).frames ≠ [] ∧ (st.begin_ tx).phase = 1) ∨ ((st.begin_ tx).frames = [] ∧ (st.begin_ tx).phase = 2)) ∧ (∀ f ∈ (st.begin_ tx).frames, f.input.length ≤ 717280) := by
  have hgas := hv.gas
  have hdata := hv.data
  obtain ⟨t, et⟩ : ∃ t, (if tx.create then createAddrA tx.from_ tx.nonce else tx.to_) = t := ⟨_, rfl⟩
  have htl : t < 2 ^ 160 := by
    rw [← et]
    split
    · exact Nat.mod_lt _ (by decide)
    · exact ht
  have ho := opened_inv hi hv t
  have hw := opened_warm st tx t
  unfold ASt.begin_
  simp only [et]
  by_cases hc : tx.create = true
  · simp only [hc, if_true]
    split
    · refine ⟨⟨?_, ?_, ?_, by simp, ?_, by omega, ?_, ?_, ?_, by simp⟩, Or.inr ⟨rfl, rfl⟩, ?_⟩
      · intro y hy; cases hy
      · intro y r q; cases q
      · intro y r q; cases q
      · simp [gsum, msum]
      · exact ho.mono (Nat.zero_le _)
      · intro y hy; cases hy
      · intro y hy; cases hy
      · intro y hy; cases hy
    · refine ⟨AInv.first ⟨(show (1 : Nat) ≤ 7 by decide), Or.inl rfl, by simp, by simp, by simp, by simp only; omega, htl, hf, hval, hv.init hc, by simp, by simp, by simp, by simp, by simp⟩ rfl rfl rfl (by omega) rfl ho hw, Or.inl ⟨by simp [ASt.enter], rfl⟩, ?_⟩
      intro y hy
      simp only [ASt.enter, List.mem_singleton] at hy
      subst hy
      simp
  · have hc2 : tx.create = false := by cases e : tx.create with | true => exact absurd e hc | false => rfl
    simp only [hc2, Bool.false_eq_true, if_false]
    refine ⟨AInv.first ⟨(show (0 : Nat) ≤ 7 by decide), preA_or t, by simp, by simp, by simp, by simp only; omega, htl, hf, hval, ?_, by simp, by simp, by simp, by simp, by simp⟩ rfl rfl rfl (by omega) rfl ho hw, Or.inl ⟨by simp [ASt.enter], rfl⟩, ?_⟩
    · simp only
      split
      · exact Nat.le_trans (ho.code t) (by decide)
      · simp
    · intro y hy
      simp only [ASt.enter, List.mem_singleton] at hy
      subst hy
      simp only
      omega
end Go.Proofs.YgvahwGreat
