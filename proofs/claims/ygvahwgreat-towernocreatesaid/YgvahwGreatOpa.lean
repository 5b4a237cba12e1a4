import Derived.Test.YgvahwGreatBg0
import Derived.Test.YgvahwGreatOpn2
namespace Go.Proofs.YgvahwGreat
open Go.RowKit
theorem warmKeys_bal (a : Nat) : ∀ (ks : List Nat) (w : AW), (ks.foldl (fun w k => w.warmSlot a k) w).bal = w.bal
  | [], _ => rfl
  | k :: ks, w => (warmKeys_bal a ks (w.warmSlot a k)).trans rfl
theorem warmList_bal : ∀ (l : List (Nat × List Nat)) (w : AW), (w.warmList l).bal = w.bal
  | [], _ => rfl
  | p :: l, _ => (warmList_bal l _).trans (warmKeys_bal p.1 p.2 _)
theorem opened_bal (st : ASt) (t : ATx) (tg : Nat) : (st.opened t tg).bal t.from_ = st.now.bal t.from_ - t.gas * st.priceOf t := by
  unfold ASt.opened
  rw [warmList_bal]
  show up _ _ _ _ = _
  unfold up
  rw [if_pos rfl]
theorem price_most {st : ASt} {t : ATx} (hv : VOK st t) : st.priceOf t ≤ t.most := by
  have := hv.fee
  unfold ASt.priceOf
  omega
/-- What Open needs. -/
structure OpOK (st : ASt) (t : ATx) (tg : Nat) : Prop where
  le : t.gas * st.priceOf t ≤ st.now.bal t.from_
  lt : t.gas * st.priceOf t < P256
  ok0 : t.create = false → FOK (opF0 (st.opened t tg) t tg (t.gas - t.intrinsic))
  ok1 : t.create = true → FOK (opF1 (st.opened t tg) t tg (t.gas - t.intrinsic))
  le0 : t.value ≤ (st.opened t tg).bal t.from_
  ov0 : ((st.opened t tg).setBal t.from_ ((st.opened t tg).bal t.from_ - t.value)).bal tg + t.value < P256
  le1 : t.value ≤ (((st.opened t tg).setNonce tg 1).markMade tg).bal t.from_
  ov1 : ((((st.opened t tg).setNonce tg 1).markMade tg).setBal t.from_ ((((st.opened t tg).setNonce tg 1).markMade tg).bal t.from_ - t.value)).bal tg + t.value < P256
theorem open_ok {T : Nat} {st : ASt} {t : ATx} {tg : Nat} (hi : WIdle T st.now) (hT : T < P256) (hv : VOK st t) (hf : t.from_ < 2 ^ 160) (htg : tg < 2 ^ 160) (hval : t.value < P256) : OpOK st t tg := by
  have hgas := hv.gas
  have hp := price_most hv
  have hfu := hv.funds
  have hm : t.gas * st.priceOf t ≤ t.gas * t.most := Nat.mul_le_mul_left _ hp
  have hb : st.now.bal t.from_ ≤ T := hi.sum.one _
  have ho := opened_inv hi hv tg
  have eb := opened_bal st t tg
  have h0 : t.value ≤ (st.opened t tg).bal t.from_ := by rw [eb]; omega
  have h1 : t.value ≤ (((st.opened t tg).setNonce tg 1).markMade tg).bal t.from_ := h0
  refine ⟨by omega, by omega, fun _ => ?_, fun hc => ?_, h0, ho.moveFit hT h0, h1, ((ho.setNonce tg 1 (by decide)).markMade tg).moveFit hT h1⟩
  · refine ⟨(show (0 : Nat) ≤ 7 by decide), preA_or tg, by simp [opF0], by simp [opF0], by simp [opF0], (show t.gas - t.intrinsic ≤ 1048576 by omega), htg, hf, hval, ?_, by simp [opF0], by simp [opF0], by simp [opF0], by simp [opF0], by simp [opF0]⟩
    show (if preA tg = 0 then (st.opened t tg).code tg else []).length ≤ 512
    split
    · exact Nat.le_trans (ho.code tg) (by decide)
    · simp
  · exact ⟨(show (1 : Nat) ≤ 7 by decide), Or.inl rfl, by simp [opF1], by simp [opF1], by simp [opF1], (show t.gas - t.intrinsic ≤ 1048576 by omega), htg, hf, hval, hv.init hc, by simp [opF1], by simp [opF1], by simp [opF1], by simp [opF1], by simp [opF1]⟩
end Go.Proofs.YgvahwGreat
