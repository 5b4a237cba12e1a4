import Derived.Test.YgvahwGreatIb
namespace Go.Proofs.YgvahwGreat
theorem ATx.mostLt {O : Nat → Prop} {w : World} {c : Nat → Value} {t : ATx} (h : TxC O w c t) : t.most < P256 := by
  unfold ATx.most; split
  · exact h.mLt
  · exact h.pLt
theorem ATx.tipLt {O : Nat → Prop} {w : World} {c : Nat → Value} {t : ATx} (h : TxC O w c t) : t.tipF < P256 := by
  unfold ATx.tipF; split
  · exact h.iLt
  · exact h.pLt
end Go.Proofs.YgvahwGreat
