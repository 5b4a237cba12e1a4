import Derived.Test.YgvahwGreatTop
import Derived.Test.YgvahwGreatMachA
namespace Go.Proofs.YgvahwGreat
/-- What the engine tells of the world at a transaction's end. -/
structure EndV (st : ASt) : Prop where
  gone : ∀ a, st.now.gone a = true → a < 2 ^ 160
  slot : ∀ a k, st.now.slot a k < P256
end Go.Proofs.YgvahwGreat
