import Derived.Test.YgvahwGreatKac0
import Derived.Test.YgvahwGreatKac1
import Derived.Test.YgvahwGreatKac2
import Derived.Test.YgvahwGreatKac3
import Derived.Test.YgvahwGreatKac4
import Derived.Test.YgvahwGreatKac5
import Derived.Test.YgvahwGreatKac6
import Derived.Test.YgvahwGreatKac7
import Derived.Test.YgvahwGreatKs
import Derived.Test.YgvahwGreatPh
namespace Go.Proofs.YgvahwGreat
/-- The engine's round. -/
theorem kRnd : KRnd := kRound0 (ck5 (ck11 (ck19 (ck27 (ck35 (ck44 ck52))))))
/-- The engine's hash. -/
theorem eSum : ESum := fun _ _ _ _ h hl => kSumE0 kRnd h hl
end Go.Proofs.YgvahwGreat
