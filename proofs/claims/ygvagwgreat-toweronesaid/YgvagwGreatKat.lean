import Derived.Test.YgvagwGreatKac0
import Derived.Test.YgvagwGreatKac1
import Derived.Test.YgvagwGreatKac2
import Derived.Test.YgvagwGreatKac3
import Derived.Test.YgvagwGreatKac4
import Derived.Test.YgvagwGreatKac5
import Derived.Test.YgvagwGreatKac6
import Derived.Test.YgvagwGreatKac7
import Derived.Test.YgvagwGreatKs
import Derived.Test.YgvagwGreatPh
namespace Go.Proofs.YgvagwGreat
/-- The engine's round. -/
theorem kRnd : KRnd := kRound0 (ck5 (ck11 (ck19 (ck27 (ck35 (ck44 ck52))))))
/-- The engine's hash. -/
theorem eSum : ESum := fun _ _ _ _ h hl => kSumE0 kRnd h hl
end Go.Proofs.YgvagwGreat
