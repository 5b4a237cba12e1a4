import Derived.Test.YgvahwGreatPpA
import Derived.Test.YgvahwGreatPpB
import Derived.Test.YgvahwGreatPpC
import Derived.Test.YgvahwGreatPpD
import Derived.Test.YgvahwGreatKmx
namespace Go.Proofs.YgvahwGreat
theorem yCreateAddr {O : Nat → Prop} {w : World} {cr n : Nat} {vs : Value} (hc : cr < 2 ^ 160) (hO : Small O w) (hs : NV O w vs n) (h8 : n < 18446744073709551616) : Calls Hvah.prog 54 #[.agg (av cr), vs] w fun e w' => e = .returned (.agg (av (createAddrA cr n))) ∧ Ext w w' := by
  by_cases h0 : n = 0
  · exact yCreateAddrA kSumX hc hO hs h8 h0
  · by_cases h1 : n < 128
    · exact yCreateAddrB kSumX hc hO hs h8 h0 h1
    · by_cases h2 : n < 256
      · exact yCreateAddrC kSumX hc hO hs h8 (by omega) h2
      · exact yCreateAddrD kSumX hc hO hs h8 (by omega)
theorem yCreate2 {O O' : Nat → Prop} {w : World} {cr salt : Nat} {vs v : Value} {init : List Nat} (hc : cr < 2 ^ 160) (hs : NV O w vs salt) (hsl : salt < P256) (hv : NLx O' w v init) (hl : init.length ≤ 1000000) : Calls Hvah.prog 234 #[.agg (av cr), vs, v] w fun e w' => e = .returned (.agg (av (create2AddrA cr salt init))) ∧ Ext w w' := yCreate2Addr kSumX hc hs hsl hv hl
end Go.Proofs.YgvahwGreat
