import Derived.Test.YgvahwGreatPlA
import Derived.Test.YgvahwGreatPlB
import Derived.Test.YgvahwGreatPlC
namespace Go.Proofs.YgvahwGreat
theorem mCreateAddr {w : World} {cr n : Nat} (hc : cr < 2 ^ 160) (h8 : n < 18446744073709551616) : Calls Hvah.prog 102 #[.agg (av cr), .int .u64 n] w fun e w' => e = .returned (.agg (av (createAddrA cr n))) ∧ Ext w w' := by
  by_cases h0 : n = 0
  · exact mCreateAddrA hc h8 h0
  · by_cases h1 : n < 128
    · exact mCreateAddrB hc h8 h0 h1
    · exact mCreateAddrC hc h8 (by omega)
end Go.Proofs.YgvahwGreat
