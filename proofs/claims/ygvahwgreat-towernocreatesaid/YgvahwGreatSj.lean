import Derived.Test.YgvahwGreatSiF
import Derived.Test.YgvahwGreatSia
import Derived.Test.YgvahwGreatSib
import Derived.Test.YgvahwGreatSic
import Derived.Test.YgvahwGreatSid
import Derived.Test.YgvahwGreatSie
import Derived.Test.YgvahwGreatSig
import Derived.Test.YgvahwGreatSih
namespace Go.Proofs.YgvahwGreat
open Go.RowKit
set_option linter.unusedSimpArgs false
section
variable {kk : Nat → Value} {O TM TL : Nat → Prop} {w : World} {Y F q n : Nat} {tF : TypeId} {c d : Nat → Value} {W : YW} {start : List (Nat × Nat × Nat)} {st : ASt} {f : AFrame}
theorem yRefusal (hX : YX kk O TM TL w Y F q n tF c d W start st f) (o : Nat) (ho : o < 256) : Calls Hvah.prog 68 #[.pointer (some ⟨Y, 0, none⟩), .pointer (some ⟨F, q, none⟩), .int .u8 o] w fun e w' => ∃ r, e = .returned (.tuple #[.int .u8 (st.refusal f o : Nat), r]) ∧ (st.refusal f o = 0 → NV O w' r (st.cost f o)) ∧ Ext w w' := by
  by_cases h62 : o = 62
  · subst h62; exact yRefusala hX
  by_cases h85 : o = 85
  · subst h85; exact yRefusalb hX
  by_cases h86 : o = 86
  · subst h86; exact yRefusalc hX
  by_cases h87 : o = 87
  · subst h87
    by_cases hv : f.arg 1 = 0
    · exact yRefusald hX hv
    · exact yRefusale hX hv
  by_cases h240 : o = 240
  · subst h240; exact yRefusalg hX
  by_cases h245 : o = 245
  · subst h245; exact yRefusalh hX
  exact yRefusalF hX o ho h62 h85 h86 h87 h240 h245
end
end Go.Proofs.YgvahwGreat
