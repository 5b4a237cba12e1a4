import Derived.Test.YgvahwGreatYpYa
import Derived.Test.YgvahwGreatYpYb
import Derived.Test.YgvahwGreatYpYc
import Derived.Test.YgvahwGreatYpYd
namespace Go.Proofs.YgvahwGreat
open Go.RowKit
section
variable {O : Nat → Prop} {w : World} {va vb vc : Value} {x y z : Nat}
theorem yAlu (o : Nat) (ho : (1 ≤ o ∧ o ≤ 11) ∨ (16 ≤ o ∧ o ≤ 29)) (hO : Small O w) (ha : NV O w va x) (hb : NV O w vb y) (hc : NV O w vc z) (hx : x < P256) (hy : y < P256) (hz : z < P256) : Calls Hvah.prog 238 #[.int .u8 o, va, vb, vc] w fun e w' => ∃ r, e = .returned r ∧ NV O w' r (alu o x y z) ∧ Ext w w' := by
  rcases (show o = 1 ∨ o = 2 ∨ o = 3 ∨ o = 4 ∨ o = 5 ∨ o = 6 ∨ o = 7 ∨ o = 8 ∨ o = 9 ∨ o = 10 ∨ o = 11 ∨ o = 16 ∨ o = 17 ∨ o = 18 ∨ o = 19 ∨ o = 20 ∨ o = 21 ∨ o = 22 ∨ o = 23 ∨ o = 24 ∨ o = 25 ∨ o = 26 ∨ o = 27 ∨ o = 28 ∨ o = 29 by omega) with rfl | rfl | rfl | rfl | rfl | rfl | rfl | rfl | rfl | rfl | rfl | rfl | rfl | rfl | rfl | rfl | rfl | rfl | rfl | rfl | rfl | rfl | rfl | rfl | rfl
  · exact yAlu1 hO ha hb hc hx hy hz
  · exact yAlu2 hO ha hb hc hx hy hz
  · exact yAlu3 hO ha hb hc hx hy hz
  · exact yAlu4 hO ha hb hc hx hy hz
  · exact yAlu5 hO ha hb hc hx hy hz
  · exact yAlu6 hO ha hb hc hx hy hz
  · exact yAlu7 hO ha hb hc hx hy hz
  · exact yAlu8 hO ha hb hc hx hy hz
  · exact yAlu9 hO ha hb hc hx hy hz
  · exact yAlu10 hO ha hb hc hx hy hz
  · exact yAlu11 hO ha hb hc hx hy hz
  · exact yAlu16 hO ha hb hc hx hy hz
  · exact yAlu17 hO ha hb hc hx hy hz
  · exact yAlu18 hO ha hb hc hx hy hz
  · exact yAlu19 hO ha hb hc hx hy hz
  · exact yAlu20 hO ha hb hc hx hy hz
  · exact yAlu21 hO ha hb hc hx hy hz
  · exact yAlu22 hO ha hb hc hx hy hz
  · exact yAlu23 hO ha hb hc hx hy hz
  · exact yAlu24 hO ha hb hc hx hy hz
  · exact yAlu25 hO ha hb hc hx hy hz
  · exact yAlu26 hO ha hb hc hx hy hz
  · exact yAlu27 hO ha hb hc hx hy hz
  · exact yAlu28 hO ha hb hc hx hy hz
  · exact yAlu29 hO ha hb hc hx hy hz
end
end Go.Proofs.YgvahwGreat
