import Derived.Test.YgvahwGreatLb
import Derived.Test.YgvahwGreatNx1
import Derived.Test.YgvahwGreatYr
import Derived.Test.YgvahwGreatYS
namespace Go.Proofs.YgvahwGreat
open Go.RowKit
theorem RecC.keepW {O S : Nat → Prop} {w w' : World} {c : Nat → Value} {r : ARec} (h : RecC O w c r) (m : Mod S w w') (hs : ∀ b, ¬ O b → ¬ S b) : RecC O w' c r :=
  { h with out := h.out.keepS m hs, logs := h.logs.keepS m hs (fun _ _ _ k => k.keep m hs) }
theorem RecC.reoW {O O' : Nat → Prop} {w : World} {c : Nat → Value} {r : ARec} (h : RecC O w c r) (hr : ∀ b, b < w.heap.size → O' b → O b) : RecC O' w c r :=
  { h with out := h.out.reoS hr, logs := h.logs.reoS hr (fun _ _ _ k => k.reo hr) }
end Go.Proofs.YgvahwGreat
