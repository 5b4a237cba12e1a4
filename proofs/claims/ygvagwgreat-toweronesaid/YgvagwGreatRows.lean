/-
  No cell of these rows narrows 'for every input' (looked for: loops, veiled, ifaces, maps, wideKeys, modest, calm, conditions, laid).
  DERIVED. THE GIVEN ROWS OF THIS SEAT. 1 by the template 'for every input the law returns true; each argument reads behind the call as it read before'; 0 by the template 'total and deterministic' (their statements: YgvagwGreatTotals.lean).
  GIVEN WITH THE SEED: the statements are not yours to turn. If you find one false, say at which input.
  Laid BY PROGRAM, IN A SANDBOX (cutbox-rows.mjs): the forced cells as the released guide's own fill.sh prints them over the translation 82e9fbaa2702634f… (all of the seat's roots in one cut). By AI agents, Wed Nov 11 2026. No macro, syntax, notation, axiom, sorry.
-/
import Derived.Test.YgvagwGreatChecked
import GoSem.Claim
import GoSem.ClaimJoined
import GoSem.ClaimMapViews
import Derived.JoinedTies
import Derived.KernelRfl
namespace Go.Proofs.YgvagwGreat
/- THE CELL 'sum', in the pinned program and in every row, IS THE sha256 OF THE DUMP (.gsa) THAT YgvagwGreatProg.lean LOADS. Nothing in Lean hashes anything: it is a label: what it is worth is what the hold of that sum in a sandbox is worth. -/
noncomputable def Hvag.pinned : Pinned := { name := "ygvagwgreat", sum := "82e9fbaa2702634f524eb42e39daf9d22ffc1121a9bd23947dd218ca927bd68e", checked := Hvag.checked }
namespace Rows
def none {H : Type} : Left H := { results := [], args := [] }

/-- 'law.TowerOne': WHATEVER THE INPUT: true; the input reads as it did. -/
def towerOneSpec : ChangeSpec := { name := "towerOne", fn := fun _ => fun
  | [d1, d2, d3] => { results := [.lit (.bool true)], args := [d1, d2, d3] }
  | _ => none }
def towerOneRow : OpenClaim := { program := "ygvagwgreat", sum := "82e9fbaa2702634f524eb42e39daf9d22ffc1121a9bd23947dd218ca927bd68e", func := "yellow/law.TowerOne", spec := "towerOne", inPlace := ["math/bits.Add64", "math/bits.Sub64"], named := ["math/bits.divideError", "math/bits.overflowError"], apart := false }
def TowerOneSaid : Prop := towerOneRow.holds Hvag.pinned (OpenSpec.ofChange towerOneSpec)

/-- ITS FALSE NEIGHBOUR: 'it returns false'. Refute it at one input. -/
def towerOneWrong : ChangeSpec := { name := "towerOne", fn := fun _ => fun
  | [d1, d2, d3] => { results := [.lit (.bool false)], args := [d1, d2, d3] }
  | _ => none }
def TowerOneWrongFalsely : Prop := towerOneRow.holds Hvag.pinned (OpenSpec.ofChange towerOneWrong)

end Rows
end Go.Proofs.YgvagwGreat
