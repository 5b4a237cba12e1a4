/-
  No cell of these rows narrows 'for every input' (looked for: loops, veiled, ifaces, maps, wideKeys, modest, calm, conditions, laid).
  DERIVED. THE GIVEN ROWS OF THIS SEAT. 1 by the template 'for every input the law returns true; each argument reads behind the call as it read before'; 0 by the template 'total and deterministic' (their statements: YgvahwGreatTotals.lean).
  GIVEN WITH THE SEED: the statements are not yours to turn. If you find one false, say at which input.
  Laid BY PROGRAM, IN A SANDBOX (cutbox-rows.mjs): the forced cells as the released guide's own fill.sh prints them over the translation e9e599d4d1a30b10… (all of the seat's roots in one cut). By AI agents, Wed Nov 11 2026. No macro, syntax, notation, axiom, sorry.
-/
import Derived.Test.YgvahwGreatChecked
import GoSem.Claim
import GoSem.ClaimJoined
import GoSem.ClaimMapViews
import Derived.JoinedTies
import Derived.KernelRfl
namespace Go.Proofs.YgvahwGreat
/- THE CELL 'sum', in the pinned program and in every row, IS THE sha256 OF THE DUMP (.gsa) THAT YgvahwGreatProg.lean LOADS. Nothing in Lean hashes anything: it is a label: what it is worth is what the hold of that sum in a sandbox is worth. -/
noncomputable def Hvah.pinned : Pinned := { name := "ygvahwgreat", sum := "e9e599d4d1a30b10de053caa379e446c0196d410f75e3337df84b0f892544615", checked := Hvah.checked }
namespace Rows
def none {H : Type} : Left H := { results := [], args := [] }

/-- 'law.TowerNoCreate': WHATEVER THE INPUT: true; the input reads as it did. -/
def towerNoCreateSpec : ChangeSpec := { name := "towerNoCreate", fn := fun _ => fun
  | [d1, d2, d3] => { results := [.lit (.bool true)], args := [d1, d2, d3] }
  | _ => none }
def towerNoCreateRow : OpenClaim := { program := "ygvahwgreat", sum := "e9e599d4d1a30b10de053caa379e446c0196d410f75e3337df84b0f892544615", func := "yellow/law.TowerNoCreate", spec := "towerNoCreate", inPlace := ["math/bits.Add64", "math/bits.Sub64"], named := ["math/bits.divideError", "math/bits.overflowError"], apart := false }
def TowerNoCreateSaid : Prop := towerNoCreateRow.holds Hvah.pinned (OpenSpec.ofChange towerNoCreateSpec)

/-- ITS FALSE NEIGHBOUR: 'it returns false'. Refute it at one input. -/
def towerNoCreateWrong : ChangeSpec := { name := "towerNoCreate", fn := fun _ => fun
  | [d1, d2, d3] => { results := [.lit (.bool false)], args := [d1, d2, d3] }
  | _ => none }
def TowerNoCreateWrongFalsely : Prop := towerNoCreateRow.holds Hvah.pinned (OpenSpec.ofChange towerNoCreateWrong)

end Rows
end Go.Proofs.YgvahwGreat
