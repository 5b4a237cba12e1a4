import Derived.Test.YgvahwGreatRows
import Derived.JoinedOf
namespace Go.Proofs.YgvahwGreat
/-! The closed cells of the row, one by one. -/
theorem jf1 : Rows.towerNoCreateRow.wf (OpenSpec.ofChange Rows.towerNoCreateSpec) = true := by kernel_rfl
theorem jf2 : laidOutB Hvah.prog = true := by kernel_rfl
theorem jf3 : mapsRowed Hvah.prog = true := by kernel_rfl
theorem jf4 : Hvah.f3.params.all (Hvah.prog.readableRec ·) = true := by kernel_rfl
theorem jf5 : namedTie Hvah.prog Rows.towerNoCreateRow.named Rows.towerNoCreateSpec.vars = true := by kernel_rfl
theorem jf7 : (Hvah.prog.stops == []) = true := by kernel_rfl
theorem jf9 : (Hvah.prog.stopKnobs == []) = true := by kernel_rfl
theorem jf14 : (Rows.towerNoCreateRow.maps == (Hvah.f3.params.toList ++ Rows.towerNoCreateSpec.plain.varTypes Hvah.prog).any (Hvah.prog.mapsRec ·)) = true := by kernel_rfl
theorem jf15 : (Rows.towerNoCreateRow.ifaces == (Hvah.f3.params.toList ++ Rows.towerNoCreateSpec.plain.varTypes Hvah.prog).any (Hvah.prog.ifacesRec ·)) = true := by kernel_rfl
theorem jf17 : (Rows.towerNoCreateRow.loops == (Hvah.f3.params.toList ++ Rows.towerNoCreateSpec.plain.varTypes Hvah.prog).any (Hvah.prog.loopsFrom ·)) = true := by kernel_rfl
theorem jf23 : (Rows.towerNoCreateRow.plainKeys == Hvah.prog.plainKeys) = true := by kernel_rfl
theorem jf25 : Hvah.prog.stopsHeard = true := by kernel_rfl
theorem jf27 : (Rows.towerNoCreateRow.lifted == Hvah.prog.liftsFinal) = true := by kernel_rfl
theorem jf28 : (Hvah.prog.make == some Rows.towerNoCreateRow.make) = true := by kernel_rfl
theorem jf26 : Hvah.prog.mayEnter = true := by kernel_rfl
end Go.Proofs.YgvahwGreat
