import Derived.Test.YgvagwGreatRows
import Derived.JoinedOf
namespace Go.Proofs.YgvagwGreat
/-! The closed cells of the row, one by one. -/
theorem jf1 : Rows.towerOneRow.wf (OpenSpec.ofChange Rows.towerOneSpec) = true := by kernel_rfl
theorem jf2 : laidOutB Hvag.prog = true := by kernel_rfl
theorem jf3 : mapsRowed Hvag.prog = true := by kernel_rfl
theorem jf4 : Hvag.f3.params.all (Hvag.prog.readableRec ·) = true := by kernel_rfl
theorem jf5 : namedTie Hvag.prog Rows.towerOneRow.named Rows.towerOneSpec.vars = true := by kernel_rfl
theorem jf7 : (Hvag.prog.stops == []) = true := by kernel_rfl
theorem jf9 : (Hvag.prog.stopKnobs == []) = true := by kernel_rfl
theorem jf14 : (Rows.towerOneRow.maps == (Hvag.f3.params.toList ++ Rows.towerOneSpec.plain.varTypes Hvag.prog).any (Hvag.prog.mapsRec ·)) = true := by kernel_rfl
theorem jf15 : (Rows.towerOneRow.ifaces == (Hvag.f3.params.toList ++ Rows.towerOneSpec.plain.varTypes Hvag.prog).any (Hvag.prog.ifacesRec ·)) = true := by kernel_rfl
theorem jf17 : (Rows.towerOneRow.loops == (Hvag.f3.params.toList ++ Rows.towerOneSpec.plain.varTypes Hvag.prog).any (Hvag.prog.loopsFrom ·)) = true := by kernel_rfl
theorem jf23 : (Rows.towerOneRow.plainKeys == Hvag.prog.plainKeys) = true := by kernel_rfl
theorem jf25 : Hvag.prog.stopsHeard = true := by kernel_rfl
theorem jf27 : (Rows.towerOneRow.lifted == Hvag.prog.liftsFinal) = true := by kernel_rfl
theorem jf28 : (Hvag.prog.make == some Rows.towerOneRow.make) = true := by kernel_rfl
theorem jf26 : Hvag.prog.mayEnter = true := by kernel_rfl
end Go.Proofs.YgvagwGreat
