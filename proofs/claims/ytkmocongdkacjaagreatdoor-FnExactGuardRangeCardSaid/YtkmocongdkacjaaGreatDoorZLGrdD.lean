/- A part of the proofs of this seat: LGrdD. -/
import Derived.Test.YtkmocongdkacjaaGreatDoorKG
set_option linter.unusedVariables false
set_option linter.unusedSimpArgs false
namespace Go.Proofs.YtkmocongdkacjaaGreatDoor.lExactGuardRange
open Go.ChangeShapes Go.WideShapes Go.ChangeAt Go.RowKit Go.Joins
set_option maxRecDepth 1000000
set_option maxRecDepth 100000 in
theorem closed : joinedFacts Tryz.prog 8 Tryz.f8 Rows.fnExactGuardRangeSpec Rows.fnExactGuardRangeRow = true := by
  unfold joinedFacts
  rw [may_enter, lifts_final, make_cut]
  refine Eq.trans ?_ (Eq.refl _)
  kernel_rfl
end Go.Proofs.YtkmocongdkacjaaGreatDoor.lExactGuardRange
