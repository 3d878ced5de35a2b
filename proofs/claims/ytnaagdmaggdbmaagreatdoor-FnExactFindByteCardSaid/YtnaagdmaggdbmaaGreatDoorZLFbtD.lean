/- A part of the proofs of this seat: LFbtD. -/
import Derived.Test.YtnaagdmaggdbmaaGreatDoorKG
set_option linter.unusedVariables false
set_option linter.unusedSimpArgs false
namespace Go.Proofs.YtnaagdmaggdbmaaGreatDoor.lExactFindByte
open Go.ChangeShapes Go.WideShapes Go.ChangeAt Go.RowKit Go.Joins
set_option maxRecDepth 1000000
set_option maxRecDepth 100000 in
theorem closed : joinedFacts Tryz.prog 9 Tryz.f9 Rows.fnExactFindByteSpec Rows.fnExactFindByteRow = true := by
  unfold joinedFacts
  rw [may_enter, lifts_final, make_cut]
  refine Eq.trans ?_ (Eq.refl _)
  kernel_rfl
end Go.Proofs.YtnaagdmaggdbmaaGreatDoor.lExactFindByte
