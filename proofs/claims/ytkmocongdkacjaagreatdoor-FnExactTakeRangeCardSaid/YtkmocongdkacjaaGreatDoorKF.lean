/- A part of the proofs of this seat: Main. -/
import Derived.Test.YtkmocongdkacjaaGreatDoorKE
import Derived.Test.YtkmocongdkacjaaGreatDoorCards
set_option linter.unusedVariables false
set_option linter.unusedSimpArgs false
namespace Go.Proofs.YtkmocongdkacjaaGreatDoor
set_option maxRecDepth 100000
theorem main_is : Tryz.prog.mainIs = some (true, ("d3fb1dab74d4de93346e5c6523bea93b9d9ac4ee33523e5d7f68d95f68271bbc" : String).toList) := by
  have h := chars_of (s := Tryz.prog.initOrder) rfl
  unfold Program.mainIs
  rw [h]
  refine Eq.trans ?_ (Eq.refl _)
  kernel_rfl
end Go.Proofs.YtkmocongdkacjaaGreatDoor
