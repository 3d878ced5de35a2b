/- A part of the proofs of this seat: Main. -/
import Derived.Test.YtnaagdmaggdbmaaGreatDoorKE
import Derived.Test.YtnaagdmaggdbmaaGreatDoorCards
set_option linter.unusedVariables false
set_option linter.unusedSimpArgs false
namespace Go.Proofs.YtnaagdmaggdbmaaGreatDoor
set_option maxRecDepth 100000
theorem main_is : Tryz.prog.mainIs = some (true, ("b52c73bd0f57e1e1fda4b36c52bbd12a9fda5143d317739edc23f03956921a65" : String).toList) := by
  have h := chars_of (s := Tryz.prog.initOrder) rfl
  unfold Program.mainIs
  rw [h]
  refine Eq.trans ?_ (Eq.refl _)
  kernel_rfl
end Go.Proofs.YtnaagdmaggdbmaaGreatDoor
