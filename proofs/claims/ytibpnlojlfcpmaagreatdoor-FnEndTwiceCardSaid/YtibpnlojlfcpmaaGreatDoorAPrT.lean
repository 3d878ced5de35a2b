/- A part of the proofs of this seat: PrT. -/
import Derived.Test.YtibpnlojlfcpmaaGreatDoorAMk
import Derived.Test.YtibpnlojlfcpmaaGreatDoorAOth
import Derived.Test.YtibpnlojlfcpmaaGreatDoorAKyP
set_option linter.unusedVariables false
set_option linter.unusedSimpArgs false
set_option maxRecDepth 1000000
namespace Go.Proofs.YtibpnlojlfcpmaaGreatDoor
open Go.RowKit
theorem fndI_none {fs : List Fr} {s p : Int} (h : fnd fs s p = none) : fndI fs s p = -1 := by unfold fndI; rw [h]
end Go.Proofs.YtibpnlojlfcpmaaGreatDoor
