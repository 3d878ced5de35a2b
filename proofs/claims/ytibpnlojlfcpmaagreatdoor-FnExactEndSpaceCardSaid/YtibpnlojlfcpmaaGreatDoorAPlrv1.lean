/- A part of the proofs of this seat: Plr. -/
import Derived.Test.YtibpnlojlfcpmaaGreatDoorAMk
set_option linter.unusedVariables false
set_option linter.unusedSimpArgs false
set_option maxRecDepth 1000000
namespace Go.Proofs.YtibpnlojlfcpmaaGreatDoor
open Go.RowKit
theorem fOK_iff {t : Tab} {s p : Int} : fOK t s p = true ↔ tv t = true ∧ kval (s, p) = true ∧ 0 ≤ fndI t.fs s p := by
 unfold fOK
 simp only [Bool.and_eq_true, decide_eq_true_eq, and_assoc]
end Go.Proofs.YtibpnlojlfcpmaaGreatDoor
