/- A part of the proofs of this seat: Copy. -/
import Derived.Laws.Cover3
import Derived.Test.YtibpnlojlfcpmaaGreatDoorACopy
set_option linter.unusedVariables false
set_option linter.unusedSimpArgs false
set_option maxRecDepth 1000000
namespace Go.Proofs.YtibpnlojlfcpmaaGreatDoor
open Go.RowKit
theorem clipOwn_p (A : Option Addr) (n c : Nat) (w : World) (hn : n ≤ c) : Calls Tryz.prog 154 #[.slice A n c] w (Post2 fun v w' => v = .slice A n n ∧ w = w') := (clipOwn_any A n c w hn).mono fun _ _ h => ⟨_, h.1, rfl, h.2⟩
end Go.Proofs.YtibpnlojlfcpmaaGreatDoor
