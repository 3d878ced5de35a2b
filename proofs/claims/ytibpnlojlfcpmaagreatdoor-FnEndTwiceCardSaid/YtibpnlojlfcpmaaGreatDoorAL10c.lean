/- A part of the proofs of this seat: L10c. -/
import Derived.Test.YtibpnlojlfcpmaaGreatDoorADpr
set_option linter.unusedVariables false
set_option linter.unusedSimpArgs false
set_option maxRecDepth 1000000
namespace Go.Proofs.YtibpnlojlfcpmaaGreatDoor
open Go.RowKit
def L10P (w : World) (v : Value) (w' : World) : Prop := ∃ (m : Ma) (v1 v2 v3 v4 : Value), v = .agg #[v1, v2, v3, .int .i64 m.c.hand, .int .i64 m.g.count, .int .i64 m.g.next, .int .i64 m.g.round, v4, .int .i64 m.sp] ∧ MaM w.heap.size w' v1 v2 v3 v4 m ∧ Sz 19 m ∧ Below w.heap.size w w'
end Go.Proofs.YtibpnlojlfcpmaaGreatDoor
