/-
  No cell of these rows narrows 'for every input' (looked for: loops, veiled, ifaces, maps, wideKeys, modest, calm, conditions, laid).
  DERIVED. THE GIVEN ROWS OF THIS SEAT. 8 by the template 'for every input the law returns true; each argument reads behind the call as it read before'; 0 by the template 'total and deterministic' (their statements: YtebodfciiikokaaTotals.lean).
  GIVEN WITH THE SEED: the statements are not yours to turn. If you find one false, say at which input.
  Laid BY PROGRAM, IN A SANDBOX (cutbox-rows.mjs): the forced cells as the released guide's own fill.sh prints them over the translation 5a4f23b02d023c0b… (all of the seat's roots in one cut). By AI agents, Wed Nov 11 2026. No macro, syntax, notation, axiom, sorry.
-/
import Derived.Test.YtebodfciiikokaaChecked
import GoSem.Claim
import GoSem.ClaimJoined
import GoSem.ClaimMapViews
import Derived.JoinedTies
import Derived.KernelRfl
namespace Go.Proofs.Ytebodfciiikokaa
/- THE CELL 'sum', in the pinned program and in every row, IS THE sha256 OF THE DUMP (.gsa) THAT YtebodfciiikokaaProg.lean LOADS. Nothing in Lean hashes anything: it is a label: what it is worth is what the hold of that sum in a sandbox is worth. -/
noncomputable def Try.pinned : Pinned := { name := "ytebodfciiikokaa", sum := "5a4f23b02d023c0b99da0e0136367fcbfbf8b56b8878cc8da73315577d3ef21b", checked := Try.checked }
namespace Rows
def none {H : Type} : Left H := { results := [], args := [] }

/-- 'laws.FnLinesCurve': WHATEVER THE INPUT: true; the input reads as it did. -/
def fnLinesCurveSpec : ChangeSpec := { name := "fnLinesCurve", fn := fun _ => fun
  | [d] => { results := [.lit (.bool true)], args := [d] }
  | _ => none }
def fnLinesCurveRow : OpenClaim := { program := "ytebodfciiikokaa", sum := "5a4f23b02d023c0b99da0e0136367fcbfbf8b56b8878cc8da73315577d3ef21b", func := "loop.example/invertedpages/laws.FnLinesCurve", spec := "fnLinesCurve", unfollowed := true, recurses := true, plainKeys := false, apart := false }
def FnLinesCurveSaid : Prop := fnLinesCurveRow.holds Try.pinned (OpenSpec.ofChange fnLinesCurveSpec)

/-- ITS FALSE NEIGHBOUR: 'it returns false'. Refute it at one input. -/
def fnLinesCurveWrong : ChangeSpec := { name := "fnLinesCurve", fn := fun _ => fun
  | [d] => { results := [.lit (.bool false)], args := [d] }
  | _ => none }
def FnLinesCurveWrongFalsely : Prop := fnLinesCurveRow.holds Try.pinned (OpenSpec.ofChange fnLinesCurveWrong)

/-- 'laws.FnHitCurve': WHATEVER THE INPUT: true; the input reads as it did. -/
def fnHitCurveSpec : ChangeSpec := { name := "fnHitCurve", fn := fun _ => fun
  | [d] => { results := [.lit (.bool true)], args := [d] }
  | _ => none }
def fnHitCurveRow : OpenClaim := { program := "ytebodfciiikokaa", sum := "5a4f23b02d023c0b99da0e0136367fcbfbf8b56b8878cc8da73315577d3ef21b", func := "loop.example/invertedpages/laws.FnHitCurve", spec := "fnHitCurve", unfollowed := true, recurses := true, plainKeys := false, apart := false }
def FnHitCurveSaid : Prop := fnHitCurveRow.holds Try.pinned (OpenSpec.ofChange fnHitCurveSpec)

/-- ITS FALSE NEIGHBOUR: 'it returns false'. Refute it at one input. -/
def fnHitCurveWrong : ChangeSpec := { name := "fnHitCurve", fn := fun _ => fun
  | [d] => { results := [.lit (.bool false)], args := [d] }
  | _ => none }
def FnHitCurveWrongFalsely : Prop := fnHitCurveRow.holds Try.pinned (OpenSpec.ofChange fnHitCurveWrong)

/-- 'laws.FnExactLinesFor': WHATEVER THE INPUT: true; the input reads as it did. -/
def fnExactLinesForSpec : ChangeSpec := { name := "fnExactLinesFor", fn := fun _ => fun
  | [d1, d2] => { results := [.lit (.bool true)], args := [d1, d2] }
  | _ => none }
def fnExactLinesForRow : OpenClaim := { program := "ytebodfciiikokaa", sum := "5a4f23b02d023c0b99da0e0136367fcbfbf8b56b8878cc8da73315577d3ef21b", func := "loop.example/invertedpages/laws.FnExactLinesFor", spec := "fnExactLinesFor", unfollowed := true, recurses := true, plainKeys := false, apart := false }
def FnExactLinesForSaid : Prop := fnExactLinesForRow.holds Try.pinned (OpenSpec.ofChange fnExactLinesForSpec)

/-- ITS FALSE NEIGHBOUR: 'it returns false'. Refute it at one input. -/
def fnExactLinesForWrong : ChangeSpec := { name := "fnExactLinesFor", fn := fun _ => fun
  | [d1, d2] => { results := [.lit (.bool false)], args := [d1, d2] }
  | _ => none }
def FnExactLinesForWrongFalsely : Prop := fnExactLinesForRow.holds Try.pinned (OpenSpec.ofChange fnExactLinesForWrong)

/-- 'laws.FnLinesFor': WHATEVER THE INPUT: true; the input reads as it did. -/
def fnLinesForSpec : ChangeSpec := { name := "fnLinesFor", fn := fun _ => fun
  | [d] => { results := [.lit (.bool true)], args := [d] }
  | _ => none }
def fnLinesForRow : OpenClaim := { program := "ytebodfciiikokaa", sum := "5a4f23b02d023c0b99da0e0136367fcbfbf8b56b8878cc8da73315577d3ef21b", func := "loop.example/invertedpages/laws.FnLinesFor", spec := "fnLinesFor", unfollowed := true, recurses := true, plainKeys := false, apart := false }
def FnLinesForSaid : Prop := fnLinesForRow.holds Try.pinned (OpenSpec.ofChange fnLinesForSpec)

/-- ITS FALSE NEIGHBOUR: 'it returns false'. Refute it at one input. -/
def fnLinesForWrong : ChangeSpec := { name := "fnLinesFor", fn := fun _ => fun
  | [d] => { results := [.lit (.bool false)], args := [d] }
  | _ => none }
def FnLinesForWrongFalsely : Prop := fnLinesForRow.holds Try.pinned (OpenSpec.ofChange fnLinesForWrong)

/-- 'laws.FnLruDistance': WHATEVER THE INPUT: true; the input reads as it did. -/
def fnLruDistanceSpec : ChangeSpec := { name := "fnLruDistance", fn := fun _ => fun
  | [d] => { results := [.lit (.bool true)], args := [d] }
  | _ => none }
def fnLruDistanceRow : OpenClaim := { program := "ytebodfciiikokaa", sum := "5a4f23b02d023c0b99da0e0136367fcbfbf8b56b8878cc8da73315577d3ef21b", func := "loop.example/invertedpages/laws.FnLruDistance", spec := "fnLruDistance", unfollowed := true, recurses := true, plainKeys := false, apart := false }
def FnLruDistanceSaid : Prop := fnLruDistanceRow.holds Try.pinned (OpenSpec.ofChange fnLruDistanceSpec)

/-- ITS FALSE NEIGHBOUR: 'it returns false'. Refute it at one input. -/
def fnLruDistanceWrong : ChangeSpec := { name := "fnLruDistance", fn := fun _ => fun
  | [d] => { results := [.lit (.bool false)], args := [d] }
  | _ => none }
def FnLruDistanceWrongFalsely : Prop := fnLruDistanceRow.holds Try.pinned (OpenSpec.ofChange fnLruDistanceWrong)

/-- 'laws.FnHitsFifo': WHATEVER THE INPUT: true; the input reads as it did. -/
def fnHitsFifoSpec : ChangeSpec := { name := "fnHitsFifo", fn := fun _ => fun
  | [d] => { results := [.lit (.bool true)], args := [d] }
  | _ => none }
def fnHitsFifoRow : OpenClaim := { program := "ytebodfciiikokaa", sum := "5a4f23b02d023c0b99da0e0136367fcbfbf8b56b8878cc8da73315577d3ef21b", func := "loop.example/invertedpages/laws.FnHitsFifo", spec := "fnHitsFifo", unfollowed := true, recurses := true, plainKeys := false, apart := false }
def FnHitsFifoSaid : Prop := fnHitsFifoRow.holds Try.pinned (OpenSpec.ofChange fnHitsFifoSpec)

/-- ITS FALSE NEIGHBOUR: 'it returns false'. Refute it at one input. -/
def fnHitsFifoWrong : ChangeSpec := { name := "fnHitsFifo", fn := fun _ => fun
  | [d] => { results := [.lit (.bool false)], args := [d] }
  | _ => none }
def FnHitsFifoWrongFalsely : Prop := fnHitsFifoRow.holds Try.pinned (OpenSpec.ofChange fnHitsFifoWrong)

/-- 'laws.FnCurveBest': WHATEVER THE INPUT: true; the input reads as it did. -/
def fnCurveBestSpec : ChangeSpec := { name := "fnCurveBest", fn := fun _ => fun
  | [d] => { results := [.lit (.bool true)], args := [d] }
  | _ => none }
def fnCurveBestRow : OpenClaim := { program := "ytebodfciiikokaa", sum := "5a4f23b02d023c0b99da0e0136367fcbfbf8b56b8878cc8da73315577d3ef21b", func := "loop.example/invertedpages/laws.FnCurveBest", spec := "fnCurveBest", unfollowed := true, recurses := true, plainKeys := false, apart := false }
def FnCurveBestSaid : Prop := fnCurveBestRow.holds Try.pinned (OpenSpec.ofChange fnCurveBestSpec)

/-- ITS FALSE NEIGHBOUR: 'it returns false'. Refute it at one input. -/
def fnCurveBestWrong : ChangeSpec := { name := "fnCurveBest", fn := fun _ => fun
  | [d] => { results := [.lit (.bool false)], args := [d] }
  | _ => none }
def FnCurveBestWrongFalsely : Prop := fnCurveBestRow.holds Try.pinned (OpenSpec.ofChange fnCurveBestWrong)

/-- 'laws.FnExactHitCurve': WHATEVER THE INPUT: true; the input reads as it did. -/
def fnExactHitCurveSpec : ChangeSpec := { name := "fnExactHitCurve", fn := fun _ => fun
  | [d] => { results := [.lit (.bool true)], args := [d] }
  | _ => none }
def fnExactHitCurveRow : OpenClaim := { program := "ytebodfciiikokaa", sum := "5a4f23b02d023c0b99da0e0136367fcbfbf8b56b8878cc8da73315577d3ef21b", func := "loop.example/invertedpages/laws.FnExactHitCurve", spec := "fnExactHitCurve", unfollowed := true, recurses := true, plainKeys := false, apart := false }
def FnExactHitCurveSaid : Prop := fnExactHitCurveRow.holds Try.pinned (OpenSpec.ofChange fnExactHitCurveSpec)

/-- ITS FALSE NEIGHBOUR: 'it returns false'. Refute it at one input. -/
def fnExactHitCurveWrong : ChangeSpec := { name := "fnExactHitCurve", fn := fun _ => fun
  | [d] => { results := [.lit (.bool false)], args := [d] }
  | _ => none }
def FnExactHitCurveWrongFalsely : Prop := fnExactHitCurveRow.holds Try.pinned (OpenSpec.ofChange fnExactHitCurveWrong)

/- THE SECOND FORM. 'bulk': how many values and letters a reading holds, each counted each time it is reached (what is shared counts as often as it is met; a slice's spare places count too). A statement '..UptoSaid' is the law's where the arguments, and the package variables that the reading takes, are together of bulk at most 1048576: NARROWER than '..Said'. Prove '..Said' where nothing that the law and all that it calls make is longer than what came in: it says more and counts as full. Else prove '..UptoSaid'. A law counts once. -/
mutual
def uptoBulk {H : Type} : DataW H → Nat
  | .lit (.string bytes) => bytes.length + 1
  | .lit _ => 1
  | .nil => 1
  | .ptr d => uptoBulk d + 1
  | .slice elems spare => uptoBulkAll elems + uptoBulkAll spare + 1
  | .agg parts => uptoBulkAll parts + 1
  | .iface _ d => uptoBulk d + 1
  | .map entries => uptoBulkEntries entries + 1
  | .held _ => 1
def uptoBulkAll {H : Type} : List (DataW H) → Nat
  | [] => 0
  | d :: r => uptoBulk d + uptoBulkAll r
def uptoBulkEntries {H : Type} : List (Lit × DataW H) → Nat
  | [] => 0
  | x :: r => uptoBulkEntry x + uptoBulkEntries r
def uptoBulkEntry {H : Type} : Lit × DataW H → Nat
  | (.string bytes, d) => bytes.length + uptoBulk d + 1
  | (_, d) => uptoBulk d + 1
 end
def uptoSmall : (H : Type) → List (DataW H) → Bool := fun _ ds => decide (uptoBulkAll ds ≤ 1048576)
def OpenSpec.upto (s : _root_.Go.ChangeSpec) : _root_.Go.OpenSpec := { _root_.Go.OpenSpec.ofChange s with cond := some uptoSmall }

/-- 'laws.FnLinesCurve', WHERE WHAT IT READS IS OF BULK AT MOST 1048576: true; the input reads as it did. -/
def fnLinesCurveUptoRow : OpenClaim := { program := "ytebodfciiikokaa", sum := "5a4f23b02d023c0b99da0e0136367fcbfbf8b56b8878cc8da73315577d3ef21b", func := "loop.example/invertedpages/laws.FnLinesCurve", spec := "fnLinesCurve", unfollowed := true, recurses := true, plainKeys := false, apart := false, narrowed := true }
def FnLinesCurveUptoSaid : Prop := fnLinesCurveUptoRow.holds Try.pinned (OpenSpec.upto fnLinesCurveSpec)

/-- 'laws.FnHitCurve', WHERE WHAT IT READS IS OF BULK AT MOST 1048576: true; the input reads as it did. -/
def fnHitCurveUptoRow : OpenClaim := { program := "ytebodfciiikokaa", sum := "5a4f23b02d023c0b99da0e0136367fcbfbf8b56b8878cc8da73315577d3ef21b", func := "loop.example/invertedpages/laws.FnHitCurve", spec := "fnHitCurve", unfollowed := true, recurses := true, plainKeys := false, apart := false, narrowed := true }
def FnHitCurveUptoSaid : Prop := fnHitCurveUptoRow.holds Try.pinned (OpenSpec.upto fnHitCurveSpec)

/-- 'laws.FnExactLinesFor', WHERE WHAT IT READS IS OF BULK AT MOST 1048576: true; the input reads as it did. -/
def fnExactLinesForUptoRow : OpenClaim := { program := "ytebodfciiikokaa", sum := "5a4f23b02d023c0b99da0e0136367fcbfbf8b56b8878cc8da73315577d3ef21b", func := "loop.example/invertedpages/laws.FnExactLinesFor", spec := "fnExactLinesFor", unfollowed := true, recurses := true, plainKeys := false, apart := false, narrowed := true }
def FnExactLinesForUptoSaid : Prop := fnExactLinesForUptoRow.holds Try.pinned (OpenSpec.upto fnExactLinesForSpec)

/-- 'laws.FnLinesFor', WHERE WHAT IT READS IS OF BULK AT MOST 1048576: true; the input reads as it did. -/
def fnLinesForUptoRow : OpenClaim := { program := "ytebodfciiikokaa", sum := "5a4f23b02d023c0b99da0e0136367fcbfbf8b56b8878cc8da73315577d3ef21b", func := "loop.example/invertedpages/laws.FnLinesFor", spec := "fnLinesFor", unfollowed := true, recurses := true, plainKeys := false, apart := false, narrowed := true }
def FnLinesForUptoSaid : Prop := fnLinesForUptoRow.holds Try.pinned (OpenSpec.upto fnLinesForSpec)

/-- 'laws.FnLruDistance', WHERE WHAT IT READS IS OF BULK AT MOST 1048576: true; the input reads as it did. -/
def fnLruDistanceUptoRow : OpenClaim := { program := "ytebodfciiikokaa", sum := "5a4f23b02d023c0b99da0e0136367fcbfbf8b56b8878cc8da73315577d3ef21b", func := "loop.example/invertedpages/laws.FnLruDistance", spec := "fnLruDistance", unfollowed := true, recurses := true, plainKeys := false, apart := false, narrowed := true }
def FnLruDistanceUptoSaid : Prop := fnLruDistanceUptoRow.holds Try.pinned (OpenSpec.upto fnLruDistanceSpec)

/-- 'laws.FnHitsFifo', WHERE WHAT IT READS IS OF BULK AT MOST 1048576: true; the input reads as it did. -/
def fnHitsFifoUptoRow : OpenClaim := { program := "ytebodfciiikokaa", sum := "5a4f23b02d023c0b99da0e0136367fcbfbf8b56b8878cc8da73315577d3ef21b", func := "loop.example/invertedpages/laws.FnHitsFifo", spec := "fnHitsFifo", unfollowed := true, recurses := true, plainKeys := false, apart := false, narrowed := true }
def FnHitsFifoUptoSaid : Prop := fnHitsFifoUptoRow.holds Try.pinned (OpenSpec.upto fnHitsFifoSpec)

/-- 'laws.FnCurveBest', WHERE WHAT IT READS IS OF BULK AT MOST 1048576: true; the input reads as it did. -/
def fnCurveBestUptoRow : OpenClaim := { program := "ytebodfciiikokaa", sum := "5a4f23b02d023c0b99da0e0136367fcbfbf8b56b8878cc8da73315577d3ef21b", func := "loop.example/invertedpages/laws.FnCurveBest", spec := "fnCurveBest", unfollowed := true, recurses := true, plainKeys := false, apart := false, narrowed := true }
def FnCurveBestUptoSaid : Prop := fnCurveBestUptoRow.holds Try.pinned (OpenSpec.upto fnCurveBestSpec)

/-- 'laws.FnExactHitCurve', WHERE WHAT IT READS IS OF BULK AT MOST 1048576: true; the input reads as it did. -/
def fnExactHitCurveUptoRow : OpenClaim := { program := "ytebodfciiikokaa", sum := "5a4f23b02d023c0b99da0e0136367fcbfbf8b56b8878cc8da73315577d3ef21b", func := "loop.example/invertedpages/laws.FnExactHitCurve", spec := "fnExactHitCurve", unfollowed := true, recurses := true, plainKeys := false, apart := false, narrowed := true }
def FnExactHitCurveUptoSaid : Prop := fnExactHitCurveUptoRow.holds Try.pinned (OpenSpec.upto fnExactHitCurveSpec)

end Rows
end Go.Proofs.Ytebodfciiikokaa
