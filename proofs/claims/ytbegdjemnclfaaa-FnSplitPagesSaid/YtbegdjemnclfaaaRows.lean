/-
  No cell of these rows narrows 'for every input' (looked for: loops, veiled, ifaces, maps, wideKeys, modest, calm, conditions, laid).
  DERIVED. THE GIVEN ROWS OF THIS SEAT. 9 by the template 'for every input the law returns true; each argument reads behind the call as it read before'; 0 by the template 'total and deterministic' (their statements: YtbegdjemnclfaaaTotals.lean).
  GIVEN WITH THE SEED: the statements are not yours to turn. If you find one false, say at which input.
  Laid BY PROGRAM, IN A SANDBOX (cutbox-rows.mjs): the forced cells as the released guide's own fill.sh prints them over the translation 2c099f71611f757a… (all of the seat's roots in one cut). By AI agents, Wed Nov 11 2026. No macro, syntax, notation, axiom, sorry.
-/
import Derived.Test.YtbegdjemnclfaaaChecked
import GoSem.Claim
import GoSem.ClaimJoined
import GoSem.ClaimMapViews
import Derived.JoinedTies
import Derived.KernelRfl
namespace Go.Proofs.Ytbegdjemnclfaaa
/- THE CELL 'sum', in the pinned program and in every row, IS THE sha256 OF THE DUMP (.gsa) THAT YtbegdjemnclfaaaProg.lean LOADS. Nothing in Lean hashes anything: it is a label: what it is worth is what the hold of that sum in a sandbox is worth. -/
noncomputable def Try.pinned : Pinned := { name := "ytbegdjemnclfaaa", sum := "2c099f71611f757a84752202a1edf4acb2c1dc021b1c205106e4d737c9259bfa", checked := Try.checked }
namespace Rows
def none {H : Type} : Left H := { results := [], args := [] }

/-- 'laws.FnWorkingHit': WHATEVER THE INPUT: true; the input reads as it did. -/
def fnWorkingHitSpec : ChangeSpec := { name := "fnWorkingHit", fn := fun _ => fun
  | [d] => { results := [.lit (.bool true)], args := [d] }
  | _ => none }
def fnWorkingHitRow : OpenClaim := { program := "ytbegdjemnclfaaa", sum := "2c099f71611f757a84752202a1edf4acb2c1dc021b1c205106e4d737c9259bfa", func := "loop.example/invertedpages/laws.FnWorkingHit", spec := "fnWorkingHit", unfollowed := true, recurses := true, plainKeys := false, apart := false }
def FnWorkingHitSaid : Prop := fnWorkingHitRow.holds Try.pinned (OpenSpec.ofChange fnWorkingHitSpec)

/-- ITS FALSE NEIGHBOUR: 'it returns false'. Refute it at one input. -/
def fnWorkingHitWrong : ChangeSpec := { name := "fnWorkingHit", fn := fun _ => fun
  | [d] => { results := [.lit (.bool false)], args := [d] }
  | _ => none }
def FnWorkingHitWrongFalsely : Prop := fnWorkingHitRow.holds Try.pinned (OpenSpec.ofChange fnWorkingHitWrong)

/-- 'laws.FnWorkingSets': WHATEVER THE INPUT: true; the input reads as it did. -/
def fnWorkingSetsSpec : ChangeSpec := { name := "fnWorkingSets", fn := fun _ => fun
  | [d] => { results := [.lit (.bool true)], args := [d] }
  | _ => none }
def fnWorkingSetsRow : OpenClaim := { program := "ytbegdjemnclfaaa", sum := "2c099f71611f757a84752202a1edf4acb2c1dc021b1c205106e4d737c9259bfa", func := "loop.example/invertedpages/laws.FnWorkingSets", spec := "fnWorkingSets", unfollowed := true, recurses := true, plainKeys := false, apart := false }
def FnWorkingSetsSaid : Prop := fnWorkingSetsRow.holds Try.pinned (OpenSpec.ofChange fnWorkingSetsSpec)

/-- ITS FALSE NEIGHBOUR: 'it returns false'. Refute it at one input. -/
def fnWorkingSetsWrong : ChangeSpec := { name := "fnWorkingSets", fn := fun _ => fun
  | [d] => { results := [.lit (.bool false)], args := [d] }
  | _ => none }
def FnWorkingSetsWrongFalsely : Prop := fnWorkingSetsRow.holds Try.pinned (OpenSpec.ofChange fnWorkingSetsWrong)

/-- 'laws.FnDistanceNext': WHATEVER THE INPUT: true; the input reads as it did. -/
def fnDistanceNextSpec : ChangeSpec := { name := "fnDistanceNext", fn := fun _ => fun
  | [d] => { results := [.lit (.bool true)], args := [d] }
  | _ => none }
def fnDistanceNextRow : OpenClaim := { program := "ytbegdjemnclfaaa", sum := "2c099f71611f757a84752202a1edf4acb2c1dc021b1c205106e4d737c9259bfa", func := "loop.example/invertedpages/laws.FnDistanceNext", spec := "fnDistanceNext", unfollowed := true, recurses := true, plainKeys := false, apart := false }
def FnDistanceNextSaid : Prop := fnDistanceNextRow.holds Try.pinned (OpenSpec.ofChange fnDistanceNextSpec)

/-- ITS FALSE NEIGHBOUR: 'it returns false'. Refute it at one input. -/
def fnDistanceNextWrong : ChangeSpec := { name := "fnDistanceNext", fn := fun _ => fun
  | [d] => { results := [.lit (.bool false)], args := [d] }
  | _ => none }
def FnDistanceNextWrongFalsely : Prop := fnDistanceNextRow.holds Try.pinned (OpenSpec.ofChange fnDistanceNextWrong)

/-- 'laws.FnDistancesOf': WHATEVER THE INPUT: true; the input reads as it did. -/
def fnDistancesOfSpec : ChangeSpec := { name := "fnDistancesOf", fn := fun _ => fun
  | [d] => { results := [.lit (.bool true)], args := [d] }
  | _ => none }
def fnDistancesOfRow : OpenClaim := { program := "ytbegdjemnclfaaa", sum := "2c099f71611f757a84752202a1edf4acb2c1dc021b1c205106e4d737c9259bfa", func := "loop.example/invertedpages/laws.FnDistancesOf", spec := "fnDistancesOf", unfollowed := true, recurses := true, plainKeys := false, apart := false }
def FnDistancesOfSaid : Prop := fnDistancesOfRow.holds Try.pinned (OpenSpec.ofChange fnDistancesOfSpec)

/-- ITS FALSE NEIGHBOUR: 'it returns false'. Refute it at one input. -/
def fnDistancesOfWrong : ChangeSpec := { name := "fnDistancesOf", fn := fun _ => fun
  | [d] => { results := [.lit (.bool false)], args := [d] }
  | _ => none }
def FnDistancesOfWrongFalsely : Prop := fnDistancesOfRow.holds Try.pinned (OpenSpec.ofChange fnDistancesOfWrong)

/-- 'laws.FnExactWorkingSets': WHATEVER THE INPUT: true; the input reads as it did. -/
def fnExactWorkingSetsSpec : ChangeSpec := { name := "fnExactWorkingSets", fn := fun _ => fun
  | [d1, d2] => { results := [.lit (.bool true)], args := [d1, d2] }
  | _ => none }
def fnExactWorkingSetsRow : OpenClaim := { program := "ytbegdjemnclfaaa", sum := "2c099f71611f757a84752202a1edf4acb2c1dc021b1c205106e4d737c9259bfa", func := "loop.example/invertedpages/laws.FnExactWorkingSets", spec := "fnExactWorkingSets", unfollowed := true, recurses := true, plainKeys := false, apart := false }
def FnExactWorkingSetsSaid : Prop := fnExactWorkingSetsRow.holds Try.pinned (OpenSpec.ofChange fnExactWorkingSetsSpec)

/-- ITS FALSE NEIGHBOUR: 'it returns false'. Refute it at one input. -/
def fnExactWorkingSetsWrong : ChangeSpec := { name := "fnExactWorkingSets", fn := fun _ => fun
  | [d1, d2] => { results := [.lit (.bool false)], args := [d1, d2] }
  | _ => none }
def FnExactWorkingSetsWrongFalsely : Prop := fnExactWorkingSetsRow.holds Try.pinned (OpenSpec.ofChange fnExactWorkingSetsWrong)

/-- 'laws.FnExactDistancesOf': WHATEVER THE INPUT: true; the input reads as it did. -/
def fnExactDistancesOfSpec : ChangeSpec := { name := "fnExactDistancesOf", fn := fun _ => fun
  | [d] => { results := [.lit (.bool true)], args := [d] }
  | _ => none }
def fnExactDistancesOfRow : OpenClaim := { program := "ytbegdjemnclfaaa", sum := "2c099f71611f757a84752202a1edf4acb2c1dc021b1c205106e4d737c9259bfa", func := "loop.example/invertedpages/laws.FnExactDistancesOf", spec := "fnExactDistancesOf", unfollowed := true, recurses := true, plainKeys := false, apart := false }
def FnExactDistancesOfSaid : Prop := fnExactDistancesOfRow.holds Try.pinned (OpenSpec.ofChange fnExactDistancesOfSpec)

/-- ITS FALSE NEIGHBOUR: 'it returns false'. Refute it at one input. -/
def fnExactDistancesOfWrong : ChangeSpec := { name := "fnExactDistancesOf", fn := fun _ => fun
  | [d] => { results := [.lit (.bool false)], args := [d] }
  | _ => none }
def FnExactDistancesOfWrongFalsely : Prop := fnExactDistancesOfRow.holds Try.pinned (OpenSpec.ofChange fnExactDistancesOfWrong)

/-- 'laws.FnSplitPages': WHATEVER THE INPUT: true; the input reads as it did. -/
def fnSplitPagesSpec : ChangeSpec := { name := "fnSplitPages", fn := fun _ => fun
  | [d] => { results := [.lit (.bool true)], args := [d] }
  | _ => none }
def fnSplitPagesRow : OpenClaim := { program := "ytbegdjemnclfaaa", sum := "2c099f71611f757a84752202a1edf4acb2c1dc021b1c205106e4d737c9259bfa", func := "loop.example/invertedpages/laws.FnSplitPages", spec := "fnSplitPages", plainKeys := false, apart := false }
def FnSplitPagesSaid : Prop := fnSplitPagesRow.holds Try.pinned (OpenSpec.ofChange fnSplitPagesSpec)

/-- ITS FALSE NEIGHBOUR: 'it returns false'. Refute it at one input. -/
def fnSplitPagesWrong : ChangeSpec := { name := "fnSplitPages", fn := fun _ => fun
  | [d] => { results := [.lit (.bool false)], args := [d] }
  | _ => none }
def FnSplitPagesWrongFalsely : Prop := fnSplitPagesRow.holds Try.pinned (OpenSpec.ofChange fnSplitPagesWrong)

/-- 'laws.FnSplitBytes': WHATEVER THE INPUT: true; the input reads as it did. -/
def fnSplitBytesSpec : ChangeSpec := { name := "fnSplitBytes", fn := fun _ => fun
  | [d] => { results := [.lit (.bool true)], args := [d] }
  | _ => none }
def fnSplitBytesRow : OpenClaim := { program := "ytbegdjemnclfaaa", sum := "2c099f71611f757a84752202a1edf4acb2c1dc021b1c205106e4d737c9259bfa", func := "loop.example/invertedpages/laws.FnSplitBytes", spec := "fnSplitBytes", plainKeys := false, apart := false }
def FnSplitBytesSaid : Prop := fnSplitBytesRow.holds Try.pinned (OpenSpec.ofChange fnSplitBytesSpec)

/-- ITS FALSE NEIGHBOUR: 'it returns false'. Refute it at one input. -/
def fnSplitBytesWrong : ChangeSpec := { name := "fnSplitBytes", fn := fun _ => fun
  | [d] => { results := [.lit (.bool false)], args := [d] }
  | _ => none }
def FnSplitBytesWrongFalsely : Prop := fnSplitBytesRow.holds Try.pinned (OpenSpec.ofChange fnSplitBytesWrong)

/-- 'laws.FnExactSplitBytes': WHATEVER THE INPUT: true; the input reads as it did. -/
def fnExactSplitBytesSpec : ChangeSpec := { name := "fnExactSplitBytes", fn := fun _ => fun
  | [d1, d2] => { results := [.lit (.bool true)], args := [d1, d2] }
  | _ => none }
def fnExactSplitBytesRow : OpenClaim := { program := "ytbegdjemnclfaaa", sum := "2c099f71611f757a84752202a1edf4acb2c1dc021b1c205106e4d737c9259bfa", func := "loop.example/invertedpages/laws.FnExactSplitBytes", spec := "fnExactSplitBytes", plainKeys := false, apart := false }
def FnExactSplitBytesSaid : Prop := fnExactSplitBytesRow.holds Try.pinned (OpenSpec.ofChange fnExactSplitBytesSpec)

/-- ITS FALSE NEIGHBOUR: 'it returns false'. Refute it at one input. -/
def fnExactSplitBytesWrong : ChangeSpec := { name := "fnExactSplitBytes", fn := fun _ => fun
  | [d1, d2] => { results := [.lit (.bool false)], args := [d1, d2] }
  | _ => none }
def FnExactSplitBytesWrongFalsely : Prop := fnExactSplitBytesRow.holds Try.pinned (OpenSpec.ofChange fnExactSplitBytesWrong)

/- THE SECOND FORM. 'bulk': how many values and letters a reading holds, each counted each time it is reached (what is shared counts as often as it is met; a slice's spare places count too). A statement '..UptoSaid' is the law's where the arguments, and the package variables that the reading takes, are together of bulk at most 1048576: NARROWER than '..Said'. Prove '..Said' where nothing that the law and all that it calls make is longer than what came in: it says more and counts as full. Else prove '..UptoSaid'. A law counts once. -/
mutual
def uptoBulk {H : Type} : DataW H → Nat
  | .lit (.string bytes) => bytes.length + 1
  | .lit _ => 1
  | .nil => 1
  | .ptr d => uptoBulk d + 1
  | .slice elems spare => uptoBulkAll elems + uptoBulkAll spare + 1
  | .agg parts => uptoBulkAll parts + 1
  | .iface _ d => uptoBulk d + 1
  | .map entries => uptoBulkEntries entries + 1
  | .held _ => 1
def uptoBulkAll {H : Type} : List (DataW H) → Nat
  | [] => 0
  | d :: r => uptoBulk d + uptoBulkAll r
def uptoBulkEntries {H : Type} : List (Lit × DataW H) → Nat
  | [] => 0
  | x :: r => uptoBulkEntry x + uptoBulkEntries r
def uptoBulkEntry {H : Type} : Lit × DataW H → Nat
  | (.string bytes, d) => bytes.length + uptoBulk d + 1
  | (_, d) => uptoBulk d + 1
 end
def uptoSmall : (H : Type) → List (DataW H) → Bool := fun _ ds => decide (uptoBulkAll ds ≤ 1048576)
def OpenSpec.upto (s : _root_.Go.ChangeSpec) : _root_.Go.OpenSpec := { _root_.Go.OpenSpec.ofChange s with cond := some uptoSmall }

/-- 'laws.FnWorkingHit', WHERE WHAT IT READS IS OF BULK AT MOST 1048576: true; the input reads as it did. -/
def fnWorkingHitUptoRow : OpenClaim := { program := "ytbegdjemnclfaaa", sum := "2c099f71611f757a84752202a1edf4acb2c1dc021b1c205106e4d737c9259bfa", func := "loop.example/invertedpages/laws.FnWorkingHit", spec := "fnWorkingHit", unfollowed := true, recurses := true, plainKeys := false, apart := false, narrowed := true }
def FnWorkingHitUptoSaid : Prop := fnWorkingHitUptoRow.holds Try.pinned (OpenSpec.upto fnWorkingHitSpec)

/-- 'laws.FnWorkingSets', WHERE WHAT IT READS IS OF BULK AT MOST 1048576: true; the input reads as it did. -/
def fnWorkingSetsUptoRow : OpenClaim := { program := "ytbegdjemnclfaaa", sum := "2c099f71611f757a84752202a1edf4acb2c1dc021b1c205106e4d737c9259bfa", func := "loop.example/invertedpages/laws.FnWorkingSets", spec := "fnWorkingSets", unfollowed := true, recurses := true, plainKeys := false, apart := false, narrowed := true }
def FnWorkingSetsUptoSaid : Prop := fnWorkingSetsUptoRow.holds Try.pinned (OpenSpec.upto fnWorkingSetsSpec)

/-- 'laws.FnDistanceNext', WHERE WHAT IT READS IS OF BULK AT MOST 1048576: true; the input reads as it did. -/
def fnDistanceNextUptoRow : OpenClaim := { program := "ytbegdjemnclfaaa", sum := "2c099f71611f757a84752202a1edf4acb2c1dc021b1c205106e4d737c9259bfa", func := "loop.example/invertedpages/laws.FnDistanceNext", spec := "fnDistanceNext", unfollowed := true, recurses := true, plainKeys := false, apart := false, narrowed := true }
def FnDistanceNextUptoSaid : Prop := fnDistanceNextUptoRow.holds Try.pinned (OpenSpec.upto fnDistanceNextSpec)

/-- 'laws.FnDistancesOf', WHERE WHAT IT READS IS OF BULK AT MOST 1048576: true; the input reads as it did. -/
def fnDistancesOfUptoRow : OpenClaim := { program := "ytbegdjemnclfaaa", sum := "2c099f71611f757a84752202a1edf4acb2c1dc021b1c205106e4d737c9259bfa", func := "loop.example/invertedpages/laws.FnDistancesOf", spec := "fnDistancesOf", unfollowed := true, recurses := true, plainKeys := false, apart := false, narrowed := true }
def FnDistancesOfUptoSaid : Prop := fnDistancesOfUptoRow.holds Try.pinned (OpenSpec.upto fnDistancesOfSpec)

/-- 'laws.FnExactWorkingSets', WHERE WHAT IT READS IS OF BULK AT MOST 1048576: true; the input reads as it did. -/
def fnExactWorkingSetsUptoRow : OpenClaim := { program := "ytbegdjemnclfaaa", sum := "2c099f71611f757a84752202a1edf4acb2c1dc021b1c205106e4d737c9259bfa", func := "loop.example/invertedpages/laws.FnExactWorkingSets", spec := "fnExactWorkingSets", unfollowed := true, recurses := true, plainKeys := false, apart := false, narrowed := true }
def FnExactWorkingSetsUptoSaid : Prop := fnExactWorkingSetsUptoRow.holds Try.pinned (OpenSpec.upto fnExactWorkingSetsSpec)

/-- 'laws.FnExactDistancesOf', WHERE WHAT IT READS IS OF BULK AT MOST 1048576: true; the input reads as it did. -/
def fnExactDistancesOfUptoRow : OpenClaim := { program := "ytbegdjemnclfaaa", sum := "2c099f71611f757a84752202a1edf4acb2c1dc021b1c205106e4d737c9259bfa", func := "loop.example/invertedpages/laws.FnExactDistancesOf", spec := "fnExactDistancesOf", unfollowed := true, recurses := true, plainKeys := false, apart := false, narrowed := true }
def FnExactDistancesOfUptoSaid : Prop := fnExactDistancesOfUptoRow.holds Try.pinned (OpenSpec.upto fnExactDistancesOfSpec)

/-- 'laws.FnSplitPages', WHERE WHAT IT READS IS OF BULK AT MOST 1048576: true; the input reads as it did. -/
def fnSplitPagesUptoRow : OpenClaim := { program := "ytbegdjemnclfaaa", sum := "2c099f71611f757a84752202a1edf4acb2c1dc021b1c205106e4d737c9259bfa", func := "loop.example/invertedpages/laws.FnSplitPages", spec := "fnSplitPages", plainKeys := false, apart := false, narrowed := true }
def FnSplitPagesUptoSaid : Prop := fnSplitPagesUptoRow.holds Try.pinned (OpenSpec.upto fnSplitPagesSpec)

/-- 'laws.FnSplitBytes', WHERE WHAT IT READS IS OF BULK AT MOST 1048576: true; the input reads as it did. -/
def fnSplitBytesUptoRow : OpenClaim := { program := "ytbegdjemnclfaaa", sum := "2c099f71611f757a84752202a1edf4acb2c1dc021b1c205106e4d737c9259bfa", func := "loop.example/invertedpages/laws.FnSplitBytes", spec := "fnSplitBytes", plainKeys := false, apart := false, narrowed := true }
def FnSplitBytesUptoSaid : Prop := fnSplitBytesUptoRow.holds Try.pinned (OpenSpec.upto fnSplitBytesSpec)

/-- 'laws.FnExactSplitBytes', WHERE WHAT IT READS IS OF BULK AT MOST 1048576: true; the input reads as it did. -/
def fnExactSplitBytesUptoRow : OpenClaim := { program := "ytbegdjemnclfaaa", sum := "2c099f71611f757a84752202a1edf4acb2c1dc021b1c205106e4d737c9259bfa", func := "loop.example/invertedpages/laws.FnExactSplitBytes", spec := "fnExactSplitBytes", plainKeys := false, apart := false, narrowed := true }
def FnExactSplitBytesUptoSaid : Prop := fnExactSplitBytesUptoRow.holds Try.pinned (OpenSpec.upto fnExactSplitBytesSpec)

end Rows
end Go.Proofs.Ytbegdjemnclfaaa
