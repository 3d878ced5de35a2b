/-
  NARROWER THAN 'FOR EVERY INPUT', by the rows' own cells (each row's printed sentence says how): FnPutParts: laid · FnExactPutRange: laid · FnGuardOne: laid · FnGuardRange: laid · FnTakeOne: laid · FnExactGuardRange: laid · FnExactTakeRange: laid · FnRangeGuard: laid · FnPutRange: laid · FnTakeRange: laid.
  DERIVED. THE GIVEN ROWS OF THIS SEAT. 10 by the template 'for every input the law returns true; each argument reads behind the call as it read before'; 0 by the template 'total and deterministic' (their statements: YtkmocongdkacjaaGreatDoorTotals.lean).
  GIVEN WITH THE SEED: the statements are not yours to turn. If you find one false, say at which input.
  Laid BY PROGRAM, IN A SANDBOX (cutbox-rows.mjs): the forced cells as the released guide's own fill.sh prints them over the translation 771a408cb2e81814… (all of the seat's roots in one cut). By AI agents, Wed Nov 11 2026. No macro, syntax, notation, axiom, sorry.
-/
import Derived.Test.YtkmocongdkacjaaGreatDoorChecked
import GoSem.Claim
import GoSem.ClaimJoined
import GoSem.ClaimMapViews
import Derived.JoinedTies
import Derived.KernelRfl
namespace Go.Proofs.YtkmocongdkacjaaGreatDoor
/- THE CELL 'sum', in the pinned program and in every row, IS THE sha256 OF THE DUMP (.gsa) THAT YtkmocongdkacjaaGreatDoorProg.lean LOADS. Nothing in Lean hashes anything: it is a label: what it is worth is what the hold of that sum in a sandbox is worth. -/
noncomputable def Tryz.pinned : Pinned := { name := "ytkmocongdkacjaagreatdoor", sum := "771a408cb2e81814e0a17507d38bd06ec9faf97d3233dd0e5f0d7dcf46335314", checked := Tryz.checked }
namespace Rows
def none {H : Type} : Left H := { results := [], args := [] }

/- WHAT THE LISTED PACKAGE-LEVEL VARIABLES READ AS WHEN THE CALL BEGINS. Each datum BY PROGRAM (the guide's laid-datum.mjs) off the statement by which the dump's own 'gosem.cut.vars' lays the variable. In a bare row this is a premise. The card (YtkmocongdkacjaaGreatDoorCards.lean) ties it to the program's text. -/
def laid_loop_example_invertedpages_impl_free {H : Type} : DataW H := .agg [.lit (.bool false), .agg [.lit (.int .i64 0), .lit (.int .i64 0)], .lit (.int .i64 0), .lit (.int .i64 (-1))]

/-- 'laws.FnPutParts': WHATEVER THE INPUT: true; the input reads as it did. -/
def fnPutPartsSpec : ChangeSpec := { name := "fnPutParts", vars := ["loop.example/invertedpages/impl.free"], fn := fun _ => fun
  | [d, g1] => { results := [.lit (.bool true)], args := [d], vars := [g1] }
  | _ => none }
def fnPutPartsRow : OpenClaim := { program := "ytkmocongdkacjaagreatdoor", sum := "771a408cb2e81814e0a17507d38bd06ec9faf97d3233dd0e5f0d7dcf46335314", func := "loop.example/invertedpages/laws.FnPutParts", spec := "fnPutParts", unfollowed := true, recurses := true, named := ["loop.example/invertedpages/impl.free"], plainKeys := false, apart := false, laid := [("loop.example/invertedpages/impl.free", laid_loop_example_invertedpages_impl_free)] }
def FnPutPartsSaid : Prop := fnPutPartsRow.holds Tryz.pinned (OpenSpec.ofChange fnPutPartsSpec)

/-- ITS FALSE NEIGHBOUR: 'it returns false'. Refute it at one input. -/
def fnPutPartsWrong : ChangeSpec := { name := "fnPutParts", vars := ["loop.example/invertedpages/impl.free"], fn := fun _ => fun
  | [d, g1] => { results := [.lit (.bool false)], args := [d], vars := [g1] }
  | _ => none }
def FnPutPartsWrongFalsely : Prop := fnPutPartsRow.holds Tryz.pinned (OpenSpec.ofChange fnPutPartsWrong)

/-- 'laws.FnExactPutRange': WHATEVER THE INPUT: true; the input reads as it did. -/
def fnExactPutRangeSpec : ChangeSpec := { name := "fnExactPutRange", vars := ["loop.example/invertedpages/impl.free"], fn := fun _ => fun
  | [d1, d2, d3, d4, g1] => { results := [.lit (.bool true)], args := [d1, d2, d3, d4], vars := [g1] }
  | _ => none }
def fnExactPutRangeRow : OpenClaim := { program := "ytkmocongdkacjaagreatdoor", sum := "771a408cb2e81814e0a17507d38bd06ec9faf97d3233dd0e5f0d7dcf46335314", func := "loop.example/invertedpages/laws.FnExactPutRange", spec := "fnExactPutRange", unfollowed := true, recurses := true, named := ["loop.example/invertedpages/impl.free"], plainKeys := false, apart := false, laid := [("loop.example/invertedpages/impl.free", laid_loop_example_invertedpages_impl_free)] }
def FnExactPutRangeSaid : Prop := fnExactPutRangeRow.holds Tryz.pinned (OpenSpec.ofChange fnExactPutRangeSpec)

/-- ITS FALSE NEIGHBOUR: 'it returns false'. Refute it at one input. -/
def fnExactPutRangeWrong : ChangeSpec := { name := "fnExactPutRange", vars := ["loop.example/invertedpages/impl.free"], fn := fun _ => fun
  | [d1, d2, d3, d4, g1] => { results := [.lit (.bool false)], args := [d1, d2, d3, d4], vars := [g1] }
  | _ => none }
def FnExactPutRangeWrongFalsely : Prop := fnExactPutRangeRow.holds Tryz.pinned (OpenSpec.ofChange fnExactPutRangeWrong)

/-- 'laws.FnGuardOne': WHATEVER THE INPUT: true; the input reads as it did. -/
def fnGuardOneSpec : ChangeSpec := { name := "fnGuardOne", vars := ["loop.example/invertedpages/impl.free"], fn := fun _ => fun
  | [d, g1] => { results := [.lit (.bool true)], args := [d], vars := [g1] }
  | _ => none }
def fnGuardOneRow : OpenClaim := { program := "ytkmocongdkacjaagreatdoor", sum := "771a408cb2e81814e0a17507d38bd06ec9faf97d3233dd0e5f0d7dcf46335314", func := "loop.example/invertedpages/laws.FnGuardOne", spec := "fnGuardOne", unfollowed := true, recurses := true, named := ["loop.example/invertedpages/impl.free"], plainKeys := false, apart := false, laid := [("loop.example/invertedpages/impl.free", laid_loop_example_invertedpages_impl_free)] }
def FnGuardOneSaid : Prop := fnGuardOneRow.holds Tryz.pinned (OpenSpec.ofChange fnGuardOneSpec)

/-- ITS FALSE NEIGHBOUR: 'it returns false'. Refute it at one input. -/
def fnGuardOneWrong : ChangeSpec := { name := "fnGuardOne", vars := ["loop.example/invertedpages/impl.free"], fn := fun _ => fun
  | [d, g1] => { results := [.lit (.bool false)], args := [d], vars := [g1] }
  | _ => none }
def FnGuardOneWrongFalsely : Prop := fnGuardOneRow.holds Tryz.pinned (OpenSpec.ofChange fnGuardOneWrong)

/-- 'laws.FnGuardRange': WHATEVER THE INPUT: true; the input reads as it did. -/
def fnGuardRangeSpec : ChangeSpec := { name := "fnGuardRange", vars := ["loop.example/invertedpages/impl.free"], fn := fun _ => fun
  | [d, g1] => { results := [.lit (.bool true)], args := [d], vars := [g1] }
  | _ => none }
def fnGuardRangeRow : OpenClaim := { program := "ytkmocongdkacjaagreatdoor", sum := "771a408cb2e81814e0a17507d38bd06ec9faf97d3233dd0e5f0d7dcf46335314", func := "loop.example/invertedpages/laws.FnGuardRange", spec := "fnGuardRange", unfollowed := true, recurses := true, named := ["loop.example/invertedpages/impl.free"], plainKeys := false, apart := false, laid := [("loop.example/invertedpages/impl.free", laid_loop_example_invertedpages_impl_free)] }
def FnGuardRangeSaid : Prop := fnGuardRangeRow.holds Tryz.pinned (OpenSpec.ofChange fnGuardRangeSpec)

/-- ITS FALSE NEIGHBOUR: 'it returns false'. Refute it at one input. -/
def fnGuardRangeWrong : ChangeSpec := { name := "fnGuardRange", vars := ["loop.example/invertedpages/impl.free"], fn := fun _ => fun
  | [d, g1] => { results := [.lit (.bool false)], args := [d], vars := [g1] }
  | _ => none }
def FnGuardRangeWrongFalsely : Prop := fnGuardRangeRow.holds Tryz.pinned (OpenSpec.ofChange fnGuardRangeWrong)

/-- 'laws.FnTakeOne': WHATEVER THE INPUT: true; the input reads as it did. -/
def fnTakeOneSpec : ChangeSpec := { name := "fnTakeOne", vars := ["loop.example/invertedpages/impl.free"], fn := fun _ => fun
  | [d, g1] => { results := [.lit (.bool true)], args := [d], vars := [g1] }
  | _ => none }
def fnTakeOneRow : OpenClaim := { program := "ytkmocongdkacjaagreatdoor", sum := "771a408cb2e81814e0a17507d38bd06ec9faf97d3233dd0e5f0d7dcf46335314", func := "loop.example/invertedpages/laws.FnTakeOne", spec := "fnTakeOne", unfollowed := true, recurses := true, named := ["loop.example/invertedpages/impl.free"], plainKeys := false, apart := false, laid := [("loop.example/invertedpages/impl.free", laid_loop_example_invertedpages_impl_free)] }
def FnTakeOneSaid : Prop := fnTakeOneRow.holds Tryz.pinned (OpenSpec.ofChange fnTakeOneSpec)

/-- ITS FALSE NEIGHBOUR: 'it returns false'. Refute it at one input. -/
def fnTakeOneWrong : ChangeSpec := { name := "fnTakeOne", vars := ["loop.example/invertedpages/impl.free"], fn := fun _ => fun
  | [d, g1] => { results := [.lit (.bool false)], args := [d], vars := [g1] }
  | _ => none }
def FnTakeOneWrongFalsely : Prop := fnTakeOneRow.holds Tryz.pinned (OpenSpec.ofChange fnTakeOneWrong)

/-- 'laws.FnExactGuardRange': WHATEVER THE INPUT: true; the input reads as it did. -/
def fnExactGuardRangeSpec : ChangeSpec := { name := "fnExactGuardRange", vars := ["loop.example/invertedpages/impl.free"], fn := fun _ => fun
  | [d1, d2, d3, d4, g1] => { results := [.lit (.bool true)], args := [d1, d2, d3, d4], vars := [g1] }
  | _ => none }
def fnExactGuardRangeRow : OpenClaim := { program := "ytkmocongdkacjaagreatdoor", sum := "771a408cb2e81814e0a17507d38bd06ec9faf97d3233dd0e5f0d7dcf46335314", func := "loop.example/invertedpages/laws.FnExactGuardRange", spec := "fnExactGuardRange", unfollowed := true, recurses := true, named := ["loop.example/invertedpages/impl.free"], plainKeys := false, apart := false, laid := [("loop.example/invertedpages/impl.free", laid_loop_example_invertedpages_impl_free)] }
def FnExactGuardRangeSaid : Prop := fnExactGuardRangeRow.holds Tryz.pinned (OpenSpec.ofChange fnExactGuardRangeSpec)

/-- ITS FALSE NEIGHBOUR: 'it returns false'. Refute it at one input. -/
def fnExactGuardRangeWrong : ChangeSpec := { name := "fnExactGuardRange", vars := ["loop.example/invertedpages/impl.free"], fn := fun _ => fun
  | [d1, d2, d3, d4, g1] => { results := [.lit (.bool false)], args := [d1, d2, d3, d4], vars := [g1] }
  | _ => none }
def FnExactGuardRangeWrongFalsely : Prop := fnExactGuardRangeRow.holds Tryz.pinned (OpenSpec.ofChange fnExactGuardRangeWrong)

/-- 'laws.FnExactTakeRange': WHATEVER THE INPUT: true; the input reads as it did. -/
def fnExactTakeRangeSpec : ChangeSpec := { name := "fnExactTakeRange", vars := ["loop.example/invertedpages/impl.free"], fn := fun _ => fun
  | [d1, d2, d3, g1] => { results := [.lit (.bool true)], args := [d1, d2, d3], vars := [g1] }
  | _ => none }
def fnExactTakeRangeRow : OpenClaim := { program := "ytkmocongdkacjaagreatdoor", sum := "771a408cb2e81814e0a17507d38bd06ec9faf97d3233dd0e5f0d7dcf46335314", func := "loop.example/invertedpages/laws.FnExactTakeRange", spec := "fnExactTakeRange", unfollowed := true, recurses := true, named := ["loop.example/invertedpages/impl.free"], plainKeys := false, apart := false, laid := [("loop.example/invertedpages/impl.free", laid_loop_example_invertedpages_impl_free)] }
def FnExactTakeRangeSaid : Prop := fnExactTakeRangeRow.holds Tryz.pinned (OpenSpec.ofChange fnExactTakeRangeSpec)

/-- ITS FALSE NEIGHBOUR: 'it returns false'. Refute it at one input. -/
def fnExactTakeRangeWrong : ChangeSpec := { name := "fnExactTakeRange", vars := ["loop.example/invertedpages/impl.free"], fn := fun _ => fun
  | [d1, d2, d3, g1] => { results := [.lit (.bool false)], args := [d1, d2, d3], vars := [g1] }
  | _ => none }
def FnExactTakeRangeWrongFalsely : Prop := fnExactTakeRangeRow.holds Tryz.pinned (OpenSpec.ofChange fnExactTakeRangeWrong)

/-- 'laws.FnRangeGuard': WHATEVER THE INPUT: true; the input reads as it did. -/
def fnRangeGuardSpec : ChangeSpec := { name := "fnRangeGuard", vars := ["loop.example/invertedpages/impl.free"], fn := fun _ => fun
  | [d, g1] => { results := [.lit (.bool true)], args := [d], vars := [g1] }
  | _ => none }
def fnRangeGuardRow : OpenClaim := { program := "ytkmocongdkacjaagreatdoor", sum := "771a408cb2e81814e0a17507d38bd06ec9faf97d3233dd0e5f0d7dcf46335314", func := "loop.example/invertedpages/laws.FnRangeGuard", spec := "fnRangeGuard", unfollowed := true, recurses := true, named := ["loop.example/invertedpages/impl.free"], plainKeys := false, apart := false, laid := [("loop.example/invertedpages/impl.free", laid_loop_example_invertedpages_impl_free)] }
def FnRangeGuardSaid : Prop := fnRangeGuardRow.holds Tryz.pinned (OpenSpec.ofChange fnRangeGuardSpec)

/-- ITS FALSE NEIGHBOUR: 'it returns false'. Refute it at one input. -/
def fnRangeGuardWrong : ChangeSpec := { name := "fnRangeGuard", vars := ["loop.example/invertedpages/impl.free"], fn := fun _ => fun
  | [d, g1] => { results := [.lit (.bool false)], args := [d], vars := [g1] }
  | _ => none }
def FnRangeGuardWrongFalsely : Prop := fnRangeGuardRow.holds Tryz.pinned (OpenSpec.ofChange fnRangeGuardWrong)

/-- 'laws.FnPutRange': WHATEVER THE INPUT: true; the input reads as it did. -/
def fnPutRangeSpec : ChangeSpec := { name := "fnPutRange", vars := ["loop.example/invertedpages/impl.free"], fn := fun _ => fun
  | [d, g1] => { results := [.lit (.bool true)], args := [d], vars := [g1] }
  | _ => none }
def fnPutRangeRow : OpenClaim := { program := "ytkmocongdkacjaagreatdoor", sum := "771a408cb2e81814e0a17507d38bd06ec9faf97d3233dd0e5f0d7dcf46335314", func := "loop.example/invertedpages/laws.FnPutRange", spec := "fnPutRange", unfollowed := true, recurses := true, named := ["loop.example/invertedpages/impl.free"], plainKeys := false, apart := false, laid := [("loop.example/invertedpages/impl.free", laid_loop_example_invertedpages_impl_free)] }
def FnPutRangeSaid : Prop := fnPutRangeRow.holds Tryz.pinned (OpenSpec.ofChange fnPutRangeSpec)

/-- ITS FALSE NEIGHBOUR: 'it returns false'. Refute it at one input. -/
def fnPutRangeWrong : ChangeSpec := { name := "fnPutRange", vars := ["loop.example/invertedpages/impl.free"], fn := fun _ => fun
  | [d, g1] => { results := [.lit (.bool false)], args := [d], vars := [g1] }
  | _ => none }
def FnPutRangeWrongFalsely : Prop := fnPutRangeRow.holds Tryz.pinned (OpenSpec.ofChange fnPutRangeWrong)

/-- 'laws.FnTakeRange': WHATEVER THE INPUT: true; the input reads as it did. -/
def fnTakeRangeSpec : ChangeSpec := { name := "fnTakeRange", vars := ["loop.example/invertedpages/impl.free"], fn := fun _ => fun
  | [d, g1] => { results := [.lit (.bool true)], args := [d], vars := [g1] }
  | _ => none }
def fnTakeRangeRow : OpenClaim := { program := "ytkmocongdkacjaagreatdoor", sum := "771a408cb2e81814e0a17507d38bd06ec9faf97d3233dd0e5f0d7dcf46335314", func := "loop.example/invertedpages/laws.FnTakeRange", spec := "fnTakeRange", unfollowed := true, recurses := true, named := ["loop.example/invertedpages/impl.free"], plainKeys := false, apart := false, laid := [("loop.example/invertedpages/impl.free", laid_loop_example_invertedpages_impl_free)] }
def FnTakeRangeSaid : Prop := fnTakeRangeRow.holds Tryz.pinned (OpenSpec.ofChange fnTakeRangeSpec)

/-- ITS FALSE NEIGHBOUR: 'it returns false'. Refute it at one input. -/
def fnTakeRangeWrong : ChangeSpec := { name := "fnTakeRange", vars := ["loop.example/invertedpages/impl.free"], fn := fun _ => fun
  | [d, g1] => { results := [.lit (.bool false)], args := [d], vars := [g1] }
  | _ => none }
def FnTakeRangeWrongFalsely : Prop := fnTakeRangeRow.holds Tryz.pinned (OpenSpec.ofChange fnTakeRangeWrong)

/- THE SECOND FORM. 'bulk': how many values and letters a reading holds, each counted each time it is reached (what is shared counts as often as it is met; a slice's spare places count too). A statement '..UptoSaid' is the law's where the arguments, and the package variables that the reading takes, are together of bulk at most 1048576: NARROWER than '..Said'. Prove '..Said' where nothing that the law and all that it calls make is longer than what came in: it says more and counts as full. Else prove '..UptoSaid'. A law counts once. -/
mutual
def uptoBulk {H : Type} : DataW H → Nat
  | .lit (.string bytes) => bytes.length + 1
  | .lit _ => 1
  | .nil => 1
  | .ptr d => uptoBulk d + 1
  | .slice elems spare => uptoBulkAll elems + uptoBulkAll spare + 1
  | .agg parts => uptoBulkAll parts + 1
  | .iface _ d => uptoBulk d + 1
  | .map entries => uptoBulkEntries entries + 1
  | .held _ => 1
def uptoBulkAll {H : Type} : List (DataW H) → Nat
  | [] => 0
  | d :: r => uptoBulk d + uptoBulkAll r
def uptoBulkEntries {H : Type} : List (Lit × DataW H) → Nat
  | [] => 0
  | x :: r => uptoBulkEntry x + uptoBulkEntries r
def uptoBulkEntry {H : Type} : Lit × DataW H → Nat
  | (.string bytes, d) => bytes.length + uptoBulk d + 1
  | (_, d) => uptoBulk d + 1
 end
def uptoSmall : (H : Type) → List (DataW H) → Bool := fun _ ds => decide (uptoBulkAll ds ≤ 1048576)
def OpenSpec.upto (s : _root_.Go.ChangeSpec) : _root_.Go.OpenSpec := { _root_.Go.OpenSpec.ofChange s with cond := some uptoSmall }

/-- 'laws.FnPutParts', WHERE WHAT IT READS IS OF BULK AT MOST 1048576: true; the input reads as it did. -/
def fnPutPartsUptoRow : OpenClaim := { program := "ytkmocongdkacjaagreatdoor", sum := "771a408cb2e81814e0a17507d38bd06ec9faf97d3233dd0e5f0d7dcf46335314", func := "loop.example/invertedpages/laws.FnPutParts", spec := "fnPutParts", unfollowed := true, recurses := true, named := ["loop.example/invertedpages/impl.free"], plainKeys := false, apart := false, laid := [("loop.example/invertedpages/impl.free", laid_loop_example_invertedpages_impl_free)], narrowed := true }
def FnPutPartsUptoSaid : Prop := fnPutPartsUptoRow.holds Tryz.pinned (OpenSpec.upto fnPutPartsSpec)

/-- 'laws.FnExactPutRange', WHERE WHAT IT READS IS OF BULK AT MOST 1048576: true; the input reads as it did. -/
def fnExactPutRangeUptoRow : OpenClaim := { program := "ytkmocongdkacjaagreatdoor", sum := "771a408cb2e81814e0a17507d38bd06ec9faf97d3233dd0e5f0d7dcf46335314", func := "loop.example/invertedpages/laws.FnExactPutRange", spec := "fnExactPutRange", unfollowed := true, recurses := true, named := ["loop.example/invertedpages/impl.free"], plainKeys := false, apart := false, laid := [("loop.example/invertedpages/impl.free", laid_loop_example_invertedpages_impl_free)], narrowed := true }
def FnExactPutRangeUptoSaid : Prop := fnExactPutRangeUptoRow.holds Tryz.pinned (OpenSpec.upto fnExactPutRangeSpec)

/-- 'laws.FnGuardOne', WHERE WHAT IT READS IS OF BULK AT MOST 1048576: true; the input reads as it did. -/
def fnGuardOneUptoRow : OpenClaim := { program := "ytkmocongdkacjaagreatdoor", sum := "771a408cb2e81814e0a17507d38bd06ec9faf97d3233dd0e5f0d7dcf46335314", func := "loop.example/invertedpages/laws.FnGuardOne", spec := "fnGuardOne", unfollowed := true, recurses := true, named := ["loop.example/invertedpages/impl.free"], plainKeys := false, apart := false, laid := [("loop.example/invertedpages/impl.free", laid_loop_example_invertedpages_impl_free)], narrowed := true }
def FnGuardOneUptoSaid : Prop := fnGuardOneUptoRow.holds Tryz.pinned (OpenSpec.upto fnGuardOneSpec)

/-- 'laws.FnGuardRange', WHERE WHAT IT READS IS OF BULK AT MOST 1048576: true; the input reads as it did. -/
def fnGuardRangeUptoRow : OpenClaim := { program := "ytkmocongdkacjaagreatdoor", sum := "771a408cb2e81814e0a17507d38bd06ec9faf97d3233dd0e5f0d7dcf46335314", func := "loop.example/invertedpages/laws.FnGuardRange", spec := "fnGuardRange", unfollowed := true, recurses := true, named := ["loop.example/invertedpages/impl.free"], plainKeys := false, apart := false, laid := [("loop.example/invertedpages/impl.free", laid_loop_example_invertedpages_impl_free)], narrowed := true }
def FnGuardRangeUptoSaid : Prop := fnGuardRangeUptoRow.holds Tryz.pinned (OpenSpec.upto fnGuardRangeSpec)

/-- 'laws.FnTakeOne', WHERE WHAT IT READS IS OF BULK AT MOST 1048576: true; the input reads as it did. -/
def fnTakeOneUptoRow : OpenClaim := { program := "ytkmocongdkacjaagreatdoor", sum := "771a408cb2e81814e0a17507d38bd06ec9faf97d3233dd0e5f0d7dcf46335314", func := "loop.example/invertedpages/laws.FnTakeOne", spec := "fnTakeOne", unfollowed := true, recurses := true, named := ["loop.example/invertedpages/impl.free"], plainKeys := false, apart := false, laid := [("loop.example/invertedpages/impl.free", laid_loop_example_invertedpages_impl_free)], narrowed := true }
def FnTakeOneUptoSaid : Prop := fnTakeOneUptoRow.holds Tryz.pinned (OpenSpec.upto fnTakeOneSpec)

/-- 'laws.FnExactGuardRange', WHERE WHAT IT READS IS OF BULK AT MOST 1048576: true; the input reads as it did. -/
def fnExactGuardRangeUptoRow : OpenClaim := { program := "ytkmocongdkacjaagreatdoor", sum := "771a408cb2e81814e0a17507d38bd06ec9faf97d3233dd0e5f0d7dcf46335314", func := "loop.example/invertedpages/laws.FnExactGuardRange", spec := "fnExactGuardRange", unfollowed := true, recurses := true, named := ["loop.example/invertedpages/impl.free"], plainKeys := false, apart := false, laid := [("loop.example/invertedpages/impl.free", laid_loop_example_invertedpages_impl_free)], narrowed := true }
def FnExactGuardRangeUptoSaid : Prop := fnExactGuardRangeUptoRow.holds Tryz.pinned (OpenSpec.upto fnExactGuardRangeSpec)

/-- 'laws.FnExactTakeRange', WHERE WHAT IT READS IS OF BULK AT MOST 1048576: true; the input reads as it did. -/
def fnExactTakeRangeUptoRow : OpenClaim := { program := "ytkmocongdkacjaagreatdoor", sum := "771a408cb2e81814e0a17507d38bd06ec9faf97d3233dd0e5f0d7dcf46335314", func := "loop.example/invertedpages/laws.FnExactTakeRange", spec := "fnExactTakeRange", unfollowed := true, recurses := true, named := ["loop.example/invertedpages/impl.free"], plainKeys := false, apart := false, laid := [("loop.example/invertedpages/impl.free", laid_loop_example_invertedpages_impl_free)], narrowed := true }
def FnExactTakeRangeUptoSaid : Prop := fnExactTakeRangeUptoRow.holds Tryz.pinned (OpenSpec.upto fnExactTakeRangeSpec)

/-- 'laws.FnRangeGuard', WHERE WHAT IT READS IS OF BULK AT MOST 1048576: true; the input reads as it did. -/
def fnRangeGuardUptoRow : OpenClaim := { program := "ytkmocongdkacjaagreatdoor", sum := "771a408cb2e81814e0a17507d38bd06ec9faf97d3233dd0e5f0d7dcf46335314", func := "loop.example/invertedpages/laws.FnRangeGuard", spec := "fnRangeGuard", unfollowed := true, recurses := true, named := ["loop.example/invertedpages/impl.free"], plainKeys := false, apart := false, laid := [("loop.example/invertedpages/impl.free", laid_loop_example_invertedpages_impl_free)], narrowed := true }
def FnRangeGuardUptoSaid : Prop := fnRangeGuardUptoRow.holds Tryz.pinned (OpenSpec.upto fnRangeGuardSpec)

/-- 'laws.FnPutRange', WHERE WHAT IT READS IS OF BULK AT MOST 1048576: true; the input reads as it did. -/
def fnPutRangeUptoRow : OpenClaim := { program := "ytkmocongdkacjaagreatdoor", sum := "771a408cb2e81814e0a17507d38bd06ec9faf97d3233dd0e5f0d7dcf46335314", func := "loop.example/invertedpages/laws.FnPutRange", spec := "fnPutRange", unfollowed := true, recurses := true, named := ["loop.example/invertedpages/impl.free"], plainKeys := false, apart := false, laid := [("loop.example/invertedpages/impl.free", laid_loop_example_invertedpages_impl_free)], narrowed := true }
def FnPutRangeUptoSaid : Prop := fnPutRangeUptoRow.holds Tryz.pinned (OpenSpec.upto fnPutRangeSpec)

/-- 'laws.FnTakeRange', WHERE WHAT IT READS IS OF BULK AT MOST 1048576: true; the input reads as it did. -/
def fnTakeRangeUptoRow : OpenClaim := { program := "ytkmocongdkacjaagreatdoor", sum := "771a408cb2e81814e0a17507d38bd06ec9faf97d3233dd0e5f0d7dcf46335314", func := "loop.example/invertedpages/laws.FnTakeRange", spec := "fnTakeRange", unfollowed := true, recurses := true, named := ["loop.example/invertedpages/impl.free"], plainKeys := false, apart := false, laid := [("loop.example/invertedpages/impl.free", laid_loop_example_invertedpages_impl_free)], narrowed := true }
def FnTakeRangeUptoSaid : Prop := fnTakeRangeUptoRow.holds Tryz.pinned (OpenSpec.upto fnTakeRangeSpec)

end Rows
end Go.Proofs.YtkmocongdkacjaaGreatDoor
