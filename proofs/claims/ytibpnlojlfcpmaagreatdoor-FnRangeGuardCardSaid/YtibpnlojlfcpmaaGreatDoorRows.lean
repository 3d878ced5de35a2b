/-
  NARROWER THAN 'FOR EVERY INPUT', by the rows' own cells (each row's printed sentence says how): FnExactRangesOf: laid · FnRangesOf: laid · FnRangeGuard: laid · FnEndSpace: laid · FnPutRange: laid · FnTakeRange: laid · FnTakePage: laid · FnEndTwice: laid · FnExactEndSpace: laid · FnExactTouchBytes: laid.
  DERIVED. THE GIVEN ROWS OF THIS SEAT. 10 by the template 'for every input the law returns true; each argument reads behind the call as it read before'; 0 by the template 'total and deterministic' (their statements: YtibpnlojlfcpmaaGreatDoorTotals.lean).
  GIVEN WITH THE SEED: the statements are not yours to turn. If you find one false, say at which input.
  Laid BY PROGRAM, IN A SANDBOX (cutbox-rows.mjs): the forced cells as the released guide's own fill.sh prints them over the translation 2000721fb23361a0… (all of the seat's roots in one cut). By AI agents, Wed Nov 11 2026. No macro, syntax, notation, axiom, sorry.
-/
import Derived.Test.YtibpnlojlfcpmaaGreatDoorChecked
import GoSem.Claim
import GoSem.ClaimJoined
import GoSem.ClaimMapViews
import Derived.JoinedTies
import Derived.KernelRfl
namespace Go.Proofs.YtibpnlojlfcpmaaGreatDoor
/- THE CELL 'sum', in the pinned program and in every row, IS THE sha256 OF THE DUMP (.gsa) THAT YtibpnlojlfcpmaaGreatDoorProg.lean LOADS. Nothing in Lean hashes anything: it is a label: what it is worth is what the hold of that sum in a sandbox is worth. -/
noncomputable def Tryz.pinned : Pinned := { name := "ytibpnlojlfcpmaagreatdoor", sum := "2000721fb23361a05250035b798508801524121ad519e3abb1d413c36c79c53a", checked := Tryz.checked }
namespace Rows
def none {H : Type} : Left H := { results := [], args := [] }

/- WHAT THE LISTED PACKAGE-LEVEL VARIABLES READ AS WHEN THE CALL BEGINS. Each datum BY PROGRAM (the guide's laid-datum.mjs) off the statement by which the dump's own 'gosem.cut.vars' lays the variable. In a bare row this is a premise. The card (YtibpnlojlfcpmaaGreatDoorCards.lean) ties it to the program's text. -/
def laid_loop_example_invertedpages_impl_free {H : Type} : DataW H := .agg [.lit (.bool false), .agg [.lit (.int .i64 0), .lit (.int .i64 0)], .lit (.int .i64 0), .lit (.int .i64 (-1))]

/-- 'laws.FnExactRangesOf': WHATEVER THE INPUT: true; the input reads as it did. -/
def fnExactRangesOfSpec : ChangeSpec := { name := "fnExactRangesOf", vars := ["loop.example/invertedpages/impl.free"], fn := fun _ => fun
  | [d1, d2, g1] => { results := [.lit (.bool true)], args := [d1, d2], vars := [g1] }
  | _ => none }
def fnExactRangesOfRow : OpenClaim := { program := "ytibpnlojlfcpmaagreatdoor", sum := "2000721fb23361a05250035b798508801524121ad519e3abb1d413c36c79c53a", func := "loop.example/invertedpages/laws.FnExactRangesOf", spec := "fnExactRangesOf", unfollowed := true, recurses := true, named := ["loop.example/invertedpages/impl.free"], plainKeys := false, apart := false, laid := [("loop.example/invertedpages/impl.free", laid_loop_example_invertedpages_impl_free)] }
def FnExactRangesOfSaid : Prop := fnExactRangesOfRow.holds Tryz.pinned (OpenSpec.ofChange fnExactRangesOfSpec)

/-- ITS FALSE NEIGHBOUR: 'it returns false'. Refute it at one input. -/
def fnExactRangesOfWrong : ChangeSpec := { name := "fnExactRangesOf", vars := ["loop.example/invertedpages/impl.free"], fn := fun _ => fun
  | [d1, d2, g1] => { results := [.lit (.bool false)], args := [d1, d2], vars := [g1] }
  | _ => none }
def FnExactRangesOfWrongFalsely : Prop := fnExactRangesOfRow.holds Tryz.pinned (OpenSpec.ofChange fnExactRangesOfWrong)

/-- 'laws.FnRangesOf': WHATEVER THE INPUT: true; the input reads as it did. -/
def fnRangesOfSpec : ChangeSpec := { name := "fnRangesOf", vars := ["loop.example/invertedpages/impl.free"], fn := fun _ => fun
  | [d, g1] => { results := [.lit (.bool true)], args := [d], vars := [g1] }
  | _ => none }
def fnRangesOfRow : OpenClaim := { program := "ytibpnlojlfcpmaagreatdoor", sum := "2000721fb23361a05250035b798508801524121ad519e3abb1d413c36c79c53a", func := "loop.example/invertedpages/laws.FnRangesOf", spec := "fnRangesOf", unfollowed := true, recurses := true, named := ["loop.example/invertedpages/impl.free"], plainKeys := false, apart := false, laid := [("loop.example/invertedpages/impl.free", laid_loop_example_invertedpages_impl_free)] }
def FnRangesOfSaid : Prop := fnRangesOfRow.holds Tryz.pinned (OpenSpec.ofChange fnRangesOfSpec)

/-- ITS FALSE NEIGHBOUR: 'it returns false'. Refute it at one input. -/
def fnRangesOfWrong : ChangeSpec := { name := "fnRangesOf", vars := ["loop.example/invertedpages/impl.free"], fn := fun _ => fun
  | [d, g1] => { results := [.lit (.bool false)], args := [d], vars := [g1] }
  | _ => none }
def FnRangesOfWrongFalsely : Prop := fnRangesOfRow.holds Tryz.pinned (OpenSpec.ofChange fnRangesOfWrong)

/-- 'laws.FnRangeGuard': WHATEVER THE INPUT: true; the input reads as it did. -/
def fnRangeGuardSpec : ChangeSpec := { name := "fnRangeGuard", vars := ["loop.example/invertedpages/impl.free"], fn := fun _ => fun
  | [d, g1] => { results := [.lit (.bool true)], args := [d], vars := [g1] }
  | _ => none }
def fnRangeGuardRow : OpenClaim := { program := "ytibpnlojlfcpmaagreatdoor", sum := "2000721fb23361a05250035b798508801524121ad519e3abb1d413c36c79c53a", func := "loop.example/invertedpages/laws.FnRangeGuard", spec := "fnRangeGuard", unfollowed := true, recurses := true, named := ["loop.example/invertedpages/impl.free"], plainKeys := false, apart := false, laid := [("loop.example/invertedpages/impl.free", laid_loop_example_invertedpages_impl_free)] }
def FnRangeGuardSaid : Prop := fnRangeGuardRow.holds Tryz.pinned (OpenSpec.ofChange fnRangeGuardSpec)

/-- ITS FALSE NEIGHBOUR: 'it returns false'. Refute it at one input. -/
def fnRangeGuardWrong : ChangeSpec := { name := "fnRangeGuard", vars := ["loop.example/invertedpages/impl.free"], fn := fun _ => fun
  | [d, g1] => { results := [.lit (.bool false)], args := [d], vars := [g1] }
  | _ => none }
def FnRangeGuardWrongFalsely : Prop := fnRangeGuardRow.holds Tryz.pinned (OpenSpec.ofChange fnRangeGuardWrong)

/-- 'laws.FnEndSpace': WHATEVER THE INPUT: true; the input reads as it did. -/
def fnEndSpaceSpec : ChangeSpec := { name := "fnEndSpace", vars := ["loop.example/invertedpages/impl.free"], fn := fun _ => fun
  | [d, g1] => { results := [.lit (.bool true)], args := [d], vars := [g1] }
  | _ => none }
def fnEndSpaceRow : OpenClaim := { program := "ytibpnlojlfcpmaagreatdoor", sum := "2000721fb23361a05250035b798508801524121ad519e3abb1d413c36c79c53a", func := "loop.example/invertedpages/laws.FnEndSpace", spec := "fnEndSpace", unfollowed := true, recurses := true, named := ["loop.example/invertedpages/impl.free"], plainKeys := false, apart := false, laid := [("loop.example/invertedpages/impl.free", laid_loop_example_invertedpages_impl_free)] }
def FnEndSpaceSaid : Prop := fnEndSpaceRow.holds Tryz.pinned (OpenSpec.ofChange fnEndSpaceSpec)

/-- ITS FALSE NEIGHBOUR: 'it returns false'. Refute it at one input. -/
def fnEndSpaceWrong : ChangeSpec := { name := "fnEndSpace", vars := ["loop.example/invertedpages/impl.free"], fn := fun _ => fun
  | [d, g1] => { results := [.lit (.bool false)], args := [d], vars := [g1] }
  | _ => none }
def FnEndSpaceWrongFalsely : Prop := fnEndSpaceRow.holds Tryz.pinned (OpenSpec.ofChange fnEndSpaceWrong)

/-- 'laws.FnPutRange': WHATEVER THE INPUT: true; the input reads as it did. -/
def fnPutRangeSpec : ChangeSpec := { name := "fnPutRange", vars := ["loop.example/invertedpages/impl.free"], fn := fun _ => fun
  | [d, g1] => { results := [.lit (.bool true)], args := [d], vars := [g1] }
  | _ => none }
def fnPutRangeRow : OpenClaim := { program := "ytibpnlojlfcpmaagreatdoor", sum := "2000721fb23361a05250035b798508801524121ad519e3abb1d413c36c79c53a", func := "loop.example/invertedpages/laws.FnPutRange", spec := "fnPutRange", unfollowed := true, recurses := true, named := ["loop.example/invertedpages/impl.free"], plainKeys := false, apart := false, laid := [("loop.example/invertedpages/impl.free", laid_loop_example_invertedpages_impl_free)] }
def FnPutRangeSaid : Prop := fnPutRangeRow.holds Tryz.pinned (OpenSpec.ofChange fnPutRangeSpec)

/-- ITS FALSE NEIGHBOUR: 'it returns false'. Refute it at one input. -/
def fnPutRangeWrong : ChangeSpec := { name := "fnPutRange", vars := ["loop.example/invertedpages/impl.free"], fn := fun _ => fun
  | [d, g1] => { results := [.lit (.bool false)], args := [d], vars := [g1] }
  | _ => none }
def FnPutRangeWrongFalsely : Prop := fnPutRangeRow.holds Tryz.pinned (OpenSpec.ofChange fnPutRangeWrong)

/-- 'laws.FnTakeRange': WHATEVER THE INPUT: true; the input reads as it did. -/
def fnTakeRangeSpec : ChangeSpec := { name := "fnTakeRange", vars := ["loop.example/invertedpages/impl.free"], fn := fun _ => fun
  | [d, g1] => { results := [.lit (.bool true)], args := [d], vars := [g1] }
  | _ => none }
def fnTakeRangeRow : OpenClaim := { program := "ytibpnlojlfcpmaagreatdoor", sum := "2000721fb23361a05250035b798508801524121ad519e3abb1d413c36c79c53a", func := "loop.example/invertedpages/laws.FnTakeRange", spec := "fnTakeRange", unfollowed := true, recurses := true, named := ["loop.example/invertedpages/impl.free"], plainKeys := false, apart := false, laid := [("loop.example/invertedpages/impl.free", laid_loop_example_invertedpages_impl_free)] }
def FnTakeRangeSaid : Prop := fnTakeRangeRow.holds Tryz.pinned (OpenSpec.ofChange fnTakeRangeSpec)

/-- ITS FALSE NEIGHBOUR: 'it returns false'. Refute it at one input. -/
def fnTakeRangeWrong : ChangeSpec := { name := "fnTakeRange", vars := ["loop.example/invertedpages/impl.free"], fn := fun _ => fun
  | [d, g1] => { results := [.lit (.bool false)], args := [d], vars := [g1] }
  | _ => none }
def FnTakeRangeWrongFalsely : Prop := fnTakeRangeRow.holds Tryz.pinned (OpenSpec.ofChange fnTakeRangeWrong)

/-- 'laws.FnTakePage': WHATEVER THE INPUT: true; the input reads as it did. -/
def fnTakePageSpec : ChangeSpec := { name := "fnTakePage", vars := ["loop.example/invertedpages/impl.free"], fn := fun _ => fun
  | [d, g1] => { results := [.lit (.bool true)], args := [d], vars := [g1] }
  | _ => none }
def fnTakePageRow : OpenClaim := { program := "ytibpnlojlfcpmaagreatdoor", sum := "2000721fb23361a05250035b798508801524121ad519e3abb1d413c36c79c53a", func := "loop.example/invertedpages/laws.FnTakePage", spec := "fnTakePage", unfollowed := true, recurses := true, named := ["loop.example/invertedpages/impl.free"], plainKeys := false, apart := false, laid := [("loop.example/invertedpages/impl.free", laid_loop_example_invertedpages_impl_free)] }
def FnTakePageSaid : Prop := fnTakePageRow.holds Tryz.pinned (OpenSpec.ofChange fnTakePageSpec)

/-- ITS FALSE NEIGHBOUR: 'it returns false'. Refute it at one input. -/
def fnTakePageWrong : ChangeSpec := { name := "fnTakePage", vars := ["loop.example/invertedpages/impl.free"], fn := fun _ => fun
  | [d, g1] => { results := [.lit (.bool false)], args := [d], vars := [g1] }
  | _ => none }
def FnTakePageWrongFalsely : Prop := fnTakePageRow.holds Tryz.pinned (OpenSpec.ofChange fnTakePageWrong)

/-- 'laws.FnEndTwice': WHATEVER THE INPUT: true; the input reads as it did. -/
def fnEndTwiceSpec : ChangeSpec := { name := "fnEndTwice", vars := ["loop.example/invertedpages/impl.free"], fn := fun _ => fun
  | [d, g1] => { results := [.lit (.bool true)], args := [d], vars := [g1] }
  | _ => none }
def fnEndTwiceRow : OpenClaim := { program := "ytibpnlojlfcpmaagreatdoor", sum := "2000721fb23361a05250035b798508801524121ad519e3abb1d413c36c79c53a", func := "loop.example/invertedpages/laws.FnEndTwice", spec := "fnEndTwice", unfollowed := true, recurses := true, named := ["loop.example/invertedpages/impl.free"], plainKeys := false, apart := false, laid := [("loop.example/invertedpages/impl.free", laid_loop_example_invertedpages_impl_free)] }
def FnEndTwiceSaid : Prop := fnEndTwiceRow.holds Tryz.pinned (OpenSpec.ofChange fnEndTwiceSpec)

/-- ITS FALSE NEIGHBOUR: 'it returns false'. Refute it at one input. -/
def fnEndTwiceWrong : ChangeSpec := { name := "fnEndTwice", vars := ["loop.example/invertedpages/impl.free"], fn := fun _ => fun
  | [d, g1] => { results := [.lit (.bool false)], args := [d], vars := [g1] }
  | _ => none }
def FnEndTwiceWrongFalsely : Prop := fnEndTwiceRow.holds Tryz.pinned (OpenSpec.ofChange fnEndTwiceWrong)

/-- 'laws.FnExactEndSpace': WHATEVER THE INPUT: true; the input reads as it did. -/
def fnExactEndSpaceSpec : ChangeSpec := { name := "fnExactEndSpace", vars := ["loop.example/invertedpages/impl.free"], fn := fun _ => fun
  | [d1, d2, g1] => { results := [.lit (.bool true)], args := [d1, d2], vars := [g1] }
  | _ => none }
def fnExactEndSpaceRow : OpenClaim := { program := "ytibpnlojlfcpmaagreatdoor", sum := "2000721fb23361a05250035b798508801524121ad519e3abb1d413c36c79c53a", func := "loop.example/invertedpages/laws.FnExactEndSpace", spec := "fnExactEndSpace", unfollowed := true, recurses := true, named := ["loop.example/invertedpages/impl.free"], plainKeys := false, apart := false, laid := [("loop.example/invertedpages/impl.free", laid_loop_example_invertedpages_impl_free)] }
def FnExactEndSpaceSaid : Prop := fnExactEndSpaceRow.holds Tryz.pinned (OpenSpec.ofChange fnExactEndSpaceSpec)

/-- ITS FALSE NEIGHBOUR: 'it returns false'. Refute it at one input. -/
def fnExactEndSpaceWrong : ChangeSpec := { name := "fnExactEndSpace", vars := ["loop.example/invertedpages/impl.free"], fn := fun _ => fun
  | [d1, d2, g1] => { results := [.lit (.bool false)], args := [d1, d2], vars := [g1] }
  | _ => none }
def FnExactEndSpaceWrongFalsely : Prop := fnExactEndSpaceRow.holds Tryz.pinned (OpenSpec.ofChange fnExactEndSpaceWrong)

/-- 'laws.FnExactTouchBytes': WHATEVER THE INPUT: true; the input reads as it did. -/
def fnExactTouchBytesSpec : ChangeSpec := { name := "fnExactTouchBytes", vars := ["loop.example/invertedpages/impl.free"], fn := fun _ => fun
  | [d1, d2, d3, d4, d5, g1] => { results := [.lit (.bool true)], args := [d1, d2, d3, d4, d5], vars := [g1] }
  | _ => none }
def fnExactTouchBytesRow : OpenClaim := { program := "ytibpnlojlfcpmaagreatdoor", sum := "2000721fb23361a05250035b798508801524121ad519e3abb1d413c36c79c53a", func := "loop.example/invertedpages/laws.FnExactTouchBytes", spec := "fnExactTouchBytes", unfollowed := true, recurses := true, named := ["loop.example/invertedpages/impl.free"], plainKeys := false, apart := false, laid := [("loop.example/invertedpages/impl.free", laid_loop_example_invertedpages_impl_free)] }
def FnExactTouchBytesSaid : Prop := fnExactTouchBytesRow.holds Tryz.pinned (OpenSpec.ofChange fnExactTouchBytesSpec)

/-- ITS FALSE NEIGHBOUR: 'it returns false'. Refute it at one input. -/
def fnExactTouchBytesWrong : ChangeSpec := { name := "fnExactTouchBytes", vars := ["loop.example/invertedpages/impl.free"], fn := fun _ => fun
  | [d1, d2, d3, d4, d5, g1] => { results := [.lit (.bool false)], args := [d1, d2, d3, d4, d5], vars := [g1] }
  | _ => none }
def FnExactTouchBytesWrongFalsely : Prop := fnExactTouchBytesRow.holds Tryz.pinned (OpenSpec.ofChange fnExactTouchBytesWrong)

/- THE SECOND FORM. 'bulk': how many values and letters a reading holds, each counted each time it is reached (what is shared counts as often as it is met; a slice's spare places count too). A statement '..UptoSaid' is the law's where the arguments, and the package variables that the reading takes, are together of bulk at most 1048576: NARROWER than '..Said'. Prove '..Said' where nothing that the law and all that it calls make is longer than what came in: it says more and counts as full. Else prove '..UptoSaid'. A law counts once. -/
mutual
def uptoBulk {H : Type} : DataW H → Nat
  | .lit (.string bytes) => bytes.length + 1
  | .lit _ => 1
  | .nil => 1
  | .ptr d => uptoBulk d + 1
  | .slice elems spare => uptoBulkAll elems + uptoBulkAll spare + 1
  | .agg parts => uptoBulkAll parts + 1
  | .iface _ d => uptoBulk d + 1
  | .map entries => uptoBulkEntries entries + 1
  | .held _ => 1
def uptoBulkAll {H : Type} : List (DataW H) → Nat
  | [] => 0
  | d :: r => uptoBulk d + uptoBulkAll r
def uptoBulkEntries {H : Type} : List (Lit × DataW H) → Nat
  | [] => 0
  | x :: r => uptoBulkEntry x + uptoBulkEntries r
def uptoBulkEntry {H : Type} : Lit × DataW H → Nat
  | (.string bytes, d) => bytes.length + uptoBulk d + 1
  | (_, d) => uptoBulk d + 1
 end
def uptoSmall : (H : Type) → List (DataW H) → Bool := fun _ ds => decide (uptoBulkAll ds ≤ 1048576)
def OpenSpec.upto (s : _root_.Go.ChangeSpec) : _root_.Go.OpenSpec := { _root_.Go.OpenSpec.ofChange s with cond := some uptoSmall }

/-- 'laws.FnExactRangesOf', WHERE WHAT IT READS IS OF BULK AT MOST 1048576: true; the input reads as it did. -/
def fnExactRangesOfUptoRow : OpenClaim := { program := "ytibpnlojlfcpmaagreatdoor", sum := "2000721fb23361a05250035b798508801524121ad519e3abb1d413c36c79c53a", func := "loop.example/invertedpages/laws.FnExactRangesOf", spec := "fnExactRangesOf", unfollowed := true, recurses := true, named := ["loop.example/invertedpages/impl.free"], plainKeys := false, apart := false, laid := [("loop.example/invertedpages/impl.free", laid_loop_example_invertedpages_impl_free)], narrowed := true }
def FnExactRangesOfUptoSaid : Prop := fnExactRangesOfUptoRow.holds Tryz.pinned (OpenSpec.upto fnExactRangesOfSpec)

/-- 'laws.FnRangesOf', WHERE WHAT IT READS IS OF BULK AT MOST 1048576: true; the input reads as it did. -/
def fnRangesOfUptoRow : OpenClaim := { program := "ytibpnlojlfcpmaagreatdoor", sum := "2000721fb23361a05250035b798508801524121ad519e3abb1d413c36c79c53a", func := "loop.example/invertedpages/laws.FnRangesOf", spec := "fnRangesOf", unfollowed := true, recurses := true, named := ["loop.example/invertedpages/impl.free"], plainKeys := false, apart := false, laid := [("loop.example/invertedpages/impl.free", laid_loop_example_invertedpages_impl_free)], narrowed := true }
def FnRangesOfUptoSaid : Prop := fnRangesOfUptoRow.holds Tryz.pinned (OpenSpec.upto fnRangesOfSpec)

/-- 'laws.FnRangeGuard', WHERE WHAT IT READS IS OF BULK AT MOST 1048576: true; the input reads as it did. -/
def fnRangeGuardUptoRow : OpenClaim := { program := "ytibpnlojlfcpmaagreatdoor", sum := "2000721fb23361a05250035b798508801524121ad519e3abb1d413c36c79c53a", func := "loop.example/invertedpages/laws.FnRangeGuard", spec := "fnRangeGuard", unfollowed := true, recurses := true, named := ["loop.example/invertedpages/impl.free"], plainKeys := false, apart := false, laid := [("loop.example/invertedpages/impl.free", laid_loop_example_invertedpages_impl_free)], narrowed := true }
def FnRangeGuardUptoSaid : Prop := fnRangeGuardUptoRow.holds Tryz.pinned (OpenSpec.upto fnRangeGuardSpec)

/-- 'laws.FnEndSpace', WHERE WHAT IT READS IS OF BULK AT MOST 1048576: true; the input reads as it did. -/
def fnEndSpaceUptoRow : OpenClaim := { program := "ytibpnlojlfcpmaagreatdoor", sum := "2000721fb23361a05250035b798508801524121ad519e3abb1d413c36c79c53a", func := "loop.example/invertedpages/laws.FnEndSpace", spec := "fnEndSpace", unfollowed := true, recurses := true, named := ["loop.example/invertedpages/impl.free"], plainKeys := false, apart := false, laid := [("loop.example/invertedpages/impl.free", laid_loop_example_invertedpages_impl_free)], narrowed := true }
def FnEndSpaceUptoSaid : Prop := fnEndSpaceUptoRow.holds Tryz.pinned (OpenSpec.upto fnEndSpaceSpec)

/-- 'laws.FnPutRange', WHERE WHAT IT READS IS OF BULK AT MOST 1048576: true; the input reads as it did. -/
def fnPutRangeUptoRow : OpenClaim := { program := "ytibpnlojlfcpmaagreatdoor", sum := "2000721fb23361a05250035b798508801524121ad519e3abb1d413c36c79c53a", func := "loop.example/invertedpages/laws.FnPutRange", spec := "fnPutRange", unfollowed := true, recurses := true, named := ["loop.example/invertedpages/impl.free"], plainKeys := false, apart := false, laid := [("loop.example/invertedpages/impl.free", laid_loop_example_invertedpages_impl_free)], narrowed := true }
def FnPutRangeUptoSaid : Prop := fnPutRangeUptoRow.holds Tryz.pinned (OpenSpec.upto fnPutRangeSpec)

/-- 'laws.FnTakeRange', WHERE WHAT IT READS IS OF BULK AT MOST 1048576: true; the input reads as it did. -/
def fnTakeRangeUptoRow : OpenClaim := { program := "ytibpnlojlfcpmaagreatdoor", sum := "2000721fb23361a05250035b798508801524121ad519e3abb1d413c36c79c53a", func := "loop.example/invertedpages/laws.FnTakeRange", spec := "fnTakeRange", unfollowed := true, recurses := true, named := ["loop.example/invertedpages/impl.free"], plainKeys := false, apart := false, laid := [("loop.example/invertedpages/impl.free", laid_loop_example_invertedpages_impl_free)], narrowed := true }
def FnTakeRangeUptoSaid : Prop := fnTakeRangeUptoRow.holds Tryz.pinned (OpenSpec.upto fnTakeRangeSpec)

/-- 'laws.FnTakePage', WHERE WHAT IT READS IS OF BULK AT MOST 1048576: true; the input reads as it did. -/
def fnTakePageUptoRow : OpenClaim := { program := "ytibpnlojlfcpmaagreatdoor", sum := "2000721fb23361a05250035b798508801524121ad519e3abb1d413c36c79c53a", func := "loop.example/invertedpages/laws.FnTakePage", spec := "fnTakePage", unfollowed := true, recurses := true, named := ["loop.example/invertedpages/impl.free"], plainKeys := false, apart := false, laid := [("loop.example/invertedpages/impl.free", laid_loop_example_invertedpages_impl_free)], narrowed := true }
def FnTakePageUptoSaid : Prop := fnTakePageUptoRow.holds Tryz.pinned (OpenSpec.upto fnTakePageSpec)

/-- 'laws.FnEndTwice', WHERE WHAT IT READS IS OF BULK AT MOST 1048576: true; the input reads as it did. -/
def fnEndTwiceUptoRow : OpenClaim := { program := "ytibpnlojlfcpmaagreatdoor", sum := "2000721fb23361a05250035b798508801524121ad519e3abb1d413c36c79c53a", func := "loop.example/invertedpages/laws.FnEndTwice", spec := "fnEndTwice", unfollowed := true, recurses := true, named := ["loop.example/invertedpages/impl.free"], plainKeys := false, apart := false, laid := [("loop.example/invertedpages/impl.free", laid_loop_example_invertedpages_impl_free)], narrowed := true }
def FnEndTwiceUptoSaid : Prop := fnEndTwiceUptoRow.holds Tryz.pinned (OpenSpec.upto fnEndTwiceSpec)

/-- 'laws.FnExactEndSpace', WHERE WHAT IT READS IS OF BULK AT MOST 1048576: true; the input reads as it did. -/
def fnExactEndSpaceUptoRow : OpenClaim := { program := "ytibpnlojlfcpmaagreatdoor", sum := "2000721fb23361a05250035b798508801524121ad519e3abb1d413c36c79c53a", func := "loop.example/invertedpages/laws.FnExactEndSpace", spec := "fnExactEndSpace", unfollowed := true, recurses := true, named := ["loop.example/invertedpages/impl.free"], plainKeys := false, apart := false, laid := [("loop.example/invertedpages/impl.free", laid_loop_example_invertedpages_impl_free)], narrowed := true }
def FnExactEndSpaceUptoSaid : Prop := fnExactEndSpaceUptoRow.holds Tryz.pinned (OpenSpec.upto fnExactEndSpaceSpec)

/-- 'laws.FnExactTouchBytes', WHERE WHAT IT READS IS OF BULK AT MOST 1048576: true; the input reads as it did. -/
def fnExactTouchBytesUptoRow : OpenClaim := { program := "ytibpnlojlfcpmaagreatdoor", sum := "2000721fb23361a05250035b798508801524121ad519e3abb1d413c36c79c53a", func := "loop.example/invertedpages/laws.FnExactTouchBytes", spec := "fnExactTouchBytes", unfollowed := true, recurses := true, named := ["loop.example/invertedpages/impl.free"], plainKeys := false, apart := false, laid := [("loop.example/invertedpages/impl.free", laid_loop_example_invertedpages_impl_free)], narrowed := true }
def FnExactTouchBytesUptoSaid : Prop := fnExactTouchBytesUptoRow.holds Tryz.pinned (OpenSpec.upto fnExactTouchBytesSpec)

end Rows
end Go.Proofs.YtibpnlojlfcpmaaGreatDoor
