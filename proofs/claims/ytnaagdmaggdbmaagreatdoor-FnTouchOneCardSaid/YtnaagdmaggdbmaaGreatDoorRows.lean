/-
  NARROWER THAN 'FOR EVERY INPUT', by the rows' own cells (each row's printed sentence says how): FnPutParts: laid · FnGuardOne: laid · FnGuardRange: laid · FnTakeOne: laid · FnByteNext: laid · FnFindByte: laid · FnExactFindByte: laid · FnTouchBytes: laid · FnTouchOne: laid · FnExactTouchBytes: laid.
  DERIVED. THE GIVEN ROWS OF THIS SEAT. 10 by the template 'for every input the law returns true; each argument reads behind the call as it read before'; 0 by the template 'total and deterministic' (their statements: YtnaagdmaggdbmaaGreatDoorTotals.lean).
  GIVEN WITH THE SEED: the statements are not yours to turn. If you find one false, say at which input.
  Laid BY PROGRAM, IN A SANDBOX (cutbox-rows.mjs): the forced cells as the released guide's own fill.sh prints them over the translation f6f5f39361857f67… (all of the seat's roots in one cut). By AI agents, Wed Nov 11 2026. No macro, syntax, notation, axiom, sorry.
-/
import Derived.Test.YtnaagdmaggdbmaaGreatDoorChecked
import GoSem.Claim
import GoSem.ClaimJoined
import GoSem.ClaimMapViews
import Derived.JoinedTies
import Derived.KernelRfl
namespace Go.Proofs.YtnaagdmaggdbmaaGreatDoor
/- THE CELL 'sum', in the pinned program and in every row, IS THE sha256 OF THE DUMP (.gsa) THAT YtnaagdmaggdbmaaGreatDoorProg.lean LOADS. Nothing in Lean hashes anything: it is a label: what it is worth is what the hold of that sum in a sandbox is worth. -/
noncomputable def Tryz.pinned : Pinned := { name := "ytnaagdmaggdbmaagreatdoor", sum := "f6f5f39361857f6767adde22530eb39d4e9ac1f4e82d468d2a6026215ed60245", checked := Tryz.checked }
namespace Rows
def none {H : Type} : Left H := { results := [], args := [] }

/- WHAT THE LISTED PACKAGE-LEVEL VARIABLES READ AS WHEN THE CALL BEGINS. Each datum BY PROGRAM (the guide's laid-datum.mjs) off the statement by which the dump's own 'gosem.cut.vars' lays the variable. In a bare row this is a premise. The card (YtnaagdmaggdbmaaGreatDoorCards.lean) ties it to the program's text. -/
def laid_loop_example_invertedpages_impl_free {H : Type} : DataW H := .agg [.lit (.bool false), .agg [.lit (.int .i64 0), .lit (.int .i64 0)], .lit (.int .i64 0), .lit (.int .i64 (-1))]

/-- 'laws.FnPutParts': WHATEVER THE INPUT: true; the input reads as it did. -/
def fnPutPartsSpec : ChangeSpec := { name := "fnPutParts", vars := ["loop.example/invertedpages/impl.free"], fn := fun _ => fun
  | [d, g1] => { results := [.lit (.bool true)], args := [d], vars := [g1] }
  | _ => none }
def fnPutPartsRow : OpenClaim := { program := "ytnaagdmaggdbmaagreatdoor", sum := "f6f5f39361857f6767adde22530eb39d4e9ac1f4e82d468d2a6026215ed60245", func := "loop.example/invertedpages/laws.FnPutParts", spec := "fnPutParts", unfollowed := true, recurses := true, named := ["loop.example/invertedpages/impl.free"], plainKeys := false, apart := false, laid := [("loop.example/invertedpages/impl.free", laid_loop_example_invertedpages_impl_free)] }
def FnPutPartsSaid : Prop := fnPutPartsRow.holds Tryz.pinned (OpenSpec.ofChange fnPutPartsSpec)

/-- ITS FALSE NEIGHBOUR: 'it returns false'. Refute it at one input. -/
def fnPutPartsWrong : ChangeSpec := { name := "fnPutParts", vars := ["loop.example/invertedpages/impl.free"], fn := fun _ => fun
  | [d, g1] => { results := [.lit (.bool false)], args := [d], vars := [g1] }
  | _ => none }
def FnPutPartsWrongFalsely : Prop := fnPutPartsRow.holds Tryz.pinned (OpenSpec.ofChange fnPutPartsWrong)

/-- 'laws.FnGuardOne': WHATEVER THE INPUT: true; the input reads as it did. -/
def fnGuardOneSpec : ChangeSpec := { name := "fnGuardOne", vars := ["loop.example/invertedpages/impl.free"], fn := fun _ => fun
  | [d, g1] => { results := [.lit (.bool true)], args := [d], vars := [g1] }
  | _ => none }
def fnGuardOneRow : OpenClaim := { program := "ytnaagdmaggdbmaagreatdoor", sum := "f6f5f39361857f6767adde22530eb39d4e9ac1f4e82d468d2a6026215ed60245", func := "loop.example/invertedpages/laws.FnGuardOne", spec := "fnGuardOne", unfollowed := true, recurses := true, named := ["loop.example/invertedpages/impl.free"], plainKeys := false, apart := false, laid := [("loop.example/invertedpages/impl.free", laid_loop_example_invertedpages_impl_free)] }
def FnGuardOneSaid : Prop := fnGuardOneRow.holds Tryz.pinned (OpenSpec.ofChange fnGuardOneSpec)

/-- ITS FALSE NEIGHBOUR: 'it returns false'. Refute it at one input. -/
def fnGuardOneWrong : ChangeSpec := { name := "fnGuardOne", vars := ["loop.example/invertedpages/impl.free"], fn := fun _ => fun
  | [d, g1] => { results := [.lit (.bool false)], args := [d], vars := [g1] }
  | _ => none }
def FnGuardOneWrongFalsely : Prop := fnGuardOneRow.holds Tryz.pinned (OpenSpec.ofChange fnGuardOneWrong)

/-- 'laws.FnGuardRange': WHATEVER THE INPUT: true; the input reads as it did. -/
def fnGuardRangeSpec : ChangeSpec := { name := "fnGuardRange", vars := ["loop.example/invertedpages/impl.free"], fn := fun _ => fun
  | [d, g1] => { results := [.lit (.bool true)], args := [d], vars := [g1] }
  | _ => none }
def fnGuardRangeRow : OpenClaim := { program := "ytnaagdmaggdbmaagreatdoor", sum := "f6f5f39361857f6767adde22530eb39d4e9ac1f4e82d468d2a6026215ed60245", func := "loop.example/invertedpages/laws.FnGuardRange", spec := "fnGuardRange", unfollowed := true, recurses := true, named := ["loop.example/invertedpages/impl.free"], plainKeys := false, apart := false, laid := [("loop.example/invertedpages/impl.free", laid_loop_example_invertedpages_impl_free)] }
def FnGuardRangeSaid : Prop := fnGuardRangeRow.holds Tryz.pinned (OpenSpec.ofChange fnGuardRangeSpec)

/-- ITS FALSE NEIGHBOUR: 'it returns false'. Refute it at one input. -/
def fnGuardRangeWrong : ChangeSpec := { name := "fnGuardRange", vars := ["loop.example/invertedpages/impl.free"], fn := fun _ => fun
  | [d, g1] => { results := [.lit (.bool false)], args := [d], vars := [g1] }
  | _ => none }
def FnGuardRangeWrongFalsely : Prop := fnGuardRangeRow.holds Tryz.pinned (OpenSpec.ofChange fnGuardRangeWrong)

/-- 'laws.FnTakeOne': WHATEVER THE INPUT: true; the input reads as it did. -/
def fnTakeOneSpec : ChangeSpec := { name := "fnTakeOne", vars := ["loop.example/invertedpages/impl.free"], fn := fun _ => fun
  | [d, g1] => { results := [.lit (.bool true)], args := [d], vars := [g1] }
  | _ => none }
def fnTakeOneRow : OpenClaim := { program := "ytnaagdmaggdbmaagreatdoor", sum := "f6f5f39361857f6767adde22530eb39d4e9ac1f4e82d468d2a6026215ed60245", func := "loop.example/invertedpages/laws.FnTakeOne", spec := "fnTakeOne", unfollowed := true, recurses := true, named := ["loop.example/invertedpages/impl.free"], plainKeys := false, apart := false, laid := [("loop.example/invertedpages/impl.free", laid_loop_example_invertedpages_impl_free)] }
def FnTakeOneSaid : Prop := fnTakeOneRow.holds Tryz.pinned (OpenSpec.ofChange fnTakeOneSpec)

/-- ITS FALSE NEIGHBOUR: 'it returns false'. Refute it at one input. -/
def fnTakeOneWrong : ChangeSpec := { name := "fnTakeOne", vars := ["loop.example/invertedpages/impl.free"], fn := fun _ => fun
  | [d, g1] => { results := [.lit (.bool false)], args := [d], vars := [g1] }
  | _ => none }
def FnTakeOneWrongFalsely : Prop := fnTakeOneRow.holds Tryz.pinned (OpenSpec.ofChange fnTakeOneWrong)

/-- 'laws.FnByteNext': WHATEVER THE INPUT: true; the input reads as it did. -/
def fnByteNextSpec : ChangeSpec := { name := "fnByteNext", vars := ["loop.example/invertedpages/impl.free"], fn := fun _ => fun
  | [d, g1] => { results := [.lit (.bool true)], args := [d], vars := [g1] }
  | _ => none }
def fnByteNextRow : OpenClaim := { program := "ytnaagdmaggdbmaagreatdoor", sum := "f6f5f39361857f6767adde22530eb39d4e9ac1f4e82d468d2a6026215ed60245", func := "loop.example/invertedpages/laws.FnByteNext", spec := "fnByteNext", unfollowed := true, recurses := true, named := ["loop.example/invertedpages/impl.free"], plainKeys := false, apart := false, laid := [("loop.example/invertedpages/impl.free", laid_loop_example_invertedpages_impl_free)] }
def FnByteNextSaid : Prop := fnByteNextRow.holds Tryz.pinned (OpenSpec.ofChange fnByteNextSpec)

/-- ITS FALSE NEIGHBOUR: 'it returns false'. Refute it at one input. -/
def fnByteNextWrong : ChangeSpec := { name := "fnByteNext", vars := ["loop.example/invertedpages/impl.free"], fn := fun _ => fun
  | [d, g1] => { results := [.lit (.bool false)], args := [d], vars := [g1] }
  | _ => none }
def FnByteNextWrongFalsely : Prop := fnByteNextRow.holds Tryz.pinned (OpenSpec.ofChange fnByteNextWrong)

/-- 'laws.FnFindByte': WHATEVER THE INPUT: true; the input reads as it did. -/
def fnFindByteSpec : ChangeSpec := { name := "fnFindByte", vars := ["loop.example/invertedpages/impl.free"], fn := fun _ => fun
  | [d, g1] => { results := [.lit (.bool true)], args := [d], vars := [g1] }
  | _ => none }
def fnFindByteRow : OpenClaim := { program := "ytnaagdmaggdbmaagreatdoor", sum := "f6f5f39361857f6767adde22530eb39d4e9ac1f4e82d468d2a6026215ed60245", func := "loop.example/invertedpages/laws.FnFindByte", spec := "fnFindByte", unfollowed := true, recurses := true, named := ["loop.example/invertedpages/impl.free"], plainKeys := false, apart := false, laid := [("loop.example/invertedpages/impl.free", laid_loop_example_invertedpages_impl_free)] }
def FnFindByteSaid : Prop := fnFindByteRow.holds Tryz.pinned (OpenSpec.ofChange fnFindByteSpec)

/-- ITS FALSE NEIGHBOUR: 'it returns false'. Refute it at one input. -/
def fnFindByteWrong : ChangeSpec := { name := "fnFindByte", vars := ["loop.example/invertedpages/impl.free"], fn := fun _ => fun
  | [d, g1] => { results := [.lit (.bool false)], args := [d], vars := [g1] }
  | _ => none }
def FnFindByteWrongFalsely : Prop := fnFindByteRow.holds Tryz.pinned (OpenSpec.ofChange fnFindByteWrong)

/-- 'laws.FnExactFindByte': WHATEVER THE INPUT: true; the input reads as it did. -/
def fnExactFindByteSpec : ChangeSpec := { name := "fnExactFindByte", vars := ["loop.example/invertedpages/impl.free"], fn := fun _ => fun
  | [d1, d2, d3, d4, g1] => { results := [.lit (.bool true)], args := [d1, d2, d3, d4], vars := [g1] }
  | _ => none }
def fnExactFindByteRow : OpenClaim := { program := "ytnaagdmaggdbmaagreatdoor", sum := "f6f5f39361857f6767adde22530eb39d4e9ac1f4e82d468d2a6026215ed60245", func := "loop.example/invertedpages/laws.FnExactFindByte", spec := "fnExactFindByte", unfollowed := true, recurses := true, named := ["loop.example/invertedpages/impl.free"], plainKeys := false, apart := false, laid := [("loop.example/invertedpages/impl.free", laid_loop_example_invertedpages_impl_free)] }
def FnExactFindByteSaid : Prop := fnExactFindByteRow.holds Tryz.pinned (OpenSpec.ofChange fnExactFindByteSpec)

/-- ITS FALSE NEIGHBOUR: 'it returns false'. Refute it at one input. -/
def fnExactFindByteWrong : ChangeSpec := { name := "fnExactFindByte", vars := ["loop.example/invertedpages/impl.free"], fn := fun _ => fun
  | [d1, d2, d3, d4, g1] => { results := [.lit (.bool false)], args := [d1, d2, d3, d4], vars := [g1] }
  | _ => none }
def FnExactFindByteWrongFalsely : Prop := fnExactFindByteRow.holds Tryz.pinned (OpenSpec.ofChange fnExactFindByteWrong)

/-- 'laws.FnTouchBytes': WHATEVER THE INPUT: true; the input reads as it did. -/
def fnTouchBytesSpec : ChangeSpec := { name := "fnTouchBytes", vars := ["loop.example/invertedpages/impl.free"], fn := fun _ => fun
  | [d, g1] => { results := [.lit (.bool true)], args := [d], vars := [g1] }
  | _ => none }
def fnTouchBytesRow : OpenClaim := { program := "ytnaagdmaggdbmaagreatdoor", sum := "f6f5f39361857f6767adde22530eb39d4e9ac1f4e82d468d2a6026215ed60245", func := "loop.example/invertedpages/laws.FnTouchBytes", spec := "fnTouchBytes", unfollowed := true, recurses := true, named := ["loop.example/invertedpages/impl.free"], plainKeys := false, apart := false, laid := [("loop.example/invertedpages/impl.free", laid_loop_example_invertedpages_impl_free)] }
def FnTouchBytesSaid : Prop := fnTouchBytesRow.holds Tryz.pinned (OpenSpec.ofChange fnTouchBytesSpec)

/-- ITS FALSE NEIGHBOUR: 'it returns false'. Refute it at one input. -/
def fnTouchBytesWrong : ChangeSpec := { name := "fnTouchBytes", vars := ["loop.example/invertedpages/impl.free"], fn := fun _ => fun
  | [d, g1] => { results := [.lit (.bool false)], args := [d], vars := [g1] }
  | _ => none }
def FnTouchBytesWrongFalsely : Prop := fnTouchBytesRow.holds Tryz.pinned (OpenSpec.ofChange fnTouchBytesWrong)

/-- 'laws.FnTouchOne': WHATEVER THE INPUT: true; the input reads as it did. -/
def fnTouchOneSpec : ChangeSpec := { name := "fnTouchOne", vars := ["loop.example/invertedpages/impl.free"], fn := fun _ => fun
  | [d, g1] => { results := [.lit (.bool true)], args := [d], vars := [g1] }
  | _ => none }
def fnTouchOneRow : OpenClaim := { program := "ytnaagdmaggdbmaagreatdoor", sum := "f6f5f39361857f6767adde22530eb39d4e9ac1f4e82d468d2a6026215ed60245", func := "loop.example/invertedpages/laws.FnTouchOne", spec := "fnTouchOne", unfollowed := true, recurses := true, named := ["loop.example/invertedpages/impl.free"], plainKeys := false, apart := false, laid := [("loop.example/invertedpages/impl.free", laid_loop_example_invertedpages_impl_free)] }
def FnTouchOneSaid : Prop := fnTouchOneRow.holds Tryz.pinned (OpenSpec.ofChange fnTouchOneSpec)

/-- ITS FALSE NEIGHBOUR: 'it returns false'. Refute it at one input. -/
def fnTouchOneWrong : ChangeSpec := { name := "fnTouchOne", vars := ["loop.example/invertedpages/impl.free"], fn := fun _ => fun
  | [d, g1] => { results := [.lit (.bool false)], args := [d], vars := [g1] }
  | _ => none }
def FnTouchOneWrongFalsely : Prop := fnTouchOneRow.holds Tryz.pinned (OpenSpec.ofChange fnTouchOneWrong)

/-- 'laws.FnExactTouchBytes': WHATEVER THE INPUT: true; the input reads as it did. -/
def fnExactTouchBytesSpec : ChangeSpec := { name := "fnExactTouchBytes", vars := ["loop.example/invertedpages/impl.free"], fn := fun _ => fun
  | [d1, d2, d3, d4, d5, g1] => { results := [.lit (.bool true)], args := [d1, d2, d3, d4, d5], vars := [g1] }
  | _ => none }
def fnExactTouchBytesRow : OpenClaim := { program := "ytnaagdmaggdbmaagreatdoor", sum := "f6f5f39361857f6767adde22530eb39d4e9ac1f4e82d468d2a6026215ed60245", func := "loop.example/invertedpages/laws.FnExactTouchBytes", spec := "fnExactTouchBytes", unfollowed := true, recurses := true, named := ["loop.example/invertedpages/impl.free"], plainKeys := false, apart := false, laid := [("loop.example/invertedpages/impl.free", laid_loop_example_invertedpages_impl_free)] }
def FnExactTouchBytesSaid : Prop := fnExactTouchBytesRow.holds Tryz.pinned (OpenSpec.ofChange fnExactTouchBytesSpec)

/-- ITS FALSE NEIGHBOUR: 'it returns false'. Refute it at one input. -/
def fnExactTouchBytesWrong : ChangeSpec := { name := "fnExactTouchBytes", vars := ["loop.example/invertedpages/impl.free"], fn := fun _ => fun
  | [d1, d2, d3, d4, d5, g1] => { results := [.lit (.bool false)], args := [d1, d2, d3, d4, d5], vars := [g1] }
  | _ => none }
def FnExactTouchBytesWrongFalsely : Prop := fnExactTouchBytesRow.holds Tryz.pinned (OpenSpec.ofChange fnExactTouchBytesWrong)

/- THE SECOND FORM. 'bulk': how many values and letters a reading holds, each counted each time it is reached (what is shared counts as often as it is met; a slice's spare places count too). A statement '..UptoSaid' is the law's where the arguments, and the package variables that the reading takes, are together of bulk at most 1048576: NARROWER than '..Said'. Prove '..Said' where nothing that the law and all that it calls make is longer than what came in: it says more and counts as full. Else prove '..UptoSaid'. A law counts once. -/
mutual
def uptoBulk {H : Type} : DataW H → Nat
  | .lit (.string bytes) => bytes.length + 1
  | .lit _ => 1
  | .nil => 1
  | .ptr d => uptoBulk d + 1
  | .slice elems spare => uptoBulkAll elems + uptoBulkAll spare + 1
  | .agg parts => uptoBulkAll parts + 1
  | .iface _ d => uptoBulk d + 1
  | .map entries => uptoBulkEntries entries + 1
  | .held _ => 1
def uptoBulkAll {H : Type} : List (DataW H) → Nat
  | [] => 0
  | d :: r => uptoBulk d + uptoBulkAll r
def uptoBulkEntries {H : Type} : List (Lit × DataW H) → Nat
  | [] => 0
  | x :: r => uptoBulkEntry x + uptoBulkEntries r
def uptoBulkEntry {H : Type} : Lit × DataW H → Nat
  | (.string bytes, d) => bytes.length + uptoBulk d + 1
  | (_, d) => uptoBulk d + 1
 end
def uptoSmall : (H : Type) → List (DataW H) → Bool := fun _ ds => decide (uptoBulkAll ds ≤ 1048576)
def OpenSpec.upto (s : _root_.Go.ChangeSpec) : _root_.Go.OpenSpec := { _root_.Go.OpenSpec.ofChange s with cond := some uptoSmall }

/-- 'laws.FnPutParts', WHERE WHAT IT READS IS OF BULK AT MOST 1048576: true; the input reads as it did. -/
def fnPutPartsUptoRow : OpenClaim := { program := "ytnaagdmaggdbmaagreatdoor", sum := "f6f5f39361857f6767adde22530eb39d4e9ac1f4e82d468d2a6026215ed60245", func := "loop.example/invertedpages/laws.FnPutParts", spec := "fnPutParts", unfollowed := true, recurses := true, named := ["loop.example/invertedpages/impl.free"], plainKeys := false, apart := false, laid := [("loop.example/invertedpages/impl.free", laid_loop_example_invertedpages_impl_free)], narrowed := true }
def FnPutPartsUptoSaid : Prop := fnPutPartsUptoRow.holds Tryz.pinned (OpenSpec.upto fnPutPartsSpec)

/-- 'laws.FnGuardOne', WHERE WHAT IT READS IS OF BULK AT MOST 1048576: true; the input reads as it did. -/
def fnGuardOneUptoRow : OpenClaim := { program := "ytnaagdmaggdbmaagreatdoor", sum := "f6f5f39361857f6767adde22530eb39d4e9ac1f4e82d468d2a6026215ed60245", func := "loop.example/invertedpages/laws.FnGuardOne", spec := "fnGuardOne", unfollowed := true, recurses := true, named := ["loop.example/invertedpages/impl.free"], plainKeys := false, apart := false, laid := [("loop.example/invertedpages/impl.free", laid_loop_example_invertedpages_impl_free)], narrowed := true }
def FnGuardOneUptoSaid : Prop := fnGuardOneUptoRow.holds Tryz.pinned (OpenSpec.upto fnGuardOneSpec)

/-- 'laws.FnGuardRange', WHERE WHAT IT READS IS OF BULK AT MOST 1048576: true; the input reads as it did. -/
def fnGuardRangeUptoRow : OpenClaim := { program := "ytnaagdmaggdbmaagreatdoor", sum := "f6f5f39361857f6767adde22530eb39d4e9ac1f4e82d468d2a6026215ed60245", func := "loop.example/invertedpages/laws.FnGuardRange", spec := "fnGuardRange", unfollowed := true, recurses := true, named := ["loop.example/invertedpages/impl.free"], plainKeys := false, apart := false, laid := [("loop.example/invertedpages/impl.free", laid_loop_example_invertedpages_impl_free)], narrowed := true }
def FnGuardRangeUptoSaid : Prop := fnGuardRangeUptoRow.holds Tryz.pinned (OpenSpec.upto fnGuardRangeSpec)

/-- 'laws.FnTakeOne', WHERE WHAT IT READS IS OF BULK AT MOST 1048576: true; the input reads as it did. -/
def fnTakeOneUptoRow : OpenClaim := { program := "ytnaagdmaggdbmaagreatdoor", sum := "f6f5f39361857f6767adde22530eb39d4e9ac1f4e82d468d2a6026215ed60245", func := "loop.example/invertedpages/laws.FnTakeOne", spec := "fnTakeOne", unfollowed := true, recurses := true, named := ["loop.example/invertedpages/impl.free"], plainKeys := false, apart := false, laid := [("loop.example/invertedpages/impl.free", laid_loop_example_invertedpages_impl_free)], narrowed := true }
def FnTakeOneUptoSaid : Prop := fnTakeOneUptoRow.holds Tryz.pinned (OpenSpec.upto fnTakeOneSpec)

/-- 'laws.FnByteNext', WHERE WHAT IT READS IS OF BULK AT MOST 1048576: true; the input reads as it did. -/
def fnByteNextUptoRow : OpenClaim := { program := "ytnaagdmaggdbmaagreatdoor", sum := "f6f5f39361857f6767adde22530eb39d4e9ac1f4e82d468d2a6026215ed60245", func := "loop.example/invertedpages/laws.FnByteNext", spec := "fnByteNext", unfollowed := true, recurses := true, named := ["loop.example/invertedpages/impl.free"], plainKeys := false, apart := false, laid := [("loop.example/invertedpages/impl.free", laid_loop_example_invertedpages_impl_free)], narrowed := true }
def FnByteNextUptoSaid : Prop := fnByteNextUptoRow.holds Tryz.pinned (OpenSpec.upto fnByteNextSpec)

/-- 'laws.FnFindByte', WHERE WHAT IT READS IS OF BULK AT MOST 1048576: true; the input reads as it did. -/
def fnFindByteUptoRow : OpenClaim := { program := "ytnaagdmaggdbmaagreatdoor", sum := "f6f5f39361857f6767adde22530eb39d4e9ac1f4e82d468d2a6026215ed60245", func := "loop.example/invertedpages/laws.FnFindByte", spec := "fnFindByte", unfollowed := true, recurses := true, named := ["loop.example/invertedpages/impl.free"], plainKeys := false, apart := false, laid := [("loop.example/invertedpages/impl.free", laid_loop_example_invertedpages_impl_free)], narrowed := true }
def FnFindByteUptoSaid : Prop := fnFindByteUptoRow.holds Tryz.pinned (OpenSpec.upto fnFindByteSpec)

/-- 'laws.FnExactFindByte', WHERE WHAT IT READS IS OF BULK AT MOST 1048576: true; the input reads as it did. -/
def fnExactFindByteUptoRow : OpenClaim := { program := "ytnaagdmaggdbmaagreatdoor", sum := "f6f5f39361857f6767adde22530eb39d4e9ac1f4e82d468d2a6026215ed60245", func := "loop.example/invertedpages/laws.FnExactFindByte", spec := "fnExactFindByte", unfollowed := true, recurses := true, named := ["loop.example/invertedpages/impl.free"], plainKeys := false, apart := false, laid := [("loop.example/invertedpages/impl.free", laid_loop_example_invertedpages_impl_free)], narrowed := true }
def FnExactFindByteUptoSaid : Prop := fnExactFindByteUptoRow.holds Tryz.pinned (OpenSpec.upto fnExactFindByteSpec)

/-- 'laws.FnTouchBytes', WHERE WHAT IT READS IS OF BULK AT MOST 1048576: true; the input reads as it did. -/
def fnTouchBytesUptoRow : OpenClaim := { program := "ytnaagdmaggdbmaagreatdoor", sum := "f6f5f39361857f6767adde22530eb39d4e9ac1f4e82d468d2a6026215ed60245", func := "loop.example/invertedpages/laws.FnTouchBytes", spec := "fnTouchBytes", unfollowed := true, recurses := true, named := ["loop.example/invertedpages/impl.free"], plainKeys := false, apart := false, laid := [("loop.example/invertedpages/impl.free", laid_loop_example_invertedpages_impl_free)], narrowed := true }
def FnTouchBytesUptoSaid : Prop := fnTouchBytesUptoRow.holds Tryz.pinned (OpenSpec.upto fnTouchBytesSpec)

/-- 'laws.FnTouchOne', WHERE WHAT IT READS IS OF BULK AT MOST 1048576: true; the input reads as it did. -/
def fnTouchOneUptoRow : OpenClaim := { program := "ytnaagdmaggdbmaagreatdoor", sum := "f6f5f39361857f6767adde22530eb39d4e9ac1f4e82d468d2a6026215ed60245", func := "loop.example/invertedpages/laws.FnTouchOne", spec := "fnTouchOne", unfollowed := true, recurses := true, named := ["loop.example/invertedpages/impl.free"], plainKeys := false, apart := false, laid := [("loop.example/invertedpages/impl.free", laid_loop_example_invertedpages_impl_free)], narrowed := true }
def FnTouchOneUptoSaid : Prop := fnTouchOneUptoRow.holds Tryz.pinned (OpenSpec.upto fnTouchOneSpec)

/-- 'laws.FnExactTouchBytes', WHERE WHAT IT READS IS OF BULK AT MOST 1048576: true; the input reads as it did. -/
def fnExactTouchBytesUptoRow : OpenClaim := { program := "ytnaagdmaggdbmaagreatdoor", sum := "f6f5f39361857f6767adde22530eb39d4e9ac1f4e82d468d2a6026215ed60245", func := "loop.example/invertedpages/laws.FnExactTouchBytes", spec := "fnExactTouchBytes", unfollowed := true, recurses := true, named := ["loop.example/invertedpages/impl.free"], plainKeys := false, apart := false, laid := [("loop.example/invertedpages/impl.free", laid_loop_example_invertedpages_impl_free)], narrowed := true }
def FnExactTouchBytesUptoSaid : Prop := fnExactTouchBytesUptoRow.holds Tryz.pinned (OpenSpec.upto fnExactTouchBytesSpec)

end Rows
end Go.Proofs.YtnaagdmaggdbmaaGreatDoor
