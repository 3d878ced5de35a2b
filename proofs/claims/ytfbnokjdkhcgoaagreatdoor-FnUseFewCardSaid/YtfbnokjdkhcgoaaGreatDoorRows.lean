/-
  NARROWER THAN 'FOR EVERY INPUT', by the rows' own cells (each row's printed sentence says how): FnUseFew: laid · FnUseWired: laid · FnUseOthers: laid · FnExactUsePage: laid · FnExactUsePages: laid.
  DERIVED. THE GIVEN ROWS OF THIS SEAT. 5 by the template 'for every input the law returns true; each argument reads behind the call as it read before'; 0 by the template 'total and deterministic' (their statements: YtfbnokjdkhcgoaaGreatDoorTotals.lean).
  GIVEN WITH THE SEED: the statements are not yours to turn. If you find one false, say at which input.
  Laid BY PROGRAM, IN A SANDBOX (cutbox-rows.mjs): the forced cells as the released guide's own fill.sh prints them over the translation c8e135598dfa439b… (all of the seat's roots in one cut). By AI agents, Wed Nov 11 2026. No macro, syntax, notation, axiom, sorry.
-/
import Derived.Test.YtfbnokjdkhcgoaaGreatDoorChecked
import GoSem.Claim
import GoSem.ClaimJoined
import GoSem.ClaimMapViews
import Derived.JoinedTies
import Derived.KernelRfl
namespace Go.Proofs.YtfbnokjdkhcgoaaGreatDoor
/- THE CELL 'sum', in the pinned program and in every row, IS THE sha256 OF THE DUMP (.gsa) THAT YtfbnokjdkhcgoaaGreatDoorProg.lean LOADS. Nothing in Lean hashes anything: it is a label: what it is worth is what the hold of that sum in a sandbox is worth. -/
noncomputable def Tryz.pinned : Pinned := { name := "ytfbnokjdkhcgoaagreatdoor", sum := "c8e135598dfa439b1f70afcfbdc312627e61a5946fe83d0630d432726416e453", checked := Tryz.checked }
namespace Rows
def none {H : Type} : Left H := { results := [], args := [] }

/- WHAT THE LISTED PACKAGE-LEVEL VARIABLES READ AS WHEN THE CALL BEGINS. Each datum BY PROGRAM (the guide's laid-datum.mjs) off the statement by which the dump's own 'gosem.cut.vars' lays the variable. In a bare row this is a premise. The card (YtfbnokjdkhcgoaaGreatDoorCards.lean) ties it to the program's text. -/
def laid_loop_example_invertedpages_impl_free {H : Type} : DataW H := .agg [.lit (.bool false), .agg [.lit (.int .i64 0), .lit (.int .i64 0)], .lit (.int .i64 0), .lit (.int .i64 (-1))]

/-- 'laws.FnUseFew': WHATEVER THE INPUT: true; the input reads as it did. -/
def fnUseFewSpec : ChangeSpec := { name := "fnUseFew", vars := ["loop.example/invertedpages/impl.free"], fn := fun _ => fun
  | [d, g1] => { results := [.lit (.bool true)], args := [d], vars := [g1] }
  | _ => none }
def fnUseFewRow : OpenClaim := { program := "ytfbnokjdkhcgoaagreatdoor", sum := "c8e135598dfa439b1f70afcfbdc312627e61a5946fe83d0630d432726416e453", func := "loop.example/invertedpages/laws.FnUseFew", spec := "fnUseFew", unfollowed := true, recurses := true, named := ["loop.example/invertedpages/impl.free"], plainKeys := false, apart := false, laid := [("loop.example/invertedpages/impl.free", laid_loop_example_invertedpages_impl_free)] }
def FnUseFewSaid : Prop := fnUseFewRow.holds Tryz.pinned (OpenSpec.ofChange fnUseFewSpec)

/-- ITS FALSE NEIGHBOUR: 'it returns false'. Refute it at one input. -/
def fnUseFewWrong : ChangeSpec := { name := "fnUseFew", vars := ["loop.example/invertedpages/impl.free"], fn := fun _ => fun
  | [d, g1] => { results := [.lit (.bool false)], args := [d], vars := [g1] }
  | _ => none }
def FnUseFewWrongFalsely : Prop := fnUseFewRow.holds Tryz.pinned (OpenSpec.ofChange fnUseFewWrong)

/-- 'laws.FnUseWired': WHATEVER THE INPUT: true; the input reads as it did. -/
def fnUseWiredSpec : ChangeSpec := { name := "fnUseWired", vars := ["loop.example/invertedpages/impl.free"], fn := fun _ => fun
  | [d, g1] => { results := [.lit (.bool true)], args := [d], vars := [g1] }
  | _ => none }
def fnUseWiredRow : OpenClaim := { program := "ytfbnokjdkhcgoaagreatdoor", sum := "c8e135598dfa439b1f70afcfbdc312627e61a5946fe83d0630d432726416e453", func := "loop.example/invertedpages/laws.FnUseWired", spec := "fnUseWired", unfollowed := true, recurses := true, named := ["loop.example/invertedpages/impl.free"], plainKeys := false, apart := false, laid := [("loop.example/invertedpages/impl.free", laid_loop_example_invertedpages_impl_free)] }
def FnUseWiredSaid : Prop := fnUseWiredRow.holds Tryz.pinned (OpenSpec.ofChange fnUseWiredSpec)

/-- ITS FALSE NEIGHBOUR: 'it returns false'. Refute it at one input. -/
def fnUseWiredWrong : ChangeSpec := { name := "fnUseWired", vars := ["loop.example/invertedpages/impl.free"], fn := fun _ => fun
  | [d, g1] => { results := [.lit (.bool false)], args := [d], vars := [g1] }
  | _ => none }
def FnUseWiredWrongFalsely : Prop := fnUseWiredRow.holds Tryz.pinned (OpenSpec.ofChange fnUseWiredWrong)

/-- 'laws.FnUseOthers': WHATEVER THE INPUT: true; the input reads as it did. -/
def fnUseOthersSpec : ChangeSpec := { name := "fnUseOthers", vars := ["loop.example/invertedpages/impl.free"], fn := fun _ => fun
  | [d, g1] => { results := [.lit (.bool true)], args := [d], vars := [g1] }
  | _ => none }
def fnUseOthersRow : OpenClaim := { program := "ytfbnokjdkhcgoaagreatdoor", sum := "c8e135598dfa439b1f70afcfbdc312627e61a5946fe83d0630d432726416e453", func := "loop.example/invertedpages/laws.FnUseOthers", spec := "fnUseOthers", unfollowed := true, recurses := true, named := ["loop.example/invertedpages/impl.free"], plainKeys := false, apart := false, laid := [("loop.example/invertedpages/impl.free", laid_loop_example_invertedpages_impl_free)] }
def FnUseOthersSaid : Prop := fnUseOthersRow.holds Tryz.pinned (OpenSpec.ofChange fnUseOthersSpec)

/-- ITS FALSE NEIGHBOUR: 'it returns false'. Refute it at one input. -/
def fnUseOthersWrong : ChangeSpec := { name := "fnUseOthers", vars := ["loop.example/invertedpages/impl.free"], fn := fun _ => fun
  | [d, g1] => { results := [.lit (.bool false)], args := [d], vars := [g1] }
  | _ => none }
def FnUseOthersWrongFalsely : Prop := fnUseOthersRow.holds Tryz.pinned (OpenSpec.ofChange fnUseOthersWrong)

/-- 'laws.FnExactUsePage': WHATEVER THE INPUT: true; the input reads as it did. -/
def fnExactUsePageSpec : ChangeSpec := { name := "fnExactUsePage", vars := ["loop.example/invertedpages/impl.free"], fn := fun _ => fun
  | [d1, d2, d3, d4, g1] => { results := [.lit (.bool true)], args := [d1, d2, d3, d4], vars := [g1] }
  | _ => none }
def fnExactUsePageRow : OpenClaim := { program := "ytfbnokjdkhcgoaagreatdoor", sum := "c8e135598dfa439b1f70afcfbdc312627e61a5946fe83d0630d432726416e453", func := "loop.example/invertedpages/laws.FnExactUsePage", spec := "fnExactUsePage", unfollowed := true, recurses := true, named := ["loop.example/invertedpages/impl.free"], plainKeys := false, apart := false, laid := [("loop.example/invertedpages/impl.free", laid_loop_example_invertedpages_impl_free)] }
def FnExactUsePageSaid : Prop := fnExactUsePageRow.holds Tryz.pinned (OpenSpec.ofChange fnExactUsePageSpec)

/-- ITS FALSE NEIGHBOUR: 'it returns false'. Refute it at one input. -/
def fnExactUsePageWrong : ChangeSpec := { name := "fnExactUsePage", vars := ["loop.example/invertedpages/impl.free"], fn := fun _ => fun
  | [d1, d2, d3, d4, g1] => { results := [.lit (.bool false)], args := [d1, d2, d3, d4], vars := [g1] }
  | _ => none }
def FnExactUsePageWrongFalsely : Prop := fnExactUsePageRow.holds Tryz.pinned (OpenSpec.ofChange fnExactUsePageWrong)

/-- 'laws.FnExactUsePages': WHATEVER THE INPUT: true; the input reads as it did. -/
def fnExactUsePagesSpec : ChangeSpec := { name := "fnExactUsePages", vars := ["loop.example/invertedpages/impl.free"], fn := fun _ => fun
  | [d1, d2, g1] => { results := [.lit (.bool true)], args := [d1, d2], vars := [g1] }
  | _ => none }
def fnExactUsePagesRow : OpenClaim := { program := "ytfbnokjdkhcgoaagreatdoor", sum := "c8e135598dfa439b1f70afcfbdc312627e61a5946fe83d0630d432726416e453", func := "loop.example/invertedpages/laws.FnExactUsePages", spec := "fnExactUsePages", unfollowed := true, recurses := true, named := ["loop.example/invertedpages/impl.free"], plainKeys := false, apart := false, laid := [("loop.example/invertedpages/impl.free", laid_loop_example_invertedpages_impl_free)] }
def FnExactUsePagesSaid : Prop := fnExactUsePagesRow.holds Tryz.pinned (OpenSpec.ofChange fnExactUsePagesSpec)

/-- ITS FALSE NEIGHBOUR: 'it returns false'. Refute it at one input. -/
def fnExactUsePagesWrong : ChangeSpec := { name := "fnExactUsePages", vars := ["loop.example/invertedpages/impl.free"], fn := fun _ => fun
  | [d1, d2, g1] => { results := [.lit (.bool false)], args := [d1, d2], vars := [g1] }
  | _ => none }
def FnExactUsePagesWrongFalsely : Prop := fnExactUsePagesRow.holds Tryz.pinned (OpenSpec.ofChange fnExactUsePagesWrong)

/- THE SECOND FORM. 'bulk': how many values and letters a reading holds, each counted each time it is reached (what is shared counts as often as it is met; a slice's spare places count too). A statement '..UptoSaid' is the law's where the arguments, and the package variables that the reading takes, are together of bulk at most 1048576: NARROWER than '..Said'. Prove '..Said' where nothing that the law and all that it calls make is longer than what came in: it says more and counts as full. Else prove '..UptoSaid'. A law counts once. -/
mutual
def uptoBulk {H : Type} : DataW H → Nat
  | .lit (.string bytes) => bytes.length + 1
  | .lit _ => 1
  | .nil => 1
  | .ptr d => uptoBulk d + 1
  | .slice elems spare => uptoBulkAll elems + uptoBulkAll spare + 1
  | .agg parts => uptoBulkAll parts + 1
  | .iface _ d => uptoBulk d + 1
  | .map entries => uptoBulkEntries entries + 1
  | .held _ => 1
def uptoBulkAll {H : Type} : List (DataW H) → Nat
  | [] => 0
  | d :: r => uptoBulk d + uptoBulkAll r
def uptoBulkEntries {H : Type} : List (Lit × DataW H) → Nat
  | [] => 0
  | x :: r => uptoBulkEntry x + uptoBulkEntries r
def uptoBulkEntry {H : Type} : Lit × DataW H → Nat
  | (.string bytes, d) => bytes.length + uptoBulk d + 1
  | (_, d) => uptoBulk d + 1
 end
def uptoSmall : (H : Type) → List (DataW H) → Bool := fun _ ds => decide (uptoBulkAll ds ≤ 1048576)
def OpenSpec.upto (s : _root_.Go.ChangeSpec) : _root_.Go.OpenSpec := { _root_.Go.OpenSpec.ofChange s with cond := some uptoSmall }

/-- 'laws.FnUseFew', WHERE WHAT IT READS IS OF BULK AT MOST 1048576: true; the input reads as it did. -/
def fnUseFewUptoRow : OpenClaim := { program := "ytfbnokjdkhcgoaagreatdoor", sum := "c8e135598dfa439b1f70afcfbdc312627e61a5946fe83d0630d432726416e453", func := "loop.example/invertedpages/laws.FnUseFew", spec := "fnUseFew", unfollowed := true, recurses := true, named := ["loop.example/invertedpages/impl.free"], plainKeys := false, apart := false, laid := [("loop.example/invertedpages/impl.free", laid_loop_example_invertedpages_impl_free)], narrowed := true }
def FnUseFewUptoSaid : Prop := fnUseFewUptoRow.holds Tryz.pinned (OpenSpec.upto fnUseFewSpec)

/-- 'laws.FnUseWired', WHERE WHAT IT READS IS OF BULK AT MOST 1048576: true; the input reads as it did. -/
def fnUseWiredUptoRow : OpenClaim := { program := "ytfbnokjdkhcgoaagreatdoor", sum := "c8e135598dfa439b1f70afcfbdc312627e61a5946fe83d0630d432726416e453", func := "loop.example/invertedpages/laws.FnUseWired", spec := "fnUseWired", unfollowed := true, recurses := true, named := ["loop.example/invertedpages/impl.free"], plainKeys := false, apart := false, laid := [("loop.example/invertedpages/impl.free", laid_loop_example_invertedpages_impl_free)], narrowed := true }
def FnUseWiredUptoSaid : Prop := fnUseWiredUptoRow.holds Tryz.pinned (OpenSpec.upto fnUseWiredSpec)

/-- 'laws.FnUseOthers', WHERE WHAT IT READS IS OF BULK AT MOST 1048576: true; the input reads as it did. -/
def fnUseOthersUptoRow : OpenClaim := { program := "ytfbnokjdkhcgoaagreatdoor", sum := "c8e135598dfa439b1f70afcfbdc312627e61a5946fe83d0630d432726416e453", func := "loop.example/invertedpages/laws.FnUseOthers", spec := "fnUseOthers", unfollowed := true, recurses := true, named := ["loop.example/invertedpages/impl.free"], plainKeys := false, apart := false, laid := [("loop.example/invertedpages/impl.free", laid_loop_example_invertedpages_impl_free)], narrowed := true }
def FnUseOthersUptoSaid : Prop := fnUseOthersUptoRow.holds Tryz.pinned (OpenSpec.upto fnUseOthersSpec)

/-- 'laws.FnExactUsePage', WHERE WHAT IT READS IS OF BULK AT MOST 1048576: true; the input reads as it did. -/
def fnExactUsePageUptoRow : OpenClaim := { program := "ytfbnokjdkhcgoaagreatdoor", sum := "c8e135598dfa439b1f70afcfbdc312627e61a5946fe83d0630d432726416e453", func := "loop.example/invertedpages/laws.FnExactUsePage", spec := "fnExactUsePage", unfollowed := true, recurses := true, named := ["loop.example/invertedpages/impl.free"], plainKeys := false, apart := false, laid := [("loop.example/invertedpages/impl.free", laid_loop_example_invertedpages_impl_free)], narrowed := true }
def FnExactUsePageUptoSaid : Prop := fnExactUsePageUptoRow.holds Tryz.pinned (OpenSpec.upto fnExactUsePageSpec)

/-- 'laws.FnExactUsePages', WHERE WHAT IT READS IS OF BULK AT MOST 1048576: true; the input reads as it did. -/
def fnExactUsePagesUptoRow : OpenClaim := { program := "ytfbnokjdkhcgoaagreatdoor", sum := "c8e135598dfa439b1f70afcfbdc312627e61a5946fe83d0630d432726416e453", func := "loop.example/invertedpages/laws.FnExactUsePages", spec := "fnExactUsePages", unfollowed := true, recurses := true, named := ["loop.example/invertedpages/impl.free"], plainKeys := false, apart := false, laid := [("loop.example/invertedpages/impl.free", laid_loop_example_invertedpages_impl_free)], narrowed := true }
def FnExactUsePagesUptoSaid : Prop := fnExactUsePagesUptoRow.holds Tryz.pinned (OpenSpec.upto fnExactUsePagesSpec)

end Rows
end Go.Proofs.YtfbnokjdkhcgoaaGreatDoor
