/-
  No cell of these rows narrows 'for every input' (looked for: loops, veiled, ifaces, maps, wideKeys, modest, calm, conditions, laid).
  DERIVED. THE GIVEN ROWS OF THIS SEAT. 9 by the template 'for every input the law returns true; each argument reads behind the call as it read before'; 0 by the template 'total and deterministic' (their statements: YtmamjddhcbhdoaaTotals.lean).
  GIVEN WITH THE SEED: the statements are not yours to turn. If you find one false, say at which input.
  Laid BY PROGRAM, IN A SANDBOX (cutbox-rows.mjs): the forced cells as the released guide's own fill.sh prints them over the translation 8eea5a9c60be90f6… (all of the seat's roots in one cut). By AI agents, Wed Nov 11 2026. No macro, syntax, notation, axiom, sorry.
-/
import Derived.Test.YtmamjddhcbhdoaaChecked
import GoSem.Claim
import GoSem.ClaimJoined
import GoSem.ClaimMapViews
import Derived.JoinedTies
import Derived.KernelRfl
namespace Go.Proofs.Ytmamjddhcbhdoaa
/- THE CELL 'sum', in the pinned program and in every row, IS THE sha256 OF THE DUMP (.gsa) THAT YtmamjddhcbhdoaaProg.lean LOADS. Nothing in Lean hashes anything: it is a label: what it is worth is what the hold of that sum in a sandbox is worth. -/
noncomputable def Try.pinned : Pinned := { name := "ytmamjddhcbhdoaa", sum := "8eea5a9c60be90f6062da158187d25b3d5135e8e3e29fe4bf9679e6ace54dc9f", checked := Try.checked }
namespace Rows
def none {H : Type} : Left H := { results := [], args := [] }

/-- 'laws.FnHitsLru': WHATEVER THE INPUT: true; the input reads as it did. -/
def fnHitsLruSpec : ChangeSpec := { name := "fnHitsLru", fn := fun _ => fun
  | [d] => { results := [.lit (.bool true)], args := [d] }
  | _ => none }
def fnHitsLruRow : OpenClaim := { program := "ytmamjddhcbhdoaa", sum := "8eea5a9c60be90f6062da158187d25b3d5135e8e3e29fe4bf9679e6ace54dc9f", func := "loop.example/invertedpages/laws.FnHitsLru", spec := "fnHitsLru", unfollowed := true, recurses := true, apart := false }
def FnHitsLruSaid : Prop := fnHitsLruRow.holds Try.pinned (OpenSpec.ofChange fnHitsLruSpec)

/-- ITS FALSE NEIGHBOUR: 'it returns false'. Refute it at one input. -/
def fnHitsLruWrong : ChangeSpec := { name := "fnHitsLru", fn := fun _ => fun
  | [d] => { results := [.lit (.bool false)], args := [d] }
  | _ => none }
def FnHitsLruWrongFalsely : Prop := fnHitsLruRow.holds Try.pinned (OpenSpec.ofChange fnHitsLruWrong)

/-- 'laws.FnTwiceTrace': WHATEVER THE INPUT: true; the input reads as it did. -/
def fnTwiceTraceSpec : ChangeSpec := { name := "fnTwiceTrace", fn := fun _ => fun
  | [d] => { results := [.lit (.bool true)], args := [d] }
  | _ => none }
def fnTwiceTraceRow : OpenClaim := { program := "ytmamjddhcbhdoaa", sum := "8eea5a9c60be90f6062da158187d25b3d5135e8e3e29fe4bf9679e6ace54dc9f", func := "loop.example/invertedpages/laws.FnTwiceTrace", spec := "fnTwiceTrace", unfollowed := true, recurses := true, apart := false }
def FnTwiceTraceSaid : Prop := fnTwiceTraceRow.holds Try.pinned (OpenSpec.ofChange fnTwiceTraceSpec)

/-- ITS FALSE NEIGHBOUR: 'it returns false'. Refute it at one input. -/
def fnTwiceTraceWrong : ChangeSpec := { name := "fnTwiceTrace", fn := fun _ => fun
  | [d] => { results := [.lit (.bool false)], args := [d] }
  | _ => none }
def FnTwiceTraceWrongFalsely : Prop := fnTwiceTraceRow.holds Try.pinned (OpenSpec.ofChange fnTwiceTraceWrong)

/-- 'laws.FnExactHitsLru': WHATEVER THE INPUT: true; the input reads as it did. -/
def fnExactHitsLruSpec : ChangeSpec := { name := "fnExactHitsLru", fn := fun _ => fun
  | [d1, d2] => { results := [.lit (.bool true)], args := [d1, d2] }
  | _ => none }
def fnExactHitsLruRow : OpenClaim := { program := "ytmamjddhcbhdoaa", sum := "8eea5a9c60be90f6062da158187d25b3d5135e8e3e29fe4bf9679e6ace54dc9f", func := "loop.example/invertedpages/laws.FnExactHitsLru", spec := "fnExactHitsLru", unfollowed := true, recurses := true, apart := false }
def FnExactHitsLruSaid : Prop := fnExactHitsLruRow.holds Try.pinned (OpenSpec.ofChange fnExactHitsLruSpec)

/-- ITS FALSE NEIGHBOUR: 'it returns false'. Refute it at one input. -/
def fnExactHitsLruWrong : ChangeSpec := { name := "fnExactHitsLru", fn := fun _ => fun
  | [d1, d2] => { results := [.lit (.bool false)], args := [d1, d2] }
  | _ => none }
def FnExactHitsLruWrongFalsely : Prop := fnExactHitsLruRow.holds Try.pinned (OpenSpec.ofChange fnExactHitsLruWrong)

/-- 'laws.FnExactHitsFifo': WHATEVER THE INPUT: true; the input reads as it did. -/
def fnExactHitsFifoSpec : ChangeSpec := { name := "fnExactHitsFifo", fn := fun _ => fun
  | [d1, d2] => { results := [.lit (.bool true)], args := [d1, d2] }
  | _ => none }
def fnExactHitsFifoRow : OpenClaim := { program := "ytmamjddhcbhdoaa", sum := "8eea5a9c60be90f6062da158187d25b3d5135e8e3e29fe4bf9679e6ace54dc9f", func := "loop.example/invertedpages/laws.FnExactHitsFifo", spec := "fnExactHitsFifo", unfollowed := true, recurses := true, apart := false }
def FnExactHitsFifoSaid : Prop := fnExactHitsFifoRow.holds Try.pinned (OpenSpec.ofChange fnExactHitsFifoSpec)

/-- ITS FALSE NEIGHBOUR: 'it returns false'. Refute it at one input. -/
def fnExactHitsFifoWrong : ChangeSpec := { name := "fnExactHitsFifo", fn := fun _ => fun
  | [d1, d2] => { results := [.lit (.bool false)], args := [d1, d2] }
  | _ => none }
def FnExactHitsFifoWrongFalsely : Prop := fnExactHitsFifoRow.holds Try.pinned (OpenSpec.ofChange fnExactHitsFifoWrong)

/-- 'laws.FnFifoLru': WHATEVER THE INPUT: true; the input reads as it did. -/
def fnFifoLruSpec : ChangeSpec := { name := "fnFifoLru", fn := fun _ => fun
  | [d] => { results := [.lit (.bool true)], args := [d] }
  | _ => none }
def fnFifoLruRow : OpenClaim := { program := "ytmamjddhcbhdoaa", sum := "8eea5a9c60be90f6062da158187d25b3d5135e8e3e29fe4bf9679e6ace54dc9f", func := "loop.example/invertedpages/laws.FnFifoLru", spec := "fnFifoLru", unfollowed := true, recurses := true, apart := false }
def FnFifoLruSaid : Prop := fnFifoLruRow.holds Try.pinned (OpenSpec.ofChange fnFifoLruSpec)

/-- ITS FALSE NEIGHBOUR: 'it returns false'. Refute it at one input. -/
def fnFifoLruWrong : ChangeSpec := { name := "fnFifoLru", fn := fun _ => fun
  | [d] => { results := [.lit (.bool false)], args := [d] }
  | _ => none }
def FnFifoLruWrongFalsely : Prop := fnFifoLruRow.holds Try.pinned (OpenSpec.ofChange fnFifoLruWrong)

/-- 'laws.FnExactHitsBest': WHATEVER THE INPUT: true; the input reads as it did. -/
def fnExactHitsBestSpec : ChangeSpec := { name := "fnExactHitsBest", fn := fun _ => fun
  | [d1, d2] => { results := [.lit (.bool true)], args := [d1, d2] }
  | _ => none }
def fnExactHitsBestRow : OpenClaim := { program := "ytmamjddhcbhdoaa", sum := "8eea5a9c60be90f6062da158187d25b3d5135e8e3e29fe4bf9679e6ace54dc9f", func := "loop.example/invertedpages/laws.FnExactHitsBest", spec := "fnExactHitsBest", unfollowed := true, recurses := true, apart := false }
def FnExactHitsBestSaid : Prop := fnExactHitsBestRow.holds Try.pinned (OpenSpec.ofChange fnExactHitsBestSpec)

/-- ITS FALSE NEIGHBOUR: 'it returns false'. Refute it at one input. -/
def fnExactHitsBestWrong : ChangeSpec := { name := "fnExactHitsBest", fn := fun _ => fun
  | [d1, d2] => { results := [.lit (.bool false)], args := [d1, d2] }
  | _ => none }
def FnExactHitsBestWrongFalsely : Prop := fnExactHitsBestRow.holds Try.pinned (OpenSpec.ofChange fnExactHitsBestWrong)

/-- 'laws.FnBestTwo': WHATEVER THE INPUT: true; the input reads as it did. -/
def fnBestTwoSpec : ChangeSpec := { name := "fnBestTwo", fn := fun _ => fun
  | [d] => { results := [.lit (.bool true)], args := [d] }
  | _ => none }
def fnBestTwoRow : OpenClaim := { program := "ytmamjddhcbhdoaa", sum := "8eea5a9c60be90f6062da158187d25b3d5135e8e3e29fe4bf9679e6ace54dc9f", func := "loop.example/invertedpages/laws.FnBestTwo", spec := "fnBestTwo", unfollowed := true, recurses := true, apart := false }
def FnBestTwoSaid : Prop := fnBestTwoRow.holds Try.pinned (OpenSpec.ofChange fnBestTwoSpec)

/-- ITS FALSE NEIGHBOUR: 'it returns false'. Refute it at one input. -/
def fnBestTwoWrong : ChangeSpec := { name := "fnBestTwo", fn := fun _ => fun
  | [d] => { results := [.lit (.bool false)], args := [d] }
  | _ => none }
def FnBestTwoWrongFalsely : Prop := fnBestTwoRow.holds Try.pinned (OpenSpec.ofChange fnBestTwoWrong)

/-- 'laws.FnHitsBest': WHATEVER THE INPUT: true; the input reads as it did. -/
def fnHitsBestSpec : ChangeSpec := { name := "fnHitsBest", fn := fun _ => fun
  | [d] => { results := [.lit (.bool true)], args := [d] }
  | _ => none }
def fnHitsBestRow : OpenClaim := { program := "ytmamjddhcbhdoaa", sum := "8eea5a9c60be90f6062da158187d25b3d5135e8e3e29fe4bf9679e6ace54dc9f", func := "loop.example/invertedpages/laws.FnHitsBest", spec := "fnHitsBest", unfollowed := true, recurses := true, apart := false }
def FnHitsBestSaid : Prop := fnHitsBestRow.holds Try.pinned (OpenSpec.ofChange fnHitsBestSpec)

/-- ITS FALSE NEIGHBOUR: 'it returns false'. Refute it at one input. -/
def fnHitsBestWrong : ChangeSpec := { name := "fnHitsBest", fn := fun _ => fun
  | [d] => { results := [.lit (.bool false)], args := [d] }
  | _ => none }
def FnHitsBestWrongFalsely : Prop := fnHitsBestRow.holds Try.pinned (OpenSpec.ofChange fnHitsBestWrong)

/-- 'laws.FnLruEnough': WHATEVER THE INPUT: true; the input reads as it did. -/
def fnLruEnoughSpec : ChangeSpec := { name := "fnLruEnough", fn := fun _ => fun
  | [d] => { results := [.lit (.bool true)], args := [d] }
  | _ => none }
def fnLruEnoughRow : OpenClaim := { program := "ytmamjddhcbhdoaa", sum := "8eea5a9c60be90f6062da158187d25b3d5135e8e3e29fe4bf9679e6ace54dc9f", func := "loop.example/invertedpages/laws.FnLruEnough", spec := "fnLruEnough", unfollowed := true, recurses := true, apart := false }
def FnLruEnoughSaid : Prop := fnLruEnoughRow.holds Try.pinned (OpenSpec.ofChange fnLruEnoughSpec)

/-- ITS FALSE NEIGHBOUR: 'it returns false'. Refute it at one input. -/
def fnLruEnoughWrong : ChangeSpec := { name := "fnLruEnough", fn := fun _ => fun
  | [d] => { results := [.lit (.bool false)], args := [d] }
  | _ => none }
def FnLruEnoughWrongFalsely : Prop := fnLruEnoughRow.holds Try.pinned (OpenSpec.ofChange fnLruEnoughWrong)

/- THE SECOND FORM. 'bulk': how many values and letters a reading holds, each counted each time it is reached (what is shared counts as often as it is met; a slice's spare places count too). A statement '..UptoSaid' is the law's where the arguments, and the package variables that the reading takes, are together of bulk at most 1048576: NARROWER than '..Said'. Prove '..Said' where nothing that the law and all that it calls make is longer than what came in: it says more and counts as full. Else prove '..UptoSaid'. A law counts once. -/
mutual
def uptoBulk {H : Type} : DataW H → Nat
  | .lit (.string bytes) => bytes.length + 1
  | .lit _ => 1
  | .nil => 1
  | .ptr d => uptoBulk d + 1
  | .slice elems spare => uptoBulkAll elems + uptoBulkAll spare + 1
  | .agg parts => uptoBulkAll parts + 1
  | .iface _ d => uptoBulk d + 1
  | .map entries => uptoBulkEntries entries + 1
  | .held _ => 1
def uptoBulkAll {H : Type} : List (DataW H) → Nat
  | [] => 0
  | d :: r => uptoBulk d + uptoBulkAll r
def uptoBulkEntries {H : Type} : List (Lit × DataW H) → Nat
  | [] => 0
  | x :: r => uptoBulkEntry x + uptoBulkEntries r
def uptoBulkEntry {H : Type} : Lit × DataW H → Nat
  | (.string bytes, d) => bytes.length + uptoBulk d + 1
  | (_, d) => uptoBulk d + 1
 end
def uptoSmall : (H : Type) → List (DataW H) → Bool := fun _ ds => decide (uptoBulkAll ds ≤ 1048576)
def OpenSpec.upto (s : _root_.Go.ChangeSpec) : _root_.Go.OpenSpec := { _root_.Go.OpenSpec.ofChange s with cond := some uptoSmall }

/-- 'laws.FnHitsLru', WHERE WHAT IT READS IS OF BULK AT MOST 1048576: true; the input reads as it did. -/
def fnHitsLruUptoRow : OpenClaim := { program := "ytmamjddhcbhdoaa", sum := "8eea5a9c60be90f6062da158187d25b3d5135e8e3e29fe4bf9679e6ace54dc9f", func := "loop.example/invertedpages/laws.FnHitsLru", spec := "fnHitsLru", unfollowed := true, recurses := true, apart := false, narrowed := true }
def FnHitsLruUptoSaid : Prop := fnHitsLruUptoRow.holds Try.pinned (OpenSpec.upto fnHitsLruSpec)

/-- 'laws.FnTwiceTrace', WHERE WHAT IT READS IS OF BULK AT MOST 1048576: true; the input reads as it did. -/
def fnTwiceTraceUptoRow : OpenClaim := { program := "ytmamjddhcbhdoaa", sum := "8eea5a9c60be90f6062da158187d25b3d5135e8e3e29fe4bf9679e6ace54dc9f", func := "loop.example/invertedpages/laws.FnTwiceTrace", spec := "fnTwiceTrace", unfollowed := true, recurses := true, apart := false, narrowed := true }
def FnTwiceTraceUptoSaid : Prop := fnTwiceTraceUptoRow.holds Try.pinned (OpenSpec.upto fnTwiceTraceSpec)

/-- 'laws.FnExactHitsLru', WHERE WHAT IT READS IS OF BULK AT MOST 1048576: true; the input reads as it did. -/
def fnExactHitsLruUptoRow : OpenClaim := { program := "ytmamjddhcbhdoaa", sum := "8eea5a9c60be90f6062da158187d25b3d5135e8e3e29fe4bf9679e6ace54dc9f", func := "loop.example/invertedpages/laws.FnExactHitsLru", spec := "fnExactHitsLru", unfollowed := true, recurses := true, apart := false, narrowed := true }
def FnExactHitsLruUptoSaid : Prop := fnExactHitsLruUptoRow.holds Try.pinned (OpenSpec.upto fnExactHitsLruSpec)

/-- 'laws.FnExactHitsFifo', WHERE WHAT IT READS IS OF BULK AT MOST 1048576: true; the input reads as it did. -/
def fnExactHitsFifoUptoRow : OpenClaim := { program := "ytmamjddhcbhdoaa", sum := "8eea5a9c60be90f6062da158187d25b3d5135e8e3e29fe4bf9679e6ace54dc9f", func := "loop.example/invertedpages/laws.FnExactHitsFifo", spec := "fnExactHitsFifo", unfollowed := true, recurses := true, apart := false, narrowed := true }
def FnExactHitsFifoUptoSaid : Prop := fnExactHitsFifoUptoRow.holds Try.pinned (OpenSpec.upto fnExactHitsFifoSpec)

/-- 'laws.FnFifoLru', WHERE WHAT IT READS IS OF BULK AT MOST 1048576: true; the input reads as it did. -/
def fnFifoLruUptoRow : OpenClaim := { program := "ytmamjddhcbhdoaa", sum := "8eea5a9c60be90f6062da158187d25b3d5135e8e3e29fe4bf9679e6ace54dc9f", func := "loop.example/invertedpages/laws.FnFifoLru", spec := "fnFifoLru", unfollowed := true, recurses := true, apart := false, narrowed := true }
def FnFifoLruUptoSaid : Prop := fnFifoLruUptoRow.holds Try.pinned (OpenSpec.upto fnFifoLruSpec)

/-- 'laws.FnExactHitsBest', WHERE WHAT IT READS IS OF BULK AT MOST 1048576: true; the input reads as it did. -/
def fnExactHitsBestUptoRow : OpenClaim := { program := "ytmamjddhcbhdoaa", sum := "8eea5a9c60be90f6062da158187d25b3d5135e8e3e29fe4bf9679e6ace54dc9f", func := "loop.example/invertedpages/laws.FnExactHitsBest", spec := "fnExactHitsBest", unfollowed := true, recurses := true, apart := false, narrowed := true }
def FnExactHitsBestUptoSaid : Prop := fnExactHitsBestUptoRow.holds Try.pinned (OpenSpec.upto fnExactHitsBestSpec)

/-- 'laws.FnBestTwo', WHERE WHAT IT READS IS OF BULK AT MOST 1048576: true; the input reads as it did. -/
def fnBestTwoUptoRow : OpenClaim := { program := "ytmamjddhcbhdoaa", sum := "8eea5a9c60be90f6062da158187d25b3d5135e8e3e29fe4bf9679e6ace54dc9f", func := "loop.example/invertedpages/laws.FnBestTwo", spec := "fnBestTwo", unfollowed := true, recurses := true, apart := false, narrowed := true }
def FnBestTwoUptoSaid : Prop := fnBestTwoUptoRow.holds Try.pinned (OpenSpec.upto fnBestTwoSpec)

/-- 'laws.FnHitsBest', WHERE WHAT IT READS IS OF BULK AT MOST 1048576: true; the input reads as it did. -/
def fnHitsBestUptoRow : OpenClaim := { program := "ytmamjddhcbhdoaa", sum := "8eea5a9c60be90f6062da158187d25b3d5135e8e3e29fe4bf9679e6ace54dc9f", func := "loop.example/invertedpages/laws.FnHitsBest", spec := "fnHitsBest", unfollowed := true, recurses := true, apart := false, narrowed := true }
def FnHitsBestUptoSaid : Prop := fnHitsBestUptoRow.holds Try.pinned (OpenSpec.upto fnHitsBestSpec)

/-- 'laws.FnLruEnough', WHERE WHAT IT READS IS OF BULK AT MOST 1048576: true; the input reads as it did. -/
def fnLruEnoughUptoRow : OpenClaim := { program := "ytmamjddhcbhdoaa", sum := "8eea5a9c60be90f6062da158187d25b3d5135e8e3e29fe4bf9679e6ace54dc9f", func := "loop.example/invertedpages/laws.FnLruEnough", spec := "fnLruEnough", unfollowed := true, recurses := true, apart := false, narrowed := true }
def FnLruEnoughUptoSaid : Prop := fnLruEnoughUptoRow.holds Try.pinned (OpenSpec.upto fnLruEnoughSpec)

end Rows
end Go.Proofs.Ytmamjddhcbhdoaa
