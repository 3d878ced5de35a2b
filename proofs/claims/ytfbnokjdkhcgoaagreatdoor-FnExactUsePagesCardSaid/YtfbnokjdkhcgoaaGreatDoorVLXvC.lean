/- Whatever the arguments: FnExactUsePages returns true, and changes nothing that was there. -/
import Derived.Test.YtfbnokjdkhcgoaaGreatDoorTie
import Derived.Test.YtfbnokjdkhcgoaaGreatDoorCards
import Derived.SevenTiedAt
import Derived.Test.YtfbnokjdkhcgoaaGreatDoorVUsS
set_option linter.unusedVariables false
set_option linter.unusedSimpArgs false
set_option maxRecDepth 1000000
namespace Go.Proofs.YtfbnokjdkhcgoaaGreatDoor.lExactUsePages
open Go.ChangeShapes Go.WideShapes Go.ChangeAt Go.RowKit Go.Joins
theorem carded : Rows.FnExactUsePagesCardSaid :=
  Claim7.holds_tied_plain_at .later [] [.data] true _ false over (fun _ h => by cases h) (by kernel_rfl) (fun _ h => by cases h) fnExactUsePages_row_tie rfl ⟨rfl, rfl⟩ main_is rfl
    (fun f fn hf hfn => by
      obtain rfl : f = 7 := Option.some.inj ((show Tryz.prog.funcNamed "loop.example/invertedpages/laws.FnExactUsePages" = some 7 by kernel_rfl).symm.trans hf) |>.symm
      obtain rfl : fn = Tryz.f7 := (Option.some.inj (Tryz.func7.symm.trans hfn)).symm
      exact ⟨by kernel_rfl, fun j t ht => by
        have h := Array.all_eq_true_iff_forall_mem.1 (show (Tryz.f7.params.all (fun t => Tryz.prog.wantsStandIn t == false)) = true by kernel_rfl) t (Array.mem_of_getElem? ht)
        have h2 : Tryz.prog.wantsStandIn t = false := by simpa using h
        exact h2⟩)
    (by kernel_rfl)
#print axioms carded
end Go.Proofs.YtfbnokjdkhcgoaaGreatDoor.lExactUsePages
