/- Whatever the arguments: FnUseWired returns true, and changes nothing that was there. -/
import Derived.Test.YtfbnokjdkhcgoaaGreatDoorTie
import Derived.Test.YtfbnokjdkhcgoaaGreatDoorCards
import Derived.SevenTiedAt
import Derived.Deep.CutRange
import Derived.Test.YtfbnokjdkhcgoaaGreatDoorCLWiD
set_option linter.unusedVariables false
set_option linter.unusedSimpArgs false
set_option maxRecDepth 1000000
set_option maxHeartbeats 16000000
namespace Go.Proofs.YtfbnokjdkhcgoaaGreatDoor.lUseWired
open Go.ChangeShapes Go.WideShapes Go.ChangeAt Go.RowKit Go.Joins
theorem carded:Rows.FnUseWiredCardSaid:=
  Claim7.holds_tied_plain_at .later [] [.data] true _ false over (fun _ h=>by cases h) (by kernel_rfl) (fun _ h=>by cases h) fnUseWired_row_tie rfl ⟨rfl,rfl⟩ main_is rfl
    (fun f fn hf hfn=>by
      obtain rfl:f=4:=Option.some.inj ((show Tryz.prog.funcNamed "loop.example/invertedpages/laws.FnUseWired"=some 4 by kernel_rfl).symm.trans hf) |>.symm;obtain rfl:fn=Tryz.f4:=(Option.some.inj (Tryz.func4.symm.trans hfn)).symm
      exact⟨by kernel_rfl,fun j t ht=>by
        have h:=Array.all_eq_true_iff_forall_mem.1 (show(Tryz.f4.params.all (fun t=>Tryz.prog.wantsStandIn t == false))=true by kernel_rfl) t (Array.mem_of_getElem? ht);have h2:Tryz.prog.wantsStandIn t=false:=by simpa using h
        exact h2⟩)
    (by kernel_rfl)
#print axioms carded
end Go.Proofs.YtfbnokjdkhcgoaaGreatDoor.lUseWired
