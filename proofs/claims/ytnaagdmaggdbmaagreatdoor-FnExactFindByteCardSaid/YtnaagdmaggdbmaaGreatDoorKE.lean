/- A part of the proofs of this seat: Closed. -/
import Derived.Test.YtnaagdmaggdbmaaGreatDoorRows
import Derived.JoinedOf
import Derived.KernelRfl
set_option linter.unusedVariables false
set_option linter.unusedSimpArgs false
namespace Go.Proofs.YtnaagdmaggdbmaaGreatDoor

theorem chars_of {s : String} {l : List Char} (h : s = String.ofList l) : s.toList = l := by rw [h, String.toList_ofList]
theorem head_cons {α : Type} {l : List α} {a : α} (h : l.head? = some a) : ∃ r, l = a :: r := by
  cases l with
  | nil => cases h
  | cons x r => exact ⟨r, by injection h with h; rw [h]⟩

theorem strip_cut (rest : List (List Char)) : stripLifts liftWords ("cut".toList :: rest) = ([], "cut".toList :: rest) := by
  simp only [liftWords, stripLifts]
  repeat (rw [if_neg (by decide)])

theorem mayEnter_of {P : Program} {rest : List (List Char)} (hW : behindMainWord (wordsSigns P.initOrder.toList) = "cut".toList :: rest)
    (l1 : P.laysLater = false) (l2 : P.bearsReflect = false) (l3 : P.doorFits [] = true) : P.mayEnter = true := by
  unfold Program.mayEnter
  rw [hW]
  simp only [strip_cut, l1, l2]
  rw [l3]
  have e1 : ("cut".toList == "gc".toList) = false := by decide
  have e2 : ("cut".toList == "spec".toList) = false := by decide
  have e3 : ("cut".toList == "carried".toList) = false := by decide
  have e4 : (("cut".toList :: rest).head? == some "cut".toList) = true := by rw [List.head?_cons]; decide
  rw [e1, e2, e3, e4]
  rfl

theorem lifts_of {P : Program} {r : List (List Char)} (hr : behindMainWord (wordsSigns P.initOrder.toList) = "cut".toList :: r) : P.liftsFinal = false := by
  have e4 : (("cut".toList :: r).head? == some "cut".toList) = true := by rw [List.head?_cons]; decide
  have e5 : (("cut".toList :: r).head? == some "carried".toList) = false := by rw [List.head?_cons]; decide
  unfold Program.liftsFinal Program.headLifts
  rw [hr]
  simp only [strip_cut, e4, e5]
  rfl
theorem make_of {P : Program} {r : List (List Char)} (hr : behindMainWord (wordsSigns P.initOrder.toList) = "cut".toList :: r) : P.make = some .cut := by
  have e1 : ("cut".toList == "gc".toList) = false := by decide
  have e2 : ("cut".toList == "spec".toList) = false := by decide
  have e3 : ("cut".toList == "cut".toList) = true := by decide
  unfold Program.make
  rw [hr]
  simp only [e1, e2, e3, Bool.or_self, Bool.true_or, Bool.false_eq_true, if_false, if_true]

set_option maxRecDepth 100000 in
theorem cut_head : ∃ r, behindMainWord (wordsSigns Tryz.prog.initOrder.toList) = "cut".toList :: r := by
  have h := chars_of (s := Tryz.prog.initOrder) rfl
  have hh : (behindMainWord (wordsSigns Tryz.prog.initOrder.toList)).head? = some "cut".toList := by
    rw [h]
    refine Eq.trans ?_ (Eq.refl _)
    kernel_rfl
  exact head_cons hh

theorem may_enter : Tryz.prog.mayEnter = true := by
  obtain ⟨r, hr⟩ := cut_head
  exact mayEnter_of hr (by kernel_rfl) (by kernel_rfl) (by kernel_rfl)
theorem lifts_final : Tryz.prog.liftsFinal = false := by
  obtain ⟨r, hr⟩ := cut_head
  exact lifts_of hr
theorem make_cut : Tryz.prog.make = some .cut := by
  obtain ⟨r, hr⟩ := cut_head
  exact make_of hr
end Go.Proofs.YtnaagdmaggdbmaaGreatDoor
