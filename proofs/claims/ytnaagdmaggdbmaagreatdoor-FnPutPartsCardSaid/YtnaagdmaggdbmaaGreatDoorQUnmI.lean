/- A part of the proofs of this seat: UnmI. -/
import Derived.Test.YtnaagdmaggdbmaaGreatDoorQProtI
import Derived.Test.YtnaagdmaggdbmaaGreatDoorQDrpI
set_option linter.unusedVariables false
set_option linter.unusedSimpArgs false
namespace Go.Proofs.YtnaagdmaggdbmaaGreatDoor
open Go.RowKit
set_option maxRecDepth 1000000
theorem unmOK_false {t : Tab} {s p : Int} (h : fOK t s p = false) : unmV t s p = tabz := by unfold unmV; rw [h]; rfl
def rl (fs : List Fr) (a n : Int) (i : Nat) : List Fr := (fs.take i).map (relink a n) ++ fs.drop i
theorem rl_zero (fs : List Fr) (a n : Int) : rl fs a n 0 = fs := by simp [rl]
theorem rl_all (fs : List Fr) (a n : Int) : rl fs a n fs.length = fs.map (relink a n) := by simp [rl]
theorem rl_len (fs : List Fr) (a n : Int) (i : Nat) : (rl fs a n i).length = fs.length := by simp [rl]; omega
theorem rl_at {fs : List Fr} {a n : Int} {i : Nat} {f : Fr} (h : fs[i]? = some f) : (rl fs a n i)[i]? = some f := by
 obtain ⟨hlt, _⟩ := List.getElem?_eq_some_iff.1 h
 unfold rl
 rw [List.getElem?_append_right (by simp; omega)]
 simp [Nat.min_eq_left (Nat.le_of_lt hlt), h]
theorem rl_step {fs : List Fr} {a n : Int} {i : Nat} {f : Fr} (h : fs[i]? = some f) : rl fs a n (i + 1) = (rl fs a n i).set i (relink a n f) := by
 obtain ⟨hlt, he⟩ := List.getElem?_eq_some_iff.1 h
 apply List.ext_getElem?
 intro j
 rw [List.getElem?_set]
 unfold rl
 by_cases hj : i = j
 ·subst hj
  rw [if_pos rfl, if_pos (by simp; omega), List.getElem?_append_left (by simp; omega), List.getElem?_map, List.getElem?_take_of_lt (by omega), h]
  rfl
 ·rw [if_neg hj]
  by_cases hj2 : j < i
  ·rw [List.getElem?_append_left (by simp; omega), List.getElem?_append_left (by simp; omega), List.getElem?_map, List.getElem?_map, List.getElem?_take_of_lt (by omega), List.getElem?_take_of_lt (by omega)]
  ·rw [List.getElem?_append_right (by simp; omega), List.getElem?_append_right (by simp; omega), List.getElem?_drop, List.getElem?_drop]
   simp
   congr 1
   omega
end Go.Proofs.YtnaagdmaggdbmaaGreatDoor
