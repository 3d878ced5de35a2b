import Derived.Test.YtebodfciiikokaaWork
import Derived.Test.YtebodfciiikokaaNext
namespace Go.Proofs.Ytebodfciiikokaa
open Go.RowKit

theorem drop_pred {l : List Key} {p : Nat} {x : Key} (e : l[p]? = some x) : l.drop p = x :: l.drop (p + 1) := by
  obtain ⟨h, rfl⟩ := List.getElem?_eq_some_iff.1 e
  exact List.drop_eq_getElem_cons h
theorem take_at {l : List Key} {k p : Nat} {x : Key} (e : l[p]? = some x) (h : p < k) : (l.take k)[p]? = some x := by
  rw [List.getElem?_take, if_pos h]; exact e
/-- the different keys that were met on the way back -/
def Met (P sl : List Key) : Prop := sl.length = Tr.nd P ∧ ∀ x, x ∈ sl ↔ x ∈ P
theorem met_nil {P : List Key} (h : P = []) : Met P [] := by subst h; exact ⟨rfl, fun _ => Iff.rfl⟩
theorem met_in {P sl : List Key} {x : Key} (h : Met P sl) (hx : x ∈ sl) : Met (x :: P) sl := by
  refine ⟨by rw [Tr.nd_cons, if_pos ((h.2 x).1 hx)]; exact h.1, fun y => ?_⟩
  rw [List.mem_cons, ← h.2 y]
  exact ⟨.inr, fun h => h.elim (fun e => e ▸ hx) id⟩
theorem met_out {P sl : List Key} {x : Key} (h : Met P sl) (hx : x ∉ sl) : Met (x :: P) (sl ++ [x]) := by
  refine ⟨by rw [Tr.nd_cons, if_neg (fun h' => hx ((h.2 x).2 h')), List.length_append, h.1]; rfl, fun y => ?_⟩
  rw [List.mem_cons, List.mem_append, List.mem_singleton, h.2 y, or_comm]

end Go.Proofs.Ytebodfciiikokaa
