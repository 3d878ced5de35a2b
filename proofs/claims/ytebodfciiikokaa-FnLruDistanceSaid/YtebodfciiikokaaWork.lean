import Derived.Test.YtebodfciiikokaaDiff
import Derived.Test.YtebodfciiikokaaCurve2
namespace Go.Proofs.Ytebodfciiikokaa
open Go.RowKit

/-- the windows of a trace -/
def wsl (t : List Key) (n : Int) : List Int := (List.range t.length).map fun i => ((Tr.wset t n.toNat i : Nat) : Int)
def wval (t : List Key) (n : Int) : Bool := tval t && decide (1 ≤ n) && decide (n ≤ 40)
def wsv (t : List Key) (n : Int) : List Int := if wval t n = true then wsl t n else []
theorem wsl_get (t : List Key) (n : Int) (k : Nat) (hk : k < t.length) : (wsl t n)[k]? = some ((Tr.wset t n.toNat k : Nat) : Int) := by simp [wsl, hk]
theorem wsl_length (t : List Key) (n : Int) : (wsl t n).length = t.length := by simp [wsl]
theorem wsl_take (t : List Key) (n : Int) (k : Nat) (hk : k < t.length) : (wsl t n).take (k + 1) = (wsl t n).take k ++ [((Tr.wset t n.toNat k : Nat) : Int)] := by
  rw [List.take_add_one, wsl_get t n k hk]; rfl
theorem wval_parts {t : List Key} {n : Int} (h : wval t n = true) : tval t = true ∧ t.all kval = true ∧ t.length ≤ 40 ∧ 1 ≤ n ∧ n ≤ 40 := by
  unfold wval at h
  rw [Bool.and_eq_true, Bool.and_eq_true, decide_eq_true_eq, decide_eq_true_eq] at h
  obtain ⟨⟨h1, h2⟩, h3⟩ := h
  have h4 := h1
  unfold tval at h4
  rw [Bool.and_eq_true, decide_eq_true_eq] at h4
  exact ⟨h1, h4.2, h4.1, h2, h3⟩

theorem wsv_le (t : List Key) (n : Int) : (wsv t n).length ≤ 40 := by
  unfold wsv
  split
  · rename_i h
    rw [wsl_length]
    exact (wval_parts h).2.2.1
  · simp
end Go.Proofs.Ytebodfciiikokaa
