import Derived.Test.YtebodfciiikokaaInts
namespace Go.Proofs.Ytebodfciiikokaa
open Go.RowKit
theorem make_any (n : Nat) (hn : n ≤ 1048576) : ∃ cs : Array Value, cs.size = n ∧ ∀ w : World, (Instr.makeSlice 28 (.int .i64 (n : Int)) (.int .i64 (n : Int))).run Try.prog w = .ok (.slice (some ⟨w.heap.size, 0, none⟩) n n) (w.alloc (.cells cs 3)) := by
  refine ⟨madeCells #[.int .i64 0] n, by simp [madeCells], fun w => ?_⟩
  obtain ⟨i0, hi0, hz0, hz1, hz2⟩ := info_parts int_info
  have hb : (i0.bytes : Int) * ((n : Nat) : Int) ≤ 281474976710656 := by rw [hz2]; omega
  have hr := run_make (P := Try.prog) w 28 3 i0 _ Try.underlying28 hi0 hz0 .i64 .i64 n n (by omega) (by omega) hb (by omega)
  simp only [Int.toNat_natCast, hz1, Nat.mul_one] at hr
  exact hr
theorem own_is_ {w : World} {g : Nat} {cs : Array Value} {l : List Int} (h : Own w g 3 cs) (hl : ∀ k, k < l.length → cs[k]? = (icells l)[k]?) : Is w.heap.size w (some ⟨g, 0, none⟩) l := by
  refine ⟨by simp [icells], fun _ => ⟨g, 0, rfl, h.lt, fun j u hu => ?_⟩⟩
  rw [Nat.zero_add, h.cell, hl j _, hu]
  obtain ⟨hj, _⟩ := List.getElem?_eq_some_iff.1 hu
  simpa [icells] using hj
end Go.Proofs.Ytebodfciiikokaa
