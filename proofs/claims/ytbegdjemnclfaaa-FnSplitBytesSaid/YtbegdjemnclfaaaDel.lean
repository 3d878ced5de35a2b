import Derived.Test.YtbegdjemnclfaaaOwn
import Derived.Test.YtbegdjemnclfaaaLeaf
import Derived.StillTailTactics
namespace Go.Proofs.Ytbegdjemnclfaaa
open Go.RowKit

def Post2 (P : Value → World → Prop) (e : Ending) (w' : World) : Prop := ∃ v, e = .returned v ∧ P v w'

theorem kcells_one (l : List Key) : ∀ u ∈ kcells l, u.oneCell' = true := by
  intro u hu
  simp only [kcells, List.mem_flatMap, List.mem_cons, List.not_mem_nil, or_false] at hu
  obtain ⟨k, _, rfl | rfl⟩ := hu <;> rfl
theorem kcells_erase (l : List Key) (i : Nat) : kcells (l.eraseIdx i) = (kcells l).take (i * 2) ++ kcells (l.drop (i + 1)) := by
  rw [List.eraseIdx_eq_take_drop_succ, kcells_append, kcells_take]

/-- a row of the call's own, laid open -/
theorem own_open {w : World} {base g c n : Nat} {e : TypeId} {sz : Nat} {xs : List Value} (h : w.ownsRow base e sz (.slice (some ⟨g, 0, none⟩) n c) n xs) (_ : 0 < n) :
    base ≤ g ∧ n ≤ c ∧ c ≤ maxLen ∧ ∃ cur, Own w g e cur ∧ cur.size = c * sz ∧ cur.toList.take (n * sz) = xs := by
  rcases h.2 with ⟨h0, _⟩ | ⟨g', cap, cur, e1, hb, hg, hc, hm, hs, ht⟩
  · cases h0
  · injection e1 with e1 _ e2
    injection e1 with e1
    injection e1 with e1
    subst e1 e2
    exact ⟨hb, hc, hm, cur, hg, hs, ht⟩
theorem own_shut {w : World} {base g c n : Nat} {e : TypeId} {sz : Nat} {xs : List Value} {cur : Array Value} (hb : base ≤ g) (hc : n ≤ c) (hm : c ≤ maxLen) (ho : Own w g e cur) (hs : cur.size = c * sz)
    (ht : cur.toList.take (n * sz) = xs) : w.ownsRow base e sz (.slice (some ⟨g, 0, none⟩) n c) n xs :=
  ⟨by rw [← ht, List.length_take, Array.length_toList, hs, Nat.min_eq_left (Nat.mul_le_mul_right _ hc)], .inr ⟨g, c, cur, rfl, hb, ho, hc, hm, hs, ht⟩⟩
theorem grown_setRow {a w : World} {g : Nat} (h : a.grownBy w (some g)) (cs : Array Value) : a.grownBy (w.setRow g cs) (some g) :=
  ⟨h.os, h.tape, h.output, by simpa using h.size, fun k hk hne => (setRow_other w g k cs (by rintro rfl; exact hne rfl)).trans (h.block k hk hne)⟩
theorem Own.row {w : World} {g : Nat} {t : TypeId} {cs : Array Value} (h : Own w g t cs) (cs' : Array Value) : Own (w.setRow g cs') g t cs' := setRow_heap w g cs cs' t (0, 0) h

/-! ### append of one key -/
theorem run_append_key (base : Nat) (W : World) (v : Value) (n : Nat) (l : List Key) (x y : Int) (hown : W.ownsRow base 34 2 v n (kcells l)) (hn : l.length = n) (hs : n ≤ 1048576) (hb : base ≤ W.heap.size) :
    ∃ v' w', (Builtin.append_ #[23, 23] 23 #[v, .slice (some ⟨W.heap.size, 0, none⟩) 1 1]).run Try.prog (W.alloc (.cells #[.int .i64 x, .int .i64 y] 34)) = .ok v' w' ∧
      w'.ownsRow base 34 2 v' (n + 1) (kcells (l ++ [(x, y)])) ∧ (W.alloc (.cells #[.int .i64 x, .int .i64 y] 34)).grownBy w' v.ownBlock ∧ (v'.ownBlock = v.ownBlock ∨ v'.ownBlock = some (W.heap.size + 1)) := by
  obtain ⟨i0, hi0, hz0, hz1, hz2⟩ := info_parts key_info
  have hr : Rd (W.alloc (.cells #[.int .i64 x, .int .i64 y] 34)).heap.size (W.alloc (.cells #[.int .i64 x, .int .i64 y] 34)) 2 (some ⟨W.heap.size, 0, none⟩) 1 (kcells [(x, y)]) :=
    ⟨rfl, fun _ => ⟨W.heap.size, 0, rfl, by simp, fun j u hu => by
      rw [Nat.zero_add, (Own.new_ W _ _).cell j]
      simpa [kcells] using hu⟩⟩
  have hm : n + 1 ≤ maxLen := by simp only [maxLen]; omega
  obtain ⟨v', w', h1, h2, h3, h4⟩ := run_append_rd (P := Try.prog) (W.alloc (.cells #[.int .i64 x, .int .i64 y] 34)) base 23 23 34 i0 _ 2 16 Try.underlying23 hi0 hz0 hz1 hz2 rfl (by omega)
    v n (kcells l) (hown.alloc _) _ _ 1 1 _ hr (kcells_one _) hm (by omega) (Nat.le_trans hb (by simp))
  exact ⟨v', w', h1, by rw [kcells_append]; exact h2, h3, by simpa using h4⟩
end Go.Proofs.Ytbegdjemnclfaaa
