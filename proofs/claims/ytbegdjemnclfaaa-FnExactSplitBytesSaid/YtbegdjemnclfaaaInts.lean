import Derived.Test.YtbegdjemnclfaaaDel
namespace Go.Proofs.Ytbegdjemnclfaaa
open Go.RowKit

/-! ### slices of integers -/
def icells (l : List Int) : List Value := l.map (Value.int .i64)
theorem icells_length (l : List Int) : (icells l).length = l.length := List.length_map _
theorem icells_append (l m : List Int) : icells (l ++ m) = icells l ++ icells m := List.map_append
theorem icells_one (l : List Int) : ∀ u ∈ icells l, u.oneCell' = true := by
  intro u hu
  obtain ⟨x, _, rfl⟩ := List.mem_map.1 hu
  rfl
abbrev Is (B : Nat) (w : World) (A : Option Addr) (l : List Int) : Prop := Rd B w 1 A l.length (icells l)
theorem Rd.int {B : Nat} {w : World} {A : Option Addr} {l : List Int} (h : Is B w A l) {k : Nat} (hk : k < l.length) :
    ∃ b o v, A = some ⟨b, o, none⟩ ∧ b < B ∧ w.cell? ⟨b, o + k, none⟩ = some (.int .i64 v) ∧ l[k]? = some v := by
  obtain ⟨b, o, e, hb, hc⟩ := h.at_ (by omega)
  exact ⟨b, o, l[k], e, hb, hc k _ (by simp [icells, hk]), List.getElem?_eq_getElem hk⟩
theorem is_own {w : World} {base : Nat} {v : Value} {n : Nat} {l : List Int} (hn : n = l.length) (h : w.ownsRow base 3 1 v n (icells l)) : ∃ A c, v = .slice A l.length c ∧ l.length ≤ c ∧ c ≤ maxLen ∧ Is w.heap.size w A l := by
  subst hn
  exact own_rd h
theorem run_append_int (base : Nat) (W : World) (v : Value) (n : Nat) (l : List Int) (x : Int) (hown : W.ownsRow base 3 1 v n (icells l)) (hn : l.length = n) (hs : n ≤ 1048576) (hb : base ≤ W.heap.size) :
    ∃ v' w', (Builtin.append_ #[26, 26] 26 #[v, .slice (some ⟨W.heap.size, 0, none⟩) 1 1]).run Try.prog (W.alloc (.cells #[.int .i64 x] 3)) = .ok v' w' ∧
      w'.ownsRow base 3 1 v' (n + 1) (icells (l ++ [x])) ∧ (W.alloc (.cells #[.int .i64 x] 3)).grownBy w' v.ownBlock ∧ (v'.ownBlock = v.ownBlock ∨ v'.ownBlock = some (W.heap.size + 1)) := by
  obtain ⟨i0, hi0, hz0, hz1, hz2⟩ := info_parts int_info
  have hr : Rd (W.alloc (.cells #[.int .i64 x] 3)).heap.size (W.alloc (.cells #[.int .i64 x] 3)) 1 (some ⟨W.heap.size, 0, none⟩) 1 (icells [x]) :=
    ⟨rfl, fun _ => ⟨W.heap.size, 0, rfl, by simp, fun j u hu => by
      rw [Nat.zero_add, (Own.new_ W _ _).cell j]
      simpa [icells] using hu⟩⟩
  have hm : n + 1 ≤ maxLen := by simp only [maxLen]; omega
  obtain ⟨v', w', h1, h2, h3, h4⟩ := run_append_rd (P := Try.prog) (W.alloc (.cells #[.int .i64 x] 3)) base 26 26 3 i0 _ 1 8 Try.underlying26 hi0 hz0 hz1 hz2 rfl (by omega)
    v n (icells l) (hown.alloc _) _ _ 1 1 _ hr (icells_one _) hm (by omega) (Nat.le_trans hb (by simp))
  exact ⟨v', w', h1, by rw [icells_append]; exact h2, h3, by simpa using h4⟩

/-- a slice of integers of the call's own -/
structure Mine (B : Nat) (w : World) (A : Option Addr) (l : List Int) : Prop where
  is : Is w.heap.size w A l
  own : 0 < l.length → ∃ g cs, A = some ⟨g, 0, none⟩ ∧ B ≤ g ∧ Own w g 3 cs ∧ l.length ≤ cs.size
theorem Mine.nil_ {B : Nat} {w : World} : Mine B w none [] := ⟨Rd.nil_, fun h => absurd h (by simp)⟩
theorem own_is0 {w : World} {g : Nat} {cs : Array Value} {l : List Int} (h : Own w g 3 cs) (hl : ∀ k, k < l.length → cs[k]? = (icells l)[k]?) : Is w.heap.size w (some ⟨g, 0, none⟩) l := by
  refine ⟨by simp [icells], fun _ => ⟨g, 0, rfl, h.lt, fun j u hu => ?_⟩⟩
  rw [Nat.zero_add, h.cell, hl j _, hu]
  obtain ⟨hj, _⟩ := List.getElem?_eq_some_iff.1 hu
  simpa [icells] using hj
theorem own_mine {B : Nat} {w : World} {g : Nat} {cs : Array Value} {l : List Int} (h : Own w g 3 cs) (hb : B ≤ g) (hs : l.length ≤ cs.size) (hl : ∀ k, k < l.length → cs[k]? = (icells l)[k]?) : Mine B w (some ⟨g, 0, none⟩) l :=
  ⟨own_is0 h hl, fun _ => ⟨g, cs, rfl, hb, h, hs⟩⟩
theorem ipInts_same (A A' : Option Addr) (c c' : Nat) (l : List Int) (w : World) (h : Is w.heap.size w A l) (h' : Is w.heap.size w A' l) (hl : l.length ≤ 9223372036854775807) :
    Calls Try.prog 15 #[.slice A l.length c, .slice A' l.length c'] w fun r w' => r = .returned (.bool true) ∧ Below w.heap.size w w' := by
  go_enter Try.func15, Try.ntmps15
  go_wp2
  go_loopw [5] (fun i wr => ∃ k : Nat, k ≤ l.length ∧ i = .int .i64 k ∧ Below w.heap.size w wr) (fun i _ => l.length - (intOf i).toNat)
  case atStart => exact ⟨0, by omega, rfl, bR⟩
  case round =>
    obtain ⟨k, hk, rfl, hb⟩ := hrel
    by_cases hlt : k < l.length
    · obtain ⟨b, o, v, rfl, hbb, c1, e1⟩ := (h.below hb).int hlt
      obtain ⟨b', o', v', rfl, hbb', c2, e2⟩ := (h'.below hb).int hlt
      rw [e1] at e2
      injection e2 with e2
      subst e2
      clear e1
      go_wp2
      go_quiet (fail)
      go_wp2
      go_roundw
      case rel => exact ⟨k + 1, by omega, by go_num, bDN hb⟩
      case measure => simp [intOf]; omega
    · go_wp2
      go_ret
      exact ⟨rfl, hb⟩
theorem eqIntS_same (A A' : Option Addr) (c c' : Nat) (l : List Int) (w : World) (h : Is w.heap.size w A l) (h' : Is w.heap.size w A' l) (hl : l.length ≤ 9223372036854775807) :
    Calls Try.prog 21 #[.slice A l.length c, .slice A' l.length c'] w fun r w' => r = .returned (.bool true) ∧ Below w.heap.size w w' := by
  go_enter Try.func21, Try.ntmps21
  go_wp2
  go_loopw [5] (fun i wr => ∃ k : Nat, k ≤ l.length ∧ i = .int .i64 k ∧ Below w.heap.size w wr) (fun i _ => l.length - (intOf i).toNat)
  case atStart => exact ⟨0, by omega, rfl, bR⟩
  case round =>
    obtain ⟨k, hk, rfl, hb⟩ := hrel
    by_cases hlt : k < l.length
    · obtain ⟨b, o, v, rfl, hbb, c1, e1⟩ := (h.below hb).int hlt
      obtain ⟨b', o', v', rfl, hbb', c2, e2⟩ := (h'.below hb).int hlt
      rw [e1] at e2
      injection e2 with e2
      subst e2
      clear e1
      go_wp2
      go_quiet (fail)
      go_wp2
      go_roundw
      case rel => exact ⟨k + 1, by omega, by go_num, bDN hb⟩
      case measure => simp [intOf]; omega
    · go_wp2
      go_ret
      exact ⟨rfl, hb⟩
end Go.Proofs.Ytbegdjemnclfaaa
