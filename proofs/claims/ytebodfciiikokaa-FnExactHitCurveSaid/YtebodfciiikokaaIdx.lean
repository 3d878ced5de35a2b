import Derived.Test.YtebodfciiikokaaLeaf
namespace Go.Proofs.Ytebodfciiikokaa
open Go.RowKit

def idx (l : List Key) (k : Key) : Int := if k ∈ l then (l.idxOf k : Int) else -1

theorem idx_at {l : List Key} {k : Nat} {v : Key} (hk : k < l.length) (h : ∀ j (_ : j < k) (hl : j < l.length), l[j] ≠ v) (e : l[k] = v) : idx l v = k := by
  have hm : v ∈ l := by rw [← e]; exact List.getElem_mem hk
  unfold idx
  rw [if_pos hm]
  have h1 := List.idxOf_lt_length_of_mem hm
  have h2 : l[l.idxOf v] = v := by simp
  have h3 : ¬ l.idxOf v < k := fun hlt => h _ hlt h1 h2
  have h4 : l.idxOf v ≤ k := by
    clear h h1 h2 h3 hm
    induction l generalizing k with
    | nil => simp at hk
    | cons a l ih =>
      rw [List.idxOf_cons]
      cases hb : (a == v) with
      | true => simp
      | false =>
        cases k with
        | zero => simp at e; subst e; simp at hb
        | succ k => simpa using ih (by simpa using hk) (by simpa using e)
  omega
theorem idx_none {l : List Key} {v : Key} (h : ∀ j (_ : j < l.length) (hl : j < l.length), l[j] ≠ v) : idx l v = -1 := by
  unfold idx
  rw [if_neg]
  intro hm
  obtain ⟨j, hj, e⟩ := List.getElem_of_mem hm
  exact h j hj hj e
theorem below_succ {l : List Key} {k : Nat} {v : Key} (h : ∀ j (_ : j < k) (hl : j < l.length), l[j] ≠ v) (e : {hk : k < l.length} → ¬ l[k] = v) : ∀ j (_ : j < k + 1) (hl : j < l.length), l[j] ≠ v := by
  intro j hj hl
  rcases Nat.lt_or_ge j k with h' | h'
  · exact h j h' hl
  · obtain rfl : j = k := by omega
    exact e

theorem index_any (A : Option Addr) (c : Nat) (l : List Key) (x y : Int) (w : World) (h : Ks w.heap.size w A l) (hl : l.length ≤ 9223372036854775807) :
    Calls Try.prog 59 #[.slice A l.length c, .agg #[.int .i64 x, .int .i64 y]] w fun r w' => r = .returned (.int .i64 (idx l (x, y))) ∧ Below w.heap.size w w' := by
  go_enter Try.func59, Try.ntmps59
  go_wp2
  go_loopw [5, 8] (fun _ i wr => ∃ k : Nat, k ≤ l.length ∧ i = .int .i64 k ∧ Below w.heap.size w wr ∧ Own wr w.heap.size 50 #[.int .i64 x, .int .i64 y] ∧ Hid (∀ j (_ : j < k) (hl : j < l.length), l[j] ≠ (x, y))) (fun _ i _ => l.length - (intOf i).toNat)
  case atStart => exact ⟨0, by omega, rfl, bA bR, Own.new_ _ _ _, fun j hj => by omega⟩
  case round =>
    obtain ⟨k, hk, rfl, hb, ho, hall⟩ := hrel
    by_cases hlt : k < l.length
    · obtain ⟨b, o, rfl, hbb, h1, h2⟩ := (h.below hb).key hlt
      have o1 := ho.cell_ 0 (v := .int .i64 x) rfl
      have o2 := ho.cell_ 1 (v := .int .i64 y) rfl
      have HO := Lib.hid ho
      clear ho
      have he := fun W => eql_key x y l[k].1 l[k].2 W
      by_cases e : l[k] = (x, y)
      · have hq : keq x y l[k].1 l[k].2 = true := keq_true e.symm
        have H : Hid (idx l (x, y) = k) := idx_at hlt hall.out e
        go_wp2
        go_quiet (fail)
        go_wp2
        go_ret
        exact ⟨by rw [H.out]; rfl, bDN hb⟩
      · have hq : keq x y l[k].1 l[k].2 = false := keq_false (Ne.symm e)
        have H : Hid (∀ j (_ : j < k + 1) (hl : j < l.length), l[j] ≠ (x, y)) := below_succ hall.out e
        go_wp2
        go_quiet (fail)
        go_wp2
        go_roundw
        case rel => exact ⟨k + 1, by omega, by go_num, bDN hb, HO.out.drewN, H⟩
        case measure => simp [intOf]; omega
    · have H : Hid (idx l (x, y) = -1) := idx_none fun j hj hl => hall.out j (by omega) hl
      go_wp2
      go_ret
      exact ⟨by rw [H.out]; rfl, hb⟩

theorem l9In_any (A : Option Addr) (c : Nat) (l : List Key) (x y : Int) (w : World) (h : Ks w.heap.size w A l) (hl : l.length ≤ 9223372036854775807) :
    Calls Try.prog 53 #[.slice A l.length c, .agg #[.int .i64 x, .int .i64 y]] w fun r w' => r = .returned (.int .i64 (idx l (x, y))) ∧ Below w.heap.size w w' := by
  go_enter Try.func53, Try.ntmps53
  go_wp2
  go_loopw [5] (fun i wr => ∃ k : Nat, k ≤ l.length ∧ i = .int .i64 k ∧ Below w.heap.size w wr ∧ Own wr w.heap.size 50 #[.int .i64 x, .int .i64 y] ∧ Hid (∀ j (_ : j < k) (hl : j < l.length), l[j] ≠ (x, y))) (fun i _ => l.length - (intOf i).toNat)
  case atStart => exact ⟨0, by omega, rfl, bA bR, Own.new_ _ _ _, fun j hj => by omega⟩
  case round =>
    obtain ⟨k, hk, rfl, hb, ho, hall⟩ := hrel
    by_cases hlt : k < l.length
    · obtain ⟨b, o, rfl, hbb, h1, h2⟩ := (h.below hb).key hlt
      have o1 := ho.cell_ 0 (v := .int .i64 x) rfl
      have o2 := ho.cell_ 1 (v := .int .i64 y) rfl
      have HO := Lib.hid ho
      clear ho
      have he := fun W => eql_key l[k].1 l[k].2 x y W
      by_cases e : l[k] = (x, y)
      · have hq : keq l[k].1 l[k].2 x y = true := keq_true e
        have H : Hid (idx l (x, y) = k) := idx_at hlt hall.out e
        go_wp2
        go_quiet (fail)
        go_wp2
        go_ret
        exact ⟨by rw [H.out]; rfl, bDN hb⟩
      · have hq : keq l[k].1 l[k].2 x y = false := keq_false e
        have H : Hid (∀ j (_ : j < k + 1) (hl : j < l.length), l[j] ≠ (x, y)) := below_succ hall.out e
        go_wp2
        go_quiet (fail)
        go_wp2
        go_roundw
        case rel => exact ⟨k + 1, by omega, by go_num, bDN hb, HO.out.drewN, H⟩
        case measure => simp [intOf]; omega
    · have H : Hid (idx l (x, y) = -1) := idx_none fun j hj hl => hall.out j (by omega) hl
      go_wp2
      go_ret
      exact ⟨by rw [H.out]; rfl, hb⟩

end Go.Proofs.Ytebodfciiikokaa
