import Derived.Test.YtbegdjemnclfaaaDraw3
namespace Go.Proofs.Ytbegdjemnclfaaa
open Go.RowKit

/-- a drawn trace and a drawn number -/
def Drew2 (w : World) (e : Ending) (w' : World) : Prop :=
  ∃ (A : Option Addr) (c : Nat) (l : List Key) (n : Int), e = .returned (.tuple #[.slice A l.length c, .int .i64 n]) ∧ Ks w'.heap.size w' A l ∧ l.length ≤ c ∧ l.length ≤ 31 ∧ -1000 ≤ n ∧ n ≤ 1000 ∧ Below w.heap.size w w'
def Drew1 (w : World) (e : Ending) (w' : World) : Prop :=
  ∃ (A : Option Addr) (c : Nat) (l : List Key), e = .returned (.slice A l.length c) ∧ Ks w'.heap.size w' A l ∧ l.length ≤ c ∧ l.length ≤ 31 ∧ Below w.heap.size w w'

theorem ks_of_own {w : World} {base : Nat} {v : Value} {l : List Key} (h : w.ownsRow base 34 2 v l.length (kcells l)) : ∃ A c, v = .slice A l.length c ∧ l.length ≤ c ∧ Ks w.heap.size w A l := by
  obtain ⟨A, c, e, h1, _, h2⟩ := own_rd h
  exact ⟨A, c, e, h1, h2⟩

theorem DrawWorkingSets_any (A : Option Addr) (n c : Nat) (w : World) (hb : Bytes w.heap.size w A n) (hc : n ≤ c) (hn : n ≤ 1048576) : Calls Try.prog 12 #[.slice A n c] w (Drew2 w) := by
  go_enter Try.func12, Try.ntmps12
  go_wp2_with fail
  refine (l12Open_any A n c w hb hc hn).mono ?_
  rintro e w1 ⟨rfl, hrd, hb1⟩
  have hgl := rdr_lt hrd
  have HB1 := Lib.hid hb1
  clear hb1
  go_wp2_with fail
  refine (l9Draw_any w.heap.size w.heap.size 0 w1 hrd (by omega)).mono ?_
  rintro e w2 ⟨v, l, p', rfl, hown, hl, hp, hrd2, hg⟩
  have HB2 := Lib.hid (bG HB1.out hg (by intro k hk; injection hk with hk; omega))
  have HO2 := Lib.hid hown
  have HR2 := Lib.hid hrd2
  have hgl2 := rdr_lt hrd2
  clear hrd2 hg hown hrd
  go_wp2_with fail
  refine (num_any w.heap.size w.heap.size p' w2.heap.size [4, 2, 8, 1, 40, 0, 41] _ (rdr_alloc HR2.out _) (Own.new_ w2 3 #[.int .i64 4, .int .i64 2, .int .i64 8, .int .i64 1, .int .i64 40, .int .i64 0, .int .i64 41]) (by omega) (by omega) (by simp) (by simp)).mono ?_
  rintro e w3 ⟨z, rfl, hz, hrd3, hg3⟩
  have hz2 : -1000 ≤ z ∧ z ≤ 1000 := by simp at hz; omega
  have hown3 := own_far (HO2.out.alloc _) hg3 hgl
  obtain ⟨A2, c2, rfl, hlc, hks⟩ := ks_of_own hown3
  have hb3 := Lib.hid (bG (bA HB2.out) hg3 (by intro k hk; injection hk with hk; omega))
  have HKS := Lib.hid hks
  clear hz hrd3 hg3 hown3 hks
  go_wp2
  go_ret2
  exact ⟨A2, c2, l, z, rfl, HKS.out, hlc, hl, hz2.1, hz2.2, hb3.out⟩
theorem DrawDistancesOf_any (A : Option Addr) (n c : Nat) (w : World) (hb : Bytes w.heap.size w A n) (hc : n ≤ c) (hn : n ≤ 1048576) : Calls Try.prog 16 #[.slice A n c] w (Drew1 w) := by
  go_enter Try.func16, Try.ntmps16
  go_wp2_with fail
  refine (l12Open_any A n c w hb hc hn).mono ?_
  rintro e w1 ⟨rfl, hrd, hb1⟩
  have HB1 := Lib.hid hb1
  clear hb1
  go_wp2_with fail
  refine (l9Draw_any w.heap.size w.heap.size 0 w1 hrd (by omega)).mono ?_
  rintro e w2 ⟨v, l, p', rfl, hown, hl, hp, hrd2, hg⟩
  obtain ⟨A2, c2, rfl, hlc, hks⟩ := ks_of_own hown
  have hb2 := Lib.hid (bG HB1.out hg (by intro k hk; injection hk with hk; omega))
  have HKS := Lib.hid hks
  clear hrd2 hg hown hks hrd
  go_wp2
  go_ret
  exact ⟨A2, c2, l, rfl, HKS.out, hlc, hl, hb2.out⟩
end Go.Proofs.Ytbegdjemnclfaaa
