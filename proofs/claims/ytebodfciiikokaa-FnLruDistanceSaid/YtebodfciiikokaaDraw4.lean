import Derived.Test.YtebodfciiikokaaDraw3
namespace Go.Proofs.Ytebodfciiikokaa
open Go.RowKit

/-- a drawn trace and a drawn number -/
def Drew2 (w : World) (e : Ending) (w' : World) : Prop :=
  ∃ (A : Option Addr) (c : Nat) (l : List Key) (n : Int), e = .returned (.tuple #[.slice A l.length c, .int .i64 n]) ∧ Ks w'.heap.size w' A l ∧ l.length ≤ c ∧ l.length ≤ 31 ∧ -1000 ≤ n ∧ n ≤ 1000 ∧ Below w.heap.size w w'
def Drew1 (w : World) (e : Ending) (w' : World) : Prop :=
  ∃ (A : Option Addr) (c : Nat) (l : List Key), e = .returned (.slice A l.length c) ∧ Ks w'.heap.size w' A l ∧ l.length ≤ c ∧ l.length ≤ 31 ∧ Below w.heap.size w w'

theorem ks_of_own {w : World} {base : Nat} {v : Value} {l : List Key} (h : w.ownsRow base 50 2 v l.length (kcells l)) : ∃ A c, v = .slice A l.length c ∧ l.length ≤ c ∧ Ks w.heap.size w A l := by
  obtain ⟨A, c, e, h1, _, h2⟩ := own_rd h
  exact ⟨A, c, e, h1, h2⟩

theorem l9Case_any (A : Option Addr) (n c : Nat) (w : World) (hb : Bytes w.heap.size w A n) (hc : n ≤ c) (hn : n ≤ 1048576) : Calls Try.prog 43 #[.slice A n c] w (Drew2 w) := by
  go_enter Try.func43, Try.ntmps43
  go_wp2_with fail
  refine (l12Open_any A n c w hb hc hn).mono ?_
  rintro e w1 ⟨rfl, hrd, hb1⟩
  have hgl := rdr_lt hrd
  have HB1 := Lib.hid hb1
  clear hb1
  go_wp2_with fail
  refine (l9Draw_any w.heap.size w.heap.size 0 w1 hrd (by omega)).mono ?_
  rintro e w2 ⟨v, l, p', rfl, hown, hl, hp, hrd2, hg⟩
  have HB2 := Lib.hid (bG HB1.out hg (by intro k hk; injection hk with hk; omega))
  have HO2 := Lib.hid hown
  have HR2 := Lib.hid hrd2
  have hgl2 := rdr_lt hrd2
  clear hrd2 hg hown hrd
  go_wp2_with fail
  refine (num_any w.heap.size w.heap.size p' w2.heap.size [3, 2, 4, 1, 8, 5, 0, 9] _ (rdr_alloc HR2.out _) (Own.new_ w2 3 #[.int .i64 3, .int .i64 2, .int .i64 4, .int .i64 1, .int .i64 8, .int .i64 5, .int .i64 0, .int .i64 9]) (by omega) (by omega) (by simp) (by simp)).mono ?_
  rintro e w3 ⟨z, rfl, hz, hrd3, hg3⟩
  have hz2 : -1000 ≤ z ∧ z ≤ 1000 := by simp at hz; omega
  have hown3 := own_far (HO2.out.alloc _) hg3 hgl
  obtain ⟨A2, c2, rfl, hlc, hks⟩ := ks_of_own hown3
  have hb3 := Lib.hid (bG (bA HB2.out) hg3 (by intro k hk; injection hk with hk; omega))
  have HKS := Lib.hid hks
  clear hz hrd3 hg3 hown3 hks
  go_wp2
  go_ret2
  exact ⟨A2, c2, l, z, rfl, HKS.out, hlc, hl, hz2.1, hz2.2, hb3.out⟩
theorem DrawHitsLru_any (A : Option Addr) (n c : Nat) (w : World) (hb : Bytes w.heap.size w A n) (hc : n ≤ c) (hn : n ≤ 1048576) : Calls Try.prog 22 #[.slice A n c] w (Drew2 w) := by
  go_enter Try.func22, Try.ntmps22
  go_wp2_with fail
  refine (l9Case_any A n c w hb hc hn).mono ?_
  rintro e w1 ⟨A2, c2, l, z, rfl, hks, hlc, hl, hz1, hz2, hb1⟩
  have HKS := Lib.hid hks
  have HB := Lib.hid hb1
  clear hks hb1
  go_wp2
  go_ret2
  exact ⟨A2, c2, l, z, rfl, HKS.out, hlc, hl, hz1, hz2, HB.out⟩
theorem DrawHitsFifo_any (A : Option Addr) (n c : Nat) (w : World) (hb : Bytes w.heap.size w A n) (hc : n ≤ c) (hn : n ≤ 1048576) : Calls Try.prog 25 #[.slice A n c] w (Drew2 w) := by
  go_enter Try.func25, Try.ntmps25
  go_wp2_with fail
  refine (l9Case_any A n c w hb hc hn).mono ?_
  rintro e w1 ⟨A2, c2, l, z, rfl, hks, hlc, hl, hz1, hz2, hb1⟩
  have HKS := Lib.hid hks
  have HB := Lib.hid hb1
  clear hks hb1
  go_wp2
  go_ret2
  exact ⟨A2, c2, l, z, rfl, HKS.out, hlc, hl, hz1, hz2, HB.out⟩
theorem DrawLinesFor_any (A : Option Addr) (n c : Nat) (w : World) (hb : Bytes w.heap.size w A n) (hc : n ≤ c) (hn : n ≤ 1048576) : Calls Try.prog 11 #[.slice A n c] w (Drew2 w) := by
  go_enter Try.func11, Try.ntmps11
  go_wp2_with fail
  refine (l12Open_any A n c w hb hc hn).mono ?_
  rintro e w1 ⟨rfl, hrd, hb1⟩
  have hgl := rdr_lt hrd
  have HB1 := Lib.hid hb1
  clear hb1
  go_wp2_with fail
  refine (l9Draw_any w.heap.size w.heap.size 0 w1 hrd (by omega)).mono ?_
  rintro e w2 ⟨v, l, p', rfl, hown, hl, hp, hrd2, hg⟩
  have HB2 := Lib.hid (bG HB1.out hg (by intro k hk; injection hk with hk; omega))
  have HO2 := Lib.hid hown
  have HR2 := Lib.hid hrd2
  have hgl2 := rdr_lt hrd2
  clear hrd2 hg hown hrd
  go_wp2_with fail
  refine (num_any w.heap.size w.heap.size p' w2.heap.size [3, 1, 5, 0, 10, 40] _ (rdr_alloc HR2.out _) (Own.new_ w2 3 #[.int .i64 3, .int .i64 1, .int .i64 5, .int .i64 0, .int .i64 10, .int .i64 40]) (by omega) (by omega) (by simp) (by simp)).mono ?_
  rintro e w3 ⟨z, rfl, hz, hrd3, hg3⟩
  have hz2 : -1000 ≤ z ∧ z ≤ 1000 := by simp at hz; omega
  have hown3 := own_far (HO2.out.alloc _) hg3 hgl
  obtain ⟨A2, c2, rfl, hlc, hks⟩ := ks_of_own hown3
  have hb3 := Lib.hid (bG (bA HB2.out) hg3 (by intro k hk; injection hk with hk; omega))
  have HKS := Lib.hid hks
  clear hz hrd3 hg3 hown3 hks
  go_wp2
  go_ret2
  exact ⟨A2, c2, l, z, rfl, HKS.out, hlc, hl, hz2.1, hz2.2, hb3.out⟩
theorem DrawHitCurve_any (A : Option Addr) (n c : Nat) (w : World) (hb : Bytes w.heap.size w A n) (hc : n ≤ c) (hn : n ≤ 1048576) : Calls Try.prog 15 #[.slice A n c] w (Drew1 w) := by
  go_enter Try.func15, Try.ntmps15
  go_wp2_with fail
  refine (l12Open_any A n c w hb hc hn).mono ?_
  rintro e w1 ⟨rfl, hrd, hb1⟩
  have HB1 := Lib.hid hb1
  clear hb1
  go_wp2_with fail
  refine (l9Draw_any w.heap.size w.heap.size 0 w1 hrd (by omega)).mono ?_
  rintro e w2 ⟨v, l, p', rfl, hown, hl, hp, hrd2, hg⟩
  obtain ⟨A2, c2, rfl, hlc, hks⟩ := ks_of_own hown
  have hb2 := Lib.hid (bG HB1.out hg (by intro k hk; injection hk with hk; omega))
  have HKS := Lib.hid hks
  clear hrd2 hg hown hks hrd
  go_wp2
  go_ret
  exact ⟨A2, c2, l, rfl, HKS.out, hlc, hl, hb2.out⟩
end Go.Proofs.Ytebodfciiikokaa
