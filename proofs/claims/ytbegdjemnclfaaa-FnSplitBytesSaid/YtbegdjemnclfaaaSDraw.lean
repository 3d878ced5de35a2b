import Derived.Test.YtbegdjemnclfaaaSplit
import Derived.Test.YtbegdjemnclfaaaDraw4
namespace Go.Proofs.Ytbegdjemnclfaaa
open Go.RowKit

theorem own_gr {w w' : World} {b g : Nat} {t : TypeId} {cs : Array Value} (h : Own w b t cs) (hg : w.grownBy w' (some g)) (hne : b ≠ g) : Own w' b t cs := (hg.block b h.lt (by simpa using hne)).trans h
/-- numbers that a draw may give -/
def small (n : Int) : Prop := -1000 ≤ n ∧ n ≤ 20000
def NumPost (B : Nat) (w : World) (g p : Nat) (e : Ending) (w' : World) : Prop := ∃ r : Int, e = .returned (.int .i64 r) ∧ small r ∧ Rdr B w' g (p + 1) ∧ w.grownBy w' (some g)
/-- r.num of a list that is written out -/
theorem num_lit (B g p : Nat) (zs : List Int) (w : World) (cs : Array Value) (n : Nat) (hcs : cs = (zs.map (Value.int .i64)).toArray) (hn : n = zs.length) (h : Rdr B w g p) (hp : p ≤ 1000000) (h1 : 1 ≤ zs.length) (h2 : zs.length ≤ 1000) (hs : ∀ z ∈ zs, small z) :
    Calls Try.prog 38 #[.pointer (some ⟨g, 0, none⟩), .slice (some ⟨w.heap.size, 0, none⟩) n n] (w.alloc (.cells cs 3)) (fun e w' => ∃ r : Int, e = .returned (.int .i64 r) ∧ small r ∧ Rdr B w' g (p + 1) ∧ w.grownBy w' (some g)) := by
  subst hcs hn
  refine (num_any B g p w.heap.size zs _ (rdr_alloc h _) (Own.new_ w _ _) (by have := rdr_lt h; omega) hp h1 h2).mono ?_
  rintro e w' ⟨r, rfl, hr, hrd, hg⟩
  exact ⟨r, rfl, hs r hr, hrd, gT (gA gR) hg⟩
/-- a store into a block that is new since w0 -/
theorem g_set {w0 w : World} {r : Option Nat} {b i : Nat} {u : Value} (hb : w0.heap.size ≤ b) (h : w0.grownBy w r) : w0.grownBy (w.setCell ⟨b, i, none⟩ u) r :=
  ⟨h.os, h.tape, h.output, by simpa using h.size, fun k hk hne => (Below.heap_setCell w _ u k (by intro e; have e : k = b := e; omega)).trans (h.block k hk hne)⟩
theorem g_sets {w0 w : World} {r : Option Nat} {b : Nat} {x y z : Value} (hb : w0.heap.size ≤ b) (h : w0.grownBy w r) : w0.grownBy (((w.setCell ⟨b, 0, none⟩ x).setCell ⟨b, 1, none⟩ y).setCell ⟨b, 2, none⟩ z) r :=
  g_set hb (g_set hb (g_set hb h))
theorem rdr_set1 {B : Nat} {w : World} {g p b i : Nat} {u : Value} (hb : g < b) (h : Rdr B w g p) : Rdr B (w.setCell ⟨b, i, none⟩ u) g p := by
  have hl := rdr_lt h
  exact rdr_grownb h ⟨rfl, rfl, rfl, by simp, fun k hk hne => Below.heap_setCell w _ u k (by rintro rfl; exact hne rfl)⟩ hb
theorem rdr_sets {B : Nat} {w : World} {g p b : Nat} {x y z : Value} (hb : g < b) (h : Rdr B w g p) : Rdr B (((w.setCell ⟨b, 0, none⟩ x).setCell ⟨b, 1, none⟩ y).setCell ⟨b, 2, none⟩ z) g p :=
  rdr_set1 hb (rdr_set1 hb (rdr_set1 hb h))
set_option maxHeartbeats 1000000 in
theorem l1Draw_any (B g p : Nat) (w : World) (h : Rdr B w g p) (hp : p ≤ 1000) :
    Calls Try.prog 61 #[.pointer (some ⟨g, 0, none⟩)] w (fun e w' => ∃ s q o : Int, e = .returned (.agg #[.int .i64 s, .int .i64 q, .int .i64 o]) ∧ small s ∧ small q ∧ small o ∧ Rdr B w' g (p + 3) ∧ w.grownBy w' (some g)) := by
  have hgl := rdr_lt h
  have HR := Lib.hid (rdr_alloc h (.cells #[.int .i64 0, .int .i64 0, .int .i64 0] 44))
  have HG : Hid (w.grownBy (w.alloc (.cells #[.int .i64 0, .int .i64 0, .int .i64 0] 44)) (some g)) := gA gR
  have ho := Own.new_ w 44 #[.int .i64 0, .int .i64 0, .int .i64 0]
  generalize hW : w.alloc (.cells #[.int .i64 0, .int .i64 0, .int .i64 0] 44) = W0 at HR HG ho
  have HO := Lib.hid ho
  clear ho h
  go_enter Try.func61, Try.ntmps61
  go_wp2_with fail
  refine (num_lit B g (p) [0, 1, 2, 3, 15, 5] W0 _ _ rfl rfl HR.out (by omega) (by simp) (by simp) (by simp [small])).mono ?_
  rintro e w1 ⟨z1, rfl, hz1, hrd, hg⟩
  have HR1 := Lib.hid hrd
  have HG1 := Lib.hid (gT HG.out hg)
  have ho := own_gr HO.out hg (by omega)
  clear hrd hg HO
  have HO := Lib.hid ho
  clear ho
  go_wp2_with fail
  refine (num_lit B g (p + 1) [0, 1, 7, 255, 100, 3, 9] w1 _ _ rfl rfl HR1.out (by omega) (by simp) (by simp) (by simp [small])).mono ?_
  rintro e w2 ⟨z2, rfl, hz2, hrd, hg⟩
  have HR2 := Lib.hid hrd
  have HG2 := Lib.hid (gT HG1.out hg)
  have ho := own_gr HO.out hg (by omega)
  clear hrd hg HO
  have HO := Lib.hid ho
  clear ho
  go_wp2_with fail
  refine (num_lit B g (p + 1 + 1) [0, 5, 63, 32] w2 _ _ rfl rfl HR2.out (by omega) (by simp) (by simp) (by simp [small])).mono ?_
  rintro e w3 ⟨z3, rfl, hz3, hrd, hg⟩
  have HR3 := Lib.hid hrd
  have HG3 := Lib.hid (gT HG2.out hg)
  have ho := own_gr HO.out hg (by omega)
  clear hrd hg HO
  have HO := Lib.hid ho
  clear ho
  have r0 := HO.out.cell_ 0 (v := .int .i64 0) rfl
  have r1 := HO.out.cell_ 1 (v := .int .i64 0) rfl
  have r2 := HO.out.cell_ 2 (v := .int .i64 0) rfl
  have f0 := HO.out.free 0
  have f1 := HO.out.free 1
  have f2 := HO.out.free 2
  go_wp2
  have o3 := HO.out.set3 (x := .int .i64 z1) (y := .int .i64 z2) (z := .int .i64 z3)
  have t0 := o3.cell_ 0 (v := .int .i64 z1) rfl
  have t1 := o3.cell_ 1 (v := .int .i64 z2) rfl
  have t2 := o3.cell_ 2 (v := .int .i64 z3) rfl
  clear o3
  refine bodyPost_ret (v := .agg #[.int .i64 z1, .int .i64 z2, .int .i64 z3]) (by simp [results, Try.results61, go_sem, t0, t1, t2]) rfl ⟨z1, z2, z3, rfl, hz1, hz2, hz3, rdr_sets (by omega) HR3.out, g_sets (w0 := w) (by omega) HG3.out⟩
set_option maxRecDepth 100000 in
set_option maxHeartbeats 2000000 in
theorem l1Case_any (A : Option Addr) (n c : Nat) (w : World) (hb : Bytes w.heap.size w A n) (hc : n ≤ c) (hn : n ≤ 1048576) :
    Calls Try.prog 56 #[.slice A n c] w fun e w' => ∃ s q o : Int, e = .returned (.agg #[.int .i64 s, .int .i64 q, .int .i64 o]) ∧ small s ∧ small q ∧ small o ∧ Below w.heap.size w w' := by
  have hbz : Bytes (w.alloc (.cells #[.int .i64 0, .int .i64 0, .int .i64 0] 44)).heap.size (w.alloc (.cells #[.int .i64 0, .int .i64 0, .int .i64 0] 44)) A n :=
    ⟨fun j hj => let ⟨b, o, v, e, hb', hcc, h1⟩ := hb.at_ j hj; ⟨b, o, v, e, by simp; omega, ((bA bR).cell (p := ⟨b, o + j, none⟩) hb').trans hcc, h1⟩⟩
  have KO := l12Open_any A n c _ hbz hc hn
  rw [show (w.alloc (.cells #[.int .i64 0, .int .i64 0, .int .i64 0] 44)).heap.size = w.heap.size + 1 by simp] at KO
  have HO := Lib.hid KO
  clear KO hbz hb
  go_enter Try.func56, Try.ntmps56
  go_wp2_with fail
  refine HO.out.mono ?_
  rintro e w1 ⟨rfl, hrd, hb1'⟩
  have hbw := bT (bA bR) (hb1'.mono (B' := (w.alloc (.cells #[.int .i64 0, .int .i64 0, .int .i64 0] 44)).heap.size) (by simp))
  have ho := (Own.new_ w 44 #[.int .i64 0, .int .i64 0, .int .i64 0]).below (hb1'.mono (by simp))
  generalize hB : w.heap.size + 1 = g at hrd hb1'
  have hgl : w.heap.size < g := by omega
  have HR1 := Lib.hid hrd
  have HO1 := Lib.hid ho
  have HB1 := Lib.hid hbw
  clear hrd hb1' ho hbw
  go_wp2_with fail
  refine (l1Draw_any g g 0 w1 HR1.out (by omega)).mono ?_
  rintro e w2 ⟨s, q, o, rfl, hs, hq, ho, hrd2, hg2⟩
  have HB2 := Lib.hid (bG HB1.out hg2 (by intro k hk; injection hk with hk; omega))
  have HO2 := Lib.hid (own_gr HO1.out hg2 (by omega))
  have hgl2 := rdr_lt hrd2
  have HR2 := Lib.hid (rdr_alloc hrd2 (.cells #[.int .i64 s, .int .i64 q, .int .i64 o] 44))
  clear hrd2 hg2
  go_wp2_with fail
  refine (pick_any g g (0 + 3) 20 _ HR2.out (by omega) (by omega)).mono ?_
  rintro e w3 ⟨x, rfl, hx0, hx1, hrd3, hg3⟩
  have HB3 := Lib.hid (bG (bA HB2.out) hg3 (by intro k hk; injection hk with hk; omega))
  have HO3 := Lib.hid (own_gr HO2.out.alloc hg3 (by omega))
  have HA3 := Lib.hid (own_gr (Own.new_ w2 44 #[.int .i64 s, .int .i64 q, .int .i64 o]) hg3 (by omega))
  have HR3 := Lib.hid hrd3
  have hsz := HB2.out.size
  clear hrd3 hg3 hx1
  by_cases hx : x = 0
  · have e0 : (x == 0) = true := by rw [beq_iff_eq]; exact hx
    clear hx
    go_wp2_with fail
    refine (num_lit g g (0 + 3 + 1) [-1, 16] w3 _ _ rfl rfl HR3.out (by omega) (by simp) (by simp) (by simp [small])).mono ?_
    rintro e w4 ⟨z, rfl, hz, hrd4, hg4⟩
    have HB4 := Lib.hid (bG HB3.out hg4 (by intro k hk; injection hk with hk; omega))
    have oa := own_gr HA3.out hg4 (by omega)
    have ol := own_gr HO3.out hg4 (by omega)
    clear hrd4 hg4
    have a0 := oa.cell_ 0 (v := .int .i64 s) rfl
    have a1 := oa.cell_ 1 (v := .int .i64 q) rfl
    have a2 := oa.cell_ 2 (v := .int .i64 o) rfl
    have fa0 := oa.free 0
    have fa1 := oa.free 1
    have fa2 := oa.free 2
    have r0 := ol.cell_ 0 (v := .int .i64 0) rfl
    have r1 := ol.cell_ 1 (v := .int .i64 0) rfl
    have r2 := ol.cell_ 2 (v := .int .i64 0) rfl
    have f0 := ol.free 0
    have f1 := ol.free 1
    have f2 := ol.free 2
    have o3 := (ol.far (p := ⟨w2.heap.size, 0, none⟩) (by simp; omega) (u := .int .i64 z)).set3 (x := .int .i64 z) (y := .int .i64 q) (z := .int .i64 o)
    have t0 := o3.cell_ 0 (v := .int .i64 z) rfl
    have t1 := o3.cell_ 1 (v := .int .i64 q) rfl
    have t2 := o3.cell_ 2 (v := .int .i64 o) rfl
    clear o3 oa ol
    go_wp2
    refine bodyPost_ret (v := .agg #[.int .i64 z, .int .i64 q, .int .i64 o]) (by simp [results, Try.results56, go_sem, t0, t1, t2]) rfl ⟨z, q, o, rfl, by assumption, by assumption, by assumption, ?_⟩
    exact bS (bS (bS (bS HB4.out (by simp; omega)) (by simp)) (by simp)) (by simp)
  · have e0 : (x == 0) = false := by rw [beq_eq_false_iff_ne]; exact hx
    clear hx
    by_cases hx : x = 1
    · have e1 : (x == 1) = true := by rw [beq_iff_eq]; exact hx
      clear hx
      go_wp2_with fail
      refine (num_lit g g (0 + 3 + 1) [-1, 256] w3 _ _ rfl rfl HR3.out (by omega) (by simp) (by simp) (by simp [small])).mono ?_
      rintro e w4 ⟨z, rfl, hz, hrd4, hg4⟩
      have HB4 := Lib.hid (bG HB3.out hg4 (by intro k hk; injection hk with hk; omega))
      have oa := own_gr HA3.out hg4 (by omega)
      have ol := own_gr HO3.out hg4 (by omega)
      clear hrd4 hg4
      have a0 := oa.cell_ 0 (v := .int .i64 s) rfl
      have a1 := oa.cell_ 1 (v := .int .i64 q) rfl
      have a2 := oa.cell_ 2 (v := .int .i64 o) rfl
      have fa0 := oa.free 0
      have fa1 := oa.free 1
      have fa2 := oa.free 2
      have r0 := ol.cell_ 0 (v := .int .i64 0) rfl
      have r1 := ol.cell_ 1 (v := .int .i64 0) rfl
      have r2 := ol.cell_ 2 (v := .int .i64 0) rfl
      have f0 := ol.free 0
      have f1 := ol.free 1
      have f2 := ol.free 2
      have o3 := (ol.far (p := ⟨w2.heap.size, 1, none⟩) (by simp; omega) (u := .int .i64 z)).set3 (x := .int .i64 s) (y := .int .i64 z) (z := .int .i64 o)
      have t0 := o3.cell_ 0 (v := .int .i64 s) rfl
      have t1 := o3.cell_ 1 (v := .int .i64 z) rfl
      have t2 := o3.cell_ 2 (v := .int .i64 o) rfl
      clear o3 oa ol
      go_wp2
      refine bodyPost_ret (v := .agg #[.int .i64 s, .int .i64 z, .int .i64 o]) (by simp [results, Try.results56, go_sem, t0, t1, t2]) rfl ⟨s, z, o, rfl, by assumption, by assumption, by assumption, ?_⟩
      exact bS (bS (bS (bS HB4.out (by simp; omega)) (by simp)) (by simp)) (by simp)
    · have e1 : (x == 1) = false := by rw [beq_eq_false_iff_ne]; exact hx
      clear hx
      by_cases hx : x = 2
      · have e2 : (x == 2) = true := by rw [beq_iff_eq]; exact hx
        clear hx
        go_wp2_with fail
        refine (num_lit g g (0 + 3 + 1) [-1, 64] w3 _ _ rfl rfl HR3.out (by omega) (by simp) (by simp) (by simp [small])).mono ?_
        rintro e w4 ⟨z, rfl, hz, hrd4, hg4⟩
        have HB4 := Lib.hid (bG HB3.out hg4 (by intro k hk; injection hk with hk; omega))
        have oa := own_gr HA3.out hg4 (by omega)
        have ol := own_gr HO3.out hg4 (by omega)
        clear hrd4 hg4
        have a0 := oa.cell_ 0 (v := .int .i64 s) rfl
        have a1 := oa.cell_ 1 (v := .int .i64 q) rfl
        have a2 := oa.cell_ 2 (v := .int .i64 o) rfl
        have fa0 := oa.free 0
        have fa1 := oa.free 1
        have fa2 := oa.free 2
        have r0 := ol.cell_ 0 (v := .int .i64 0) rfl
        have r1 := ol.cell_ 1 (v := .int .i64 0) rfl
        have r2 := ol.cell_ 2 (v := .int .i64 0) rfl
        have f0 := ol.free 0
        have f1 := ol.free 1
        have f2 := ol.free 2
        have o3 := (ol.far (p := ⟨w2.heap.size, 2, none⟩) (by simp; omega) (u := .int .i64 z)).set3 (x := .int .i64 s) (y := .int .i64 q) (z := .int .i64 z)
        have t0 := o3.cell_ 0 (v := .int .i64 s) rfl
        have t1 := o3.cell_ 1 (v := .int .i64 q) rfl
        have t2 := o3.cell_ 2 (v := .int .i64 z) rfl
        clear o3 oa ol
        go_wp2
        refine bodyPost_ret (v := .agg #[.int .i64 s, .int .i64 q, .int .i64 z]) (by simp [results, Try.results56, go_sem, t0, t1, t2]) rfl ⟨s, q, z, rfl, by assumption, by assumption, by assumption, ?_⟩
        exact bS (bS (bS (bS HB4.out (by simp; omega)) (by simp)) (by simp)) (by simp)
      · have e2 : (x == 2) = false := by rw [beq_eq_false_iff_ne]; exact hx
        clear hx
        have oa := HA3.out
        have ol := HO3.out
        have a0 := oa.cell_ 0 (v := .int .i64 s) rfl
        have a1 := oa.cell_ 1 (v := .int .i64 q) rfl
        have a2 := oa.cell_ 2 (v := .int .i64 o) rfl
        have r0 := ol.cell_ 0 (v := .int .i64 0) rfl
        have r1 := ol.cell_ 1 (v := .int .i64 0) rfl
        have r2 := ol.cell_ 2 (v := .int .i64 0) rfl
        have f0 := ol.free 0
        have f1 := ol.free 1
        have f2 := ol.free 2
        have o3 := ol.set3 (x := .int .i64 s) (y := .int .i64 q) (z := .int .i64 o)
        have t0 := o3.cell_ 0 (v := .int .i64 s) rfl
        have t1 := o3.cell_ 1 (v := .int .i64 q) rfl
        have t2 := o3.cell_ 2 (v := .int .i64 o) rfl
        clear o3 oa ol
        go_wp2
        refine bodyPost_ret (v := .agg #[.int .i64 s, .int .i64 q, .int .i64 o]) (by simp [results, Try.results56, go_sem, t0, t1, t2]) rfl ⟨s, q, o, rfl, hs, hq, ho, ?_⟩
        exact bS (bS (bS HB3.out (by simp)) (by simp)) (by simp)
/-- an address and a number that were drawn -/
def DrewA (w : World) (e : Ending) (w' : World) : Prop :=
  ∃ s q o b : Int, e = .returned (.tuple #[.agg #[.int .i64 s, .int .i64 q, .int .i64 o], .int .i64 b]) ∧ small s ∧ small q ∧ small o ∧ small b ∧ Below w.heap.size w w'
theorem bytes_alloc {A : Option Addr} {n : Nat} {w w' : World} (hb : Bytes w.heap.size w A n) (h : Below w.heap.size w w') : Bytes w'.heap.size w' A n :=
  ⟨fun j hj => let ⟨b, o, v, e, hb', hcc, h1⟩ := hb.at_ j hj; ⟨b, o, v, e, Nat.lt_of_lt_of_le hb' h.size, (h.cell (p := ⟨b, o + j, none⟩) hb').trans hcc, h1⟩⟩
set_option maxRecDepth 100000 in
set_option maxHeartbeats 1000000 in
theorem DrawPagesOf_any (A : Option Addr) (n c : Nat) (w : World) (hb : Bytes w.heap.size w A n) (hc : n ≤ c) (hn : n ≤ 1048576) : Calls Try.prog 45 #[.slice A n c] w (DrewA w) := by
  have hb0 : Below w.heap.size w (w.alloc (.cells #[.int .i64 0, .int .i64 0, .int .i64 0] 44)) := bA bR
  have K1 := l1Case_any A n c _ (bytes_alloc hb hb0) hc hn
  have HBY := Lib.hid hb
  have H1 := Lib.hid K1
  clear K1 hb hb0
  go_enter Try.func45, Try.ntmps45
  go_wp2_with fail
  refine H1.out.mono ?_
  rintro e w1 ⟨s, q, o, rfl, hs, hq, ho, hb1'⟩
  obtain ⟨oa1, hb1⟩ := one_box hb1'
  have HO1 := Lib.hid oa1
  have HS := Lib.hid (And.intro hs (And.intro hq ho))
  clear oa1 hb1' hs hq ho
  go_wp2_with fail
  refine (l12Open_any A n c w1 (bytes_alloc HBY.out hb1) hc hn).mono ?_
  rintro e w2 ⟨rfl, hrd2, hb2'⟩
  have HO2 := Lib.hid (HO1.out.below hb2')
  have HR2 := Lib.hid hrd2
  have hgl := HO1.out.lt
  have hb2 := bT hb1 hb2'
  have hsz := hb1.size
  clear hrd2 hb2'
  generalize hg : w1.heap.size = g at *
  go_wp2_with fail
  refine (num_lit g g 0 [1, 64, 65, 100, 0, 1000, 16384, -1, 2] w2 _ _ rfl rfl HR2.out (by omega) (by simp) (by simp) (by simp [small])).mono ?_
  rintro e w3 ⟨z, rfl, hz, hrd3, hg3⟩
  have hb3 := bG hb2 hg3 (by intro k hk; injection hk with hk; omega)
  have ol := own_gr HO2.out hg3 (by omega)
  clear hrd3 hg3
  have o3 := ol.set3 (x := .int .i64 s) (y := .int .i64 q) (z := .int .i64 o)
  have r0 := ol.cell_ 0 (v := .int .i64 0) rfl
  have r1 := ol.cell_ 1 (v := .int .i64 0) rfl
  have r2 := ol.cell_ 2 (v := .int .i64 0) rfl
  have f0 := ol.free 0
  have f1 := ol.free 1
  have f2 := ol.free 2
  have t0 := o3.cell_ 0 (v := .int .i64 s) rfl
  have t1 := o3.cell_ 1 (v := .int .i64 q) rfl
  have t2 := o3.cell_ 2 (v := .int .i64 o) rfl
  clear o3 ol
  go_wp2
  refine bodyPost_ret (v := .tuple #[.agg #[.int .i64 s, .int .i64 q, .int .i64 o], .int .i64 z]) (by simp [results, Try.results45, go_sem, t0, t1, t2]) rfl ⟨s, q, o, z, rfl, HS.out.1, HS.out.2.1, HS.out.2.2, hz, ?_⟩
  exact bS (bS (bS hb3 (by simp)) (by simp)) (by simp)
set_option maxRecDepth 100000 in
theorem DrawSplitBytes_any (A : Option Addr) (n c : Nat) (w : World) (hb : Bytes w.heap.size w A n) (hc : n ≤ c) (hn : n ≤ 1048576) : Calls Try.prog 26 #[.slice A n c] w (DrewA w) := by
  have hb0 : Below w.heap.size w (w.alloc (.cells #[.int .i64 0, .int .i64 0, .int .i64 0] 44)) := bA bR
  have K1 := DrawPagesOf_any A n c _ (bytes_alloc hb hb0) hc hn
  have H1 := Lib.hid K1
  clear K1 hb hb0
  go_enter Try.func26, Try.ntmps26
  go_wp2_with fail
  refine H1.out.mono ?_
  rintro e w1 ⟨s, q, o, b, rfl, hs, hq, ho, hbb, hb1'⟩
  obtain ⟨ol, hb1⟩ := one_box hb1'
  clear hb1'
  have o3 := ol.set3 (x := .int .i64 s) (y := .int .i64 q) (z := .int .i64 o)
  have r0 := ol.cell_ 0 (v := .int .i64 0) rfl
  have r1 := ol.cell_ 1 (v := .int .i64 0) rfl
  have r2 := ol.cell_ 2 (v := .int .i64 0) rfl
  have f0 := ol.free 0
  have f1 := ol.free 1
  have f2 := ol.free 2
  have t0 := o3.cell_ 0 (v := .int .i64 s) rfl
  have t1 := o3.cell_ 1 (v := .int .i64 q) rfl
  have t2 := o3.cell_ 2 (v := .int .i64 o) rfl
  clear o3 ol
  go_wp2
  refine bodyPost_ret (v := .tuple #[.agg #[.int .i64 s, .int .i64 q, .int .i64 o], .int .i64 b]) (by simp [results, Try.results26, go_sem, t0, t1, t2]) rfl ⟨s, q, o, b, rfl, hs, hq, ho, hbb, ?_⟩
  exact bS (bS (bS hb1 (by simp)) (by simp)) (by simp)
end Go.Proofs.Ytbegdjemnclfaaa
