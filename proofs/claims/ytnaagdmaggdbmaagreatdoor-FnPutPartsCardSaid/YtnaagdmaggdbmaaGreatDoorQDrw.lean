/- A part of the proofs of this seat: Drw. -/
import Derived.Test.YtnaagdmaggdbmaaGreatDoorQW4
import Derived.Test.YtnaagdmaggdbmaaGreatDoorQStep
set_option linter.unusedVariables false
set_option linter.unusedSimpArgs false
namespace Go.Proofs.YtnaagdmaggdbmaaGreatDoor
open Go.RowKit
set_option maxRecDepth 1000000
set_option linter.unusedVariables false
theorem nat_of {zs : List Int} {a b : Nat} (h : ∀ z ∈ zs, (a : Int) ≤ z ∧ z ≤ (b : Int)) {z : Int} (hz : z ∈ zs) : ∃ n : Nat, z = (n : Int) ∧ a ≤ n ∧ n ≤ b := by
 obtain ⟨h1, h2⟩ := h z hz
 obtain ⟨n, rfl⟩ := Int.eq_ofNat_of_zero_le (show 0 ≤ z by omega)
 exact ⟨n, rfl, by omega, by omega⟩
set_option maxHeartbeats 4000000 in
theorem l6Draw_any (B g q : Nat) (w : World) (hrd : Rdr B w g q) (hq : q ≤ 800000) (hBw : B ≤ w.heap.size) :
  Calls Tryz.prog 46 #[.pointer (some ⟨g, 0, none⟩)] w (Post2 fun v w' => Drawn B 17 w g q 110 v w') := by
 have hgw := rdr_lt hrd
 have hr0 := Own.new_ w 34 #[.slice none 0 0, .slice none 0 0, .slice none 0 0, .int .i64 0, .int .i64 0, .int .i64 0, .int .i64 0, .slice none 0 0, .int .i64 0]
 have hb0 : Below w.heap.size w (w.alloc (.cells #[.slice none 0 0, .slice none 0 0, .slice none 0 0, .int .i64 0, .int .i64 0, .int .i64 0, .int .i64 0, .slice none 0 0, .int .i64 0] 34)) := bA bR
 generalize hW : w.alloc (.cells #[.slice none 0 0, .slice none 0 0, .slice none 0 0, .int .i64 0, .int .i64 0, .int .i64 0, .int .i64 0, .slice none 0 0, .int .i64 0] 34) = W0 at hr0 hb0
 have HRR := Lib.hid hr0
 have HRD := Lib.hid (rdr_below hrd hb0)
 have HGR := Lib.hid (gr_below hb0 (g := g))
 clear hr0 hb0 hrd
 go_enter Tryz.func46, Tryz.ntmps46
 go_wp2_with fail
 refine (num_lit B g (q) [6, 4, 8] W0 _ _ rfl rfl HRD.out (by omega) (by simp) (by simp)).mono ?_
 rintro e w1 ⟨z1, rfl, hz1, hrd, hg⟩
 have hgr := gT HGR.out hg
 have hrr := own_gr HRR.out hg (by omega)
 clear HRD HGR HRR
 have HRD := Lib.hid hrd
 have HGR := Lib.hid hgr
 have HRR := Lib.hid hrr
 clear hrd hg hgr hrr
 go_wp2_with fail
 refine (num_lit B g (q + 1) [4, 2, 1] w1 _ _ rfl rfl HRD.out (by omega) (by simp) (by simp)).mono ?_
 rintro e w2 ⟨z2, rfl, hz2, hrd, hg⟩
 have hgr := gT HGR.out hg
 have hrr := own_gr HRR.out hg (by omega)
 clear HRD HGR HRR
 have HRD := Lib.hid hrd
 have HGR := Lib.hid hgr
 have HRR := Lib.hid hrr
 clear hrd hg hgr hrr
 go_wp2_with fail
 refine (num_lit B g (q + 1 + 1) [3, 2, 4, 1] w2 _ _ rfl rfl HRD.out (by omega) (by simp) (by simp)).mono ?_
 rintro e w3 ⟨z3, rfl, hz3, hrd, hg⟩
 have hgr := gT HGR.out hg
 have hrr := own_gr HRR.out hg (by omega)
 clear HRD HGR HRR
 have HRD := Lib.hid hrd
 have HGR := Lib.hid hgr
 have HRR := Lib.hid hrr
 clear hrd hg hgr hrr
 go_wp2_with fail
 refine (num_lit B g (q + 1 + 1 + 1) [2, 3, 1] w3 _ _ rfl rfl HRD.out (by omega) (by simp) (by simp)).mono ?_
 rintro e w4 ⟨z4, rfl, hz4, hrd, hg⟩
 have hgr := gT HGR.out hg
 have hrr := own_gr HRR.out hg (by omega)
 clear HRD HGR HRR
 have HRD := Lib.hid hrd
 have HGR := Lib.hid hgr
 have HRR := Lib.hid hrr
 clear hrd hg hgr hrr
 obtain ⟨nf, rfl, hf1, hf2⟩ := nat_of (a := 1) (b := 16) (by decide) hz1
 obtain ⟨nb, rfl, hb1, hb2⟩ := nat_of (a := 1) (b := 16) (by decide) hz2
 obtain ⟨nl, rfl, hl1, hl2⟩ := nat_of (a := 1) (b := 8) (by decide) hz3
 obtain ⟨nt, rfl, ht1, ht2⟩ := nat_of (a := 1) (b := 8) (by decide) hz4
 clear hz1 hz2 hz3 hz4 hW
 go_wp2_with fail
 refine (sNewMachine_any nf nb nl nt w4 ⟨hf1, hf2⟩ ⟨hb1, hb2⟩ ⟨hl1, hl2⟩ ⟨ht1, ht2⟩).mono ?_
 rintro e w5 ⟨_, rfl, m, v1, v2, v3, v4, rfl, hM, hz, hb5⟩
 obtain ⟨A1, c1, rfl, _⟩ := hM.t.b
 obtain ⟨A2, c2, rfl, _⟩ := hM.t.f
 obtain ⟨A3, c3, rfl, _⟩ := hM.l
 obtain ⟨A4, c4, rfl, _⟩ := hM.o
 have hw4 : w.heap.size ≤ w4.heap.size := HGR.out.size
 have ho6 := Own.new_ w5 34 #[.slice A1 m.t.bs.length c1, .slice A2 m.t.fs.length c2, .slice A3 m.c.ls.length c3, .int .i64 m.c.hand, .int .i64 m.g.count, .int .i64 m.g.next, .int .i64 m.g.round, .slice A4 m.g.os.length c4, .int .i64 m.sp]
 have hb6 : Below w5.heap.size w5 (w5.alloc (.cells #[.slice A1 m.t.bs.length c1, .slice A2 m.t.fs.length c2, .slice A3 m.c.ls.length c3, .int .i64 m.c.hand, .int .i64 m.g.count, .int .i64 m.g.next, .int .i64 m.g.round, .slice A4 m.g.os.length c4, .int .i64 m.sp] 34)) := bA bR
 generalize hW6 : w5.alloc (.cells #[.slice A1 m.t.bs.length c1, .slice A2 m.t.fs.length c2, .slice A3 m.c.ls.length c3, .int .i64 m.c.hand, .int .i64 m.g.count, .int .i64 m.g.next, .int .i64 m.g.round, .slice A4 m.g.os.length c4, .int .i64 m.sp] 34) = w6 at ho6 hb6
 have HO6 := Lib.hid ho6
 have HM6 := Lib.hid ((hM.mono (show B ≤ w4.heap.size by omega)).now hb6)
 have HRD6 := Lib.hid (rdr_below (rdr_below HRD.out hb5) hb6)
 have HGR6 := Lib.hid (gT (gT HGR.out (gr_below hb5)) (gr_below hb6))
 have HRR6 := Lib.hid ((HRR.out.below hb5).below hb6)
 have HZ := Lib.hid (hz.up (show 16 ≤ 17 by omega))
 have hw5 : w.heap.size < w5.heap.size := by have := (HRR.out.below hb5).lt; omega
 clear hM hb5 ho6 hb6 HRD HGR HRR hz
 go_wp2_with fail
 refine (pick_any B g (q + 1 + 1 + 1 + 1) 10 w6 HRD6.out (by omega) (by omega)).mono ?_
 rintro e w7 ⟨x, rfl, hx0, hx1, hrd7, hg7⟩
 have hx2 := hx1 (by omega)
 obtain ⟨x, rfl⟩ := Int.eq_ofNat_of_zero_le hx0
 have HO7 := Lib.hid (own_gr HO6.out hg7 (by have := HRD6.out; have := rdr_lt this; omega))
 have HM7 := Lib.hid (HM6.out.gr HRD6.out hg7)
 have HGR7 := Lib.hid (gT HGR6.out hg7)
 have HRR7 := Lib.hid (own_gr HRR6.out hg7 (by omega))
 have HRD7 := Lib.hid hrd7
 have hx3 : x ≤ 9 := by omega
 generalize hgb : w5.heap.size = gb at *
 clear hrd7 hg7 hx0 hx1 hx2 HO6 HM6 HRD6 HGR6 HRR6 hW6
 go_wp2
 go_loopw [5] (fun u wr => ∃ (k : Nat) (m : Ma) (v1 v2 v3 v4 : Value) (p : Nat), k ≤ 15 ∧ u = .int .i64 k ∧ p ≤ q + 5 + 6 * (15 - k) ∧ Own wr gb 34 #[v1, v2, v3, .int .i64 m.c.hand, .int .i64 m.g.count, .int .i64 m.g.next, .int .i64 m.g.round, v4, .int .i64 m.sp] ∧ Own wr w.heap.size 34 #[.slice none 0 0, .slice none 0 0, .slice none 0 0, .int .i64 0, .int .i64 0, .int .i64 0, .int .i64 0, .slice none 0 0, .int .i64 0] ∧ MaM B wr v1 v2 v3 v4 m ∧ Sz 17 m ∧ Rdr B wr g p ∧ w.grownBy wr (some g)) (fun u _ => (intOf u).toNat)
 case atStart => exact ⟨6 + x, m, _, _, _, _, q + 1 + 1 + 1 + 1 + 1, by omega, by simp, by omega, HO7.out, HRR7.out, HM7.out, HZ.out, HRD7.out, HGR7.out⟩
 case round =>
  obtain ⟨k, m, v1, v2, v3, v4, p, hk, rfl, hp, ho, hr, hm, hz, hrd, hgr⟩ := hrel
  have HO := Lib.hid ho
  have HR := Lib.hid hr
  have HM := Lib.hid hm
  have HRD := Lib.hid hrd
  have HGR := Lib.hid hgr
  obtain ⟨A1, c1, rfl, _⟩ := hm.t.b
  obtain ⟨A2, c2, rfl, _⟩ := hm.t.f
  obtain ⟨A3, c3, rfl, _⟩ := hm.l
  obtain ⟨A4, c4, rfl, _⟩ := hm.o
  have hwr : w.heap.size ≤ wr.heap.size := hgr.size
  have p0o := ho.cell_ 0 (v := .slice A1 m.t.bs.length c1) rfl
  have p1o := ho.cell_ 1 (v := .slice A2 m.t.fs.length c2) rfl
  have p2o := ho.cell_ 2 (v := .slice A3 m.c.ls.length c3) rfl
  have p3o := ho.cell_ 3 (v := .int .i64 m.c.hand) rfl
  have p4o := ho.cell_ 4 (v := .int .i64 m.g.count) rfl
  have p5o := ho.cell_ 5 (v := .int .i64 m.g.next) rfl
  have p6o := ho.cell_ 6 (v := .int .i64 m.g.round) rfl
  have p7o := ho.cell_ 7 (v := .slice A4 m.g.os.length c4) rfl
  have p8o := ho.cell_ 8 (v := .int .i64 m.sp) rfl
  have hlo := ho.lt
  clear ho hr hm hrd hgr
  by_cases hlt : 0 < k
  ·have hki : (0 : Int) < (k : Int) := by omega
   go_wp2_with fail
   refine (l6Step_any B g p _ _ _ _ m wr HRD.out (by omega) HM.out hz (by omega)).mono ?_
   rintro e w8 ⟨_, rfl, m', e1, e2, e3, e4, p', rfl, hM8, hz8, hrd8, hp8, hg8⟩
   clear p0o p1o p2o p3o p4o p5o p6o p7o p8o
   have ho8 := own_gr HO.out hg8 (by omega)
   have HR8 := Lib.hid (own_gr HR.out hg8 (by omega))
   obtain ⟨E1, n1, rfl, _⟩ := hM8.t.b
   obtain ⟨E2, n2, rfl, _⟩ := hM8.t.f
   obtain ⟨E3, n3, rfl, _⟩ := hM8.l
   obtain ⟨E4, n4, rfl, _⟩ := hM8.o
   have p0o := ho8.cell_ 0 (v := .slice A1 m.t.bs.length c1) rfl
   have p1o := ho8.cell_ 1 (v := .slice A2 m.t.fs.length c2) rfl
   have p2o := ho8.cell_ 2 (v := .slice A3 m.c.ls.length c3) rfl
   have p3o := ho8.cell_ 3 (v := .int .i64 m.c.hand) rfl
   have p4o := ho8.cell_ 4 (v := .int .i64 m.g.count) rfl
   have p5o := ho8.cell_ 5 (v := .int .i64 m.g.next) rfl
   have p6o := ho8.cell_ 6 (v := .int .i64 m.g.round) rfl
   have p7o := ho8.cell_ 7 (v := .slice A4 m.g.os.length c4) rfl
   have p8o := ho8.cell_ 8 (v := .int .i64 m.sp) rfl
   have w0o := ho8.free 0
   have w1o := ho8.free 1
   have w2o := ho8.free 2
   have w3o := ho8.free 3
   have w4o := ho8.free 4
   have w5o := ho8.free 5
   have w6o := ho8.free 6
   have w7o := ho8.free 7
   have w8o := ho8.free 8
   have hlo8 := ho8.lt
   have HO9 := Lib.hid (ho8.set9 (.slice E1 m'.t.bs.length n1) (.slice E2 m'.t.fs.length n2) (.slice E3 m'.c.ls.length n3) (.int .i64 m'.c.hand) (.int .i64 m'.g.count) (.int .i64 m'.g.next) (.int .i64 m'.g.round) (.slice E4 m'.g.os.length n4) (.int .i64 m'.sp))
   have HM9 := Lib.hid (hM8.far9 ho8 (.slice E1 m'.t.bs.length n1) (.slice E2 m'.t.fs.length n2) (.slice E3 m'.c.ls.length n3) (.int .i64 m'.c.hand) (.int .i64 m'.g.count) (.int .i64 m'.g.next) (.int .i64 m'.g.round) (.slice E4 m'.g.os.length n4) (.int .i64 m'.sp))
   have HG8 := Lib.hid (gT HGR.out hg8)
   have HRD8 := Lib.hid hrd8
   have HZ8 := Lib.hid hz8
   clear ho8 hM8 hrd8 hg8 hz8 hz
   go_wp2
   go_roundw
   case rel =>
    refine ⟨k - 1, m', _, _, _, _, p', by omega, by rw [show ((k - 1 : Nat) : Int) = (k : Int) - 1 by omega], by omega, HO9.out, ?_, HM9.out, HZ8.out, ?_, ?_⟩
    ·repeat (refine Own.far ?_ (by show w.heap.size ≠ gb; omega))
     exact HR8.out
    ·repeat (refine rdr_set1 (by omega) ?_)
     exact HRD8.out
    ·repeat (refine g_set (by omega) ?_)
     exact HG8.out
   case measure => simp [intOf]; omega
  ·obtain rfl : k = 0 := by omega
   have HZ9 := Lib.hid hz
   have r0x := HR.out.cell_ 0 (v := .slice none 0 0) rfl
   have r1x := HR.out.cell_ 1 (v := .slice none 0 0) rfl
   have r2x := HR.out.cell_ 2 (v := .slice none 0 0) rfl
   have r3x := HR.out.cell_ 3 (v := .int .i64 0) rfl
   have r4x := HR.out.cell_ 4 (v := .int .i64 0) rfl
   have r5x := HR.out.cell_ 5 (v := .int .i64 0) rfl
   have r6x := HR.out.cell_ 6 (v := .int .i64 0) rfl
   have r7x := HR.out.cell_ 7 (v := .slice none 0 0) rfl
   have r8x := HR.out.cell_ 8 (v := .int .i64 0) rfl
   have z0x := HR.out.free 0
   have z1x := HR.out.free 1
   have z2x := HR.out.free 2
   have z3x := HR.out.free 3
   have z4x := HR.out.free 4
   have z5x := HR.out.free 5
   have z6x := HR.out.free 6
   have z7x := HR.out.free 7
   have z8x := HR.out.free 8
   have hlr := HR.out.lt
   clear hz
   go_wp2
   have o3 := HR.out.set9 (.slice A1 m.t.bs.length c1) (.slice A2 m.t.fs.length c2) (.slice A3 m.c.ls.length c3) (.int .i64 m.c.hand) (.int .i64 m.g.count) (.int .i64 m.g.next) (.int .i64 m.g.round) (.slice A4 m.g.os.length c4) (.int .i64 m.sp)
   have p0t := o3.cell_ 0 (v := .slice A1 m.t.bs.length c1) rfl
   have p1t := o3.cell_ 1 (v := .slice A2 m.t.fs.length c2) rfl
   have p2t := o3.cell_ 2 (v := .slice A3 m.c.ls.length c3) rfl
   have p3t := o3.cell_ 3 (v := .int .i64 m.c.hand) rfl
   have p4t := o3.cell_ 4 (v := .int .i64 m.g.count) rfl
   have p5t := o3.cell_ 5 (v := .int .i64 m.g.next) rfl
   have p6t := o3.cell_ 6 (v := .int .i64 m.g.round) rfl
   have p7t := o3.cell_ 7 (v := .slice A4 m.g.os.length c4) rfl
   have p8t := o3.cell_ 8 (v := .int .i64 m.sp) rfl
   refine bodyPost_ret (v := .agg #[.slice A1 m.t.bs.length c1, .slice A2 m.t.fs.length c2, .slice A3 m.c.ls.length c3, .int .i64 m.c.hand, .int .i64 m.g.count, .int .i64 m.g.next, .int .i64 m.g.round, .slice A4 m.g.os.length c4, .int .i64 m.sp]) (by simp [results, Tryz.results46, go_sem, p0t, p1t, p2t, p3t, p4t, p5t, p6t, p7t, p8t]) rfl ⟨_, rfl, m, _, _, _, _, p, rfl, HM.out.far9 HR.out _ _ _ _ _ _ _ _ _, HZ9.out, ?_, by omega, ?_⟩
   ·repeat (refine rdr_set1 (by omega) ?_)
    exact HRD.out
   ·repeat (refine g_set (by omega) ?_)
    exact HGR.out
end Go.Proofs.YtnaagdmaggdbmaaGreatDoor
