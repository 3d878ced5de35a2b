/- A part of the proofs of this seat: MeL. -/
import Derived.Test.YtfbnokjdkhcgoaaGreatDoorVMbS
set_option linter.unusedVariables false
set_option linter.unusedSimpArgs false
set_option maxRecDepth 1000000
namespace Go.Proofs.YtfbnokjdkhcgoaaGreatDoor
open Go.RowKit
set_option maxHeartbeats 2000000 in
theorem toMemory_any (vb vf vl vo vk : Value) (M : Me) (w : World) (hM : MeR w vb vf vl vo vk M) (h1 : M.m.t.bs.length ≤ 1048576) (h2 : M.m.t.fs.length ≤ 1048576) (h3 : M.m.c.ls.length ≤ 1048576) (h4 : M.m.g.os.length ≤ 1048576) (h5 : M.mk.length ≤ 1048576) :
  Calls Tryz.prog 18 #[.agg #[vb, vf, vl, .int .i64 M.m.c.hand, .int .i64 M.m.g.count, .int .i64 M.m.g.next, .int .i64 M.m.g.round, vo, .int .i64 M.m.sp, vk, .int .i64 M.h]] w (Post2 fun v w' => ∃ v1 v2 v3 v4 v5, v = .agg #[v1, v2, v3, .int .i64 M.m.c.hand, .int .i64 M.m.g.count, .int .i64 M.m.g.next, .int .i64 M.m.g.round, v4, .int .i64 M.m.sp, v5, .int .i64 M.h] ∧ MeM w.heap.size w' v1 v2 v3 v4 v5 M ∧ Below w.heap.size w w') := by
 obtain ⟨A0, c0, rfl, ha0, ha0', hR0⟩ := hM.m.t.b
 obtain ⟨A1, c1, rfl, ha1, ha1', hR1⟩ := hM.m.t.f
 obtain ⟨A2, c2, rfl, ha2, ha2', hR2⟩ := hM.m.l
 obtain ⟨A3, c3, rfl, ha3, ha3', hR3⟩ := hM.m.o
 obtain ⟨A4, c4, rfl, ha4, ha4', hR4⟩ := hM.k
 have hMm : MaR w (.slice A0 M.m.t.bs.length c0) (.slice A1 M.m.t.fs.length c1) (.slice A2 M.m.c.ls.length c2) (.slice A3 M.m.g.os.length c3) M.m := hM.m
 clear ha0 ha0' ha1 ha1' ha2 ha2' ha3 ha3' ha4 ha4' hR0 hR1 hR2 hR3 hM
 have hp0 := ((Own.new_ w 67 #[.slice A0 M.m.t.bs.length c0, .slice A1 M.m.t.fs.length c1, .slice A2 M.m.c.ls.length c2, .int .i64 M.m.c.hand, .int .i64 M.m.g.count, .int .i64 M.m.g.next, .int .i64 M.m.g.round, .slice A3 M.m.g.os.length c3, .int .i64 M.m.sp, .slice A4 M.mk.length c4, .int .i64 M.h]).alloc (o := .cells #[.slice none 0 0, .slice none 0 0, .slice none 0 0, .int .i64 0, .int .i64 0, .int .i64 0, .int .i64 0, .slice none 0 0, .int .i64 0, .slice none 0 0, .int .i64 0] 37)).alloc (o := .cells #[.slice none 0 0, .slice none 0 0, .slice none 0 0, .int .i64 0, .int .i64 0, .int .i64 0, .int .i64 0, .slice none 0 0, .int .i64 0, .slice none 0 0, .int .i64 0] 37)
 have hr0 := (ownAt (W := (w.alloc (.cells #[.slice A0 M.m.t.bs.length c0, .slice A1 M.m.t.fs.length c1, .slice A2 M.m.c.ls.length c2, .int .i64 M.m.c.hand, .int .i64 M.m.g.count, .int .i64 M.m.g.next, .int .i64 M.m.g.round, .slice A3 M.m.g.os.length c3, .int .i64 M.m.sp, .slice A4 M.mk.length c4, .int .i64 M.h] 67))) (g := w.heap.size + 1) (t := 37) (cs := #[.slice none 0 0, .slice none 0 0, .slice none 0 0, .int .i64 0, .int .i64 0, .int .i64 0, .int .i64 0, .slice none 0 0, .int .i64 0, .slice none 0 0, .int .i64 0]) (by simp)).alloc (o := .cells #[.slice none 0 0, .slice none 0 0, .slice none 0 0, .int .i64 0, .int .i64 0, .int .i64 0, .int .i64 0, .slice none 0 0, .int .i64 0, .slice none 0 0, .int .i64 0] 37)
 have ho0 := ownAt (W := ((w.alloc (.cells #[.slice A0 M.m.t.bs.length c0, .slice A1 M.m.t.fs.length c1, .slice A2 M.m.c.ls.length c2, .int .i64 M.m.c.hand, .int .i64 M.m.g.count, .int .i64 M.m.g.next, .int .i64 M.m.g.round, .slice A3 M.m.g.os.length c3, .int .i64 M.m.sp, .slice A4 M.mk.length c4, .int .i64 M.h] 67)).alloc (.cells #[.slice none 0 0, .slice none 0 0, .slice none 0 0, .int .i64 0, .int .i64 0, .int .i64 0, .int .i64 0, .slice none 0 0, .int .i64 0, .slice none 0 0, .int .i64 0] 37))) (g := w.heap.size + 1 + 1) (t := 37) (cs := #[.slice none 0 0, .slice none 0 0, .slice none 0 0, .int .i64 0, .int .i64 0, .int .i64 0, .int .i64 0, .slice none 0 0, .int .i64 0, .slice none 0 0, .int .i64 0]) (by simp)
 have hb0 : Below w.heap.size w (((w.alloc (.cells #[.slice A0 M.m.t.bs.length c0, .slice A1 M.m.t.fs.length c1, .slice A2 M.m.c.ls.length c2, .int .i64 M.m.c.hand, .int .i64 M.m.g.count, .int .i64 M.m.g.next, .int .i64 M.m.g.round, .slice A3 M.m.g.os.length c3, .int .i64 M.m.sp, .slice A4 M.mk.length c4, .int .i64 M.h] 67)).alloc (.cells #[.slice none 0 0, .slice none 0 0, .slice none 0 0, .int .i64 0, .int .i64 0, .int .i64 0, .int .i64 0, .slice none 0 0, .int .i64 0, .slice none 0 0, .int .i64 0] 37)).alloc (.cells #[.slice none 0 0, .slice none 0 0, .slice none 0 0, .int .i64 0, .int .i64 0, .int .i64 0, .int .i64 0, .slice none 0 0, .int .i64 0, .slice none 0 0, .int .i64 0] 37)) := bA (bA (bA bR))
 have hs0 : w.heap.size + 3 ≤ (((w.alloc (.cells #[.slice A0 M.m.t.bs.length c0, .slice A1 M.m.t.fs.length c1, .slice A2 M.m.c.ls.length c2, .int .i64 M.m.c.hand, .int .i64 M.m.g.count, .int .i64 M.m.g.next, .int .i64 M.m.g.round, .slice A3 M.m.g.os.length c3, .int .i64 M.m.sp, .slice A4 M.mk.length c4, .int .i64 M.h] 67)).alloc (.cells #[.slice none 0 0, .slice none 0 0, .slice none 0 0, .int .i64 0, .int .i64 0, .int .i64 0, .int .i64 0, .slice none 0 0, .int .i64 0, .slice none 0 0, .int .i64 0] 37)).alloc (.cells #[.slice none 0 0, .slice none 0 0, .slice none 0 0, .int .i64 0, .int .i64 0, .int .i64 0, .int .i64 0, .slice none 0 0, .int .i64 0, .slice none 0 0, .int .i64 0] 37)).heap.size := by simp
 generalize hW0 : (((w.alloc (.cells #[.slice A0 M.m.t.bs.length c0, .slice A1 M.m.t.fs.length c1, .slice A2 M.m.c.ls.length c2, .int .i64 M.m.c.hand, .int .i64 M.m.g.count, .int .i64 M.m.g.next, .int .i64 M.m.g.round, .slice A3 M.m.g.os.length c3, .int .i64 M.m.sp, .slice A4 M.mk.length c4, .int .i64 M.h] 67)).alloc (.cells #[.slice none 0 0, .slice none 0 0, .slice none 0 0, .int .i64 0, .int .i64 0, .int .i64 0, .int .i64 0, .slice none 0 0, .int .i64 0, .slice none 0 0, .int .i64 0] 37)).alloc (.cells #[.slice none 0 0, .slice none 0 0, .slice none 0 0, .int .i64 0, .int .i64 0, .int .i64 0, .int .i64 0, .slice none 0 0, .int .i64 0, .slice none 0 0, .int .i64 0] 37)) = W0 at hp0 hr0 ho0 hb0 hs0
 have HP0 := Hd hp0
 have HR0 := Hd hr0
 have HO0 := Hd ho0
 have HB0 := Hd hb0
 clear hp0 hr0 ho0 hb0
 obtain ⟨p0_0, p1_0, p2_0, p3_0, p4_0, p5_0, p6_0, p7_0, p8_0, p9_0, p10_0⟩ := c11 HP0.out
 go_enter Tryz.func18, Tryz.ntmps18
 go_wp2_with fail
 refine (toMachine_any _ _ _ _ M.m _ (hMm.now HB0.out) h1 h2 h3 h4).mono ?_
 rintro e W1 ⟨_, rfl, v1, v2, v3, v4, rfl, he_, hb_⟩
 obtain ⟨B0, d0, rfl, _⟩ := he_.t.b
 obtain ⟨B1, d1, rfl, _⟩ := he_.t.f
 obtain ⟨B2, d2, rfl, _⟩ := he_.l
 obtain ⟨B3, d3, rfl, _⟩ := he_.o
 have hp1 := HP0.out.below hb_
 have hr1 := HR0.out.below hb_
 have ho1 := HO0.out.below hb_
 have hb1 := bT HB0.out hb_
 have hs1 := Nat.le_trans hs0 hb_.size
 have HM0_1 : Hid (MaM (w.heap.size + 3) W1 (.slice B0 M.m.t.bs.length d0) (.slice B1 M.m.t.fs.length d1) (.slice B2 M.m.c.ls.length d2) (.slice B3 M.m.g.os.length d3) M.m) := he_.mono hs0
 clear hb_ he_ p0_0 p1_0 p2_0 p3_0 p4_0 p5_0 p6_0 p7_0 p8_0 p9_0 p10_0
 have HP1 := Hd hp1
 have HR1 := Hd hr1
 have HO1 := Hd ho1
 have HB1 := Hd hb1
 clear hp1 hr1 ho1 hb1
 obtain ⟨p0_1, p1_1, p2_1, p3_1, p4_1, p5_1, p6_1, p7_1, p8_1, p9_1, p10_1⟩ := c11 HP1.out
 have o0_1 := HO1.out.cell_ 0 (v := .slice none 0 0) rfl
 have f0_1 := HO1.out.free 0
 have o1_1 := HO1.out.cell_ 1 (v := .slice none 0 0) rfl
 have f1_1 := HO1.out.free 1
 have o2_1 := HO1.out.cell_ 2 (v := .slice none 0 0) rfl
 have f2_1 := HO1.out.free 2
 have o3_1 := HO1.out.cell_ 3 (v := .int .i64 0) rfl
 have f3_1 := HO1.out.free 3
 have o4_1 := HO1.out.cell_ 4 (v := .int .i64 0) rfl
 have f4_1 := HO1.out.free 4
 have o5_1 := HO1.out.cell_ 5 (v := .int .i64 0) rfl
 have f5_1 := HO1.out.free 5
 have o6_1 := HO1.out.cell_ 6 (v := .int .i64 0) rfl
 have f6_1 := HO1.out.free 6
 have o7_1 := HO1.out.cell_ 7 (v := .slice none 0 0) rfl
 have f7_1 := HO1.out.free 7
 have o8_1 := HO1.out.cell_ 8 (v := .int .i64 0) rfl
 have f8_1 := HO1.out.free 8
 have ho2 : Own (((((((((W1.setCell ⟨w.heap.size + 1 + 1, 0, none⟩ (.slice B0 M.m.t.bs.length d0)).setCell ⟨w.heap.size + 1 + 1, 1, none⟩ (.slice B1 M.m.t.fs.length d1)).setCell ⟨w.heap.size + 1 + 1, 2, none⟩ (.slice B2 M.m.c.ls.length d2)).setCell ⟨w.heap.size + 1 + 1, 3, none⟩ (.int .i64 M.m.c.hand)).setCell ⟨w.heap.size + 1 + 1, 4, none⟩ (.int .i64 M.m.g.count)).setCell ⟨w.heap.size + 1 + 1, 5, none⟩ (.int .i64 M.m.g.next)).setCell ⟨w.heap.size + 1 + 1, 6, none⟩ (.int .i64 M.m.g.round)).setCell ⟨w.heap.size + 1 + 1, 7, none⟩ (.slice B3 M.m.g.os.length d3)).setCell ⟨w.heap.size + 1 + 1, 8, none⟩ (.int .i64 M.m.sp)) (w.heap.size + 1 + 1) 37 #[.slice B0 M.m.t.bs.length d0, .slice B1 M.m.t.fs.length d1, .slice B2 M.m.c.ls.length d2, .int .i64 M.m.c.hand, .int .i64 M.m.g.count, .int .i64 M.m.g.next, .int .i64 M.m.g.round, .slice B3 M.m.g.os.length d3, .int .i64 M.m.sp, .slice none 0 0, .int .i64 0] := by simpa using (((((((((HO1.out.set_ 0 (.slice B0 M.m.t.bs.length d0)).set_ 1 (.slice B1 M.m.t.fs.length d1)).set_ 2 (.slice B2 M.m.c.ls.length d2)).set_ 3 (.int .i64 M.m.c.hand)).set_ 4 (.int .i64 M.m.g.count)).set_ 5 (.int .i64 M.m.g.next)).set_ 6 (.int .i64 M.m.g.round)).set_ 7 (.slice B3 M.m.g.os.length d3)).set_ 8 (.int .i64 M.m.sp))
 have hp2 := (((((((((HP1.out.far (p := ⟨w.heap.size + 1 + 1, 0, none⟩) (u := .slice B0 M.m.t.bs.length d0) (by show _ ≠ w.heap.size + 1 + 1; omega)).far (p := ⟨w.heap.size + 1 + 1, 1, none⟩) (u := .slice B1 M.m.t.fs.length d1) (by show _ ≠ w.heap.size + 1 + 1; omega)).far (p := ⟨w.heap.size + 1 + 1, 2, none⟩) (u := .slice B2 M.m.c.ls.length d2) (by show _ ≠ w.heap.size + 1 + 1; omega)).far (p := ⟨w.heap.size + 1 + 1, 3, none⟩) (u := .int .i64 M.m.c.hand) (by show _ ≠ w.heap.size + 1 + 1; omega)).far (p := ⟨w.heap.size + 1 + 1, 4, none⟩) (u := .int .i64 M.m.g.count) (by show _ ≠ w.heap.size + 1 + 1; omega)).far (p := ⟨w.heap.size + 1 + 1, 5, none⟩) (u := .int .i64 M.m.g.next) (by show _ ≠ w.heap.size + 1 + 1; omega)).far (p := ⟨w.heap.size + 1 + 1, 6, none⟩) (u := .int .i64 M.m.g.round) (by show _ ≠ w.heap.size + 1 + 1; omega)).far (p := ⟨w.heap.size + 1 + 1, 7, none⟩) (u := .slice B3 M.m.g.os.length d3) (by show _ ≠ w.heap.size + 1 + 1; omega)).far (p := ⟨w.heap.size + 1 + 1, 8, none⟩) (u := .int .i64 M.m.sp) (by show _ ≠ w.heap.size + 1 + 1; omega))
 have hr2 := (((((((((HR1.out.far (p := ⟨w.heap.size + 1 + 1, 0, none⟩) (u := .slice B0 M.m.t.bs.length d0) (by show _ ≠ w.heap.size + 1 + 1; omega)).far (p := ⟨w.heap.size + 1 + 1, 1, none⟩) (u := .slice B1 M.m.t.fs.length d1) (by show _ ≠ w.heap.size + 1 + 1; omega)).far (p := ⟨w.heap.size + 1 + 1, 2, none⟩) (u := .slice B2 M.m.c.ls.length d2) (by show _ ≠ w.heap.size + 1 + 1; omega)).far (p := ⟨w.heap.size + 1 + 1, 3, none⟩) (u := .int .i64 M.m.c.hand) (by show _ ≠ w.heap.size + 1 + 1; omega)).far (p := ⟨w.heap.size + 1 + 1, 4, none⟩) (u := .int .i64 M.m.g.count) (by show _ ≠ w.heap.size + 1 + 1; omega)).far (p := ⟨w.heap.size + 1 + 1, 5, none⟩) (u := .int .i64 M.m.g.next) (by show _ ≠ w.heap.size + 1 + 1; omega)).far (p := ⟨w.heap.size + 1 + 1, 6, none⟩) (u := .int .i64 M.m.g.round) (by show _ ≠ w.heap.size + 1 + 1; omega)).far (p := ⟨w.heap.size + 1 + 1, 7, none⟩) (u := .slice B3 M.m.g.os.length d3) (by show _ ≠ w.heap.size + 1 + 1; omega)).far (p := ⟨w.heap.size + 1 + 1, 8, none⟩) (u := .int .i64 M.m.sp) (by show _ ≠ w.heap.size + 1 + 1; omega))
 have hb2 := (bS ((bS ((bS ((bS ((bS ((bS ((bS ((bS ((bS (HB1.out) (p := ⟨w.heap.size + 1 + 1, 0, none⟩) (u := .slice B0 M.m.t.bs.length d0) (by simp <;> omega))) (p := ⟨w.heap.size + 1 + 1, 1, none⟩) (u := .slice B1 M.m.t.fs.length d1) (by simp <;> omega))) (p := ⟨w.heap.size + 1 + 1, 2, none⟩) (u := .slice B2 M.m.c.ls.length d2) (by simp <;> omega))) (p := ⟨w.heap.size + 1 + 1, 3, none⟩) (u := .int .i64 M.m.c.hand) (by simp <;> omega))) (p := ⟨w.heap.size + 1 + 1, 4, none⟩) (u := .int .i64 M.m.g.count) (by simp <;> omega))) (p := ⟨w.heap.size + 1 + 1, 5, none⟩) (u := .int .i64 M.m.g.next) (by simp <;> omega))) (p := ⟨w.heap.size + 1 + 1, 6, none⟩) (u := .int .i64 M.m.g.round) (by simp <;> omega))) (p := ⟨w.heap.size + 1 + 1, 7, none⟩) (u := .slice B3 M.m.g.os.length d3) (by simp <;> omega))) (p := ⟨w.heap.size + 1 + 1, 8, none⟩) (u := .int .i64 M.m.sp) (by simp <;> omega))
 have hs2 : w.heap.size + 3 ≤ (((((((((W1.setCell ⟨w.heap.size + 1 + 1, 0, none⟩ (.slice B0 M.m.t.bs.length d0)).setCell ⟨w.heap.size + 1 + 1, 1, none⟩ (.slice B1 M.m.t.fs.length d1)).setCell ⟨w.heap.size + 1 + 1, 2, none⟩ (.slice B2 M.m.c.ls.length d2)).setCell ⟨w.heap.size + 1 + 1, 3, none⟩ (.int .i64 M.m.c.hand)).setCell ⟨w.heap.size + 1 + 1, 4, none⟩ (.int .i64 M.m.g.count)).setCell ⟨w.heap.size + 1 + 1, 5, none⟩ (.int .i64 M.m.g.next)).setCell ⟨w.heap.size + 1 + 1, 6, none⟩ (.int .i64 M.m.g.round)).setCell ⟨w.heap.size + 1 + 1, 7, none⟩ (.slice B3 M.m.g.os.length d3)).setCell ⟨w.heap.size + 1 + 1, 8, none⟩ (.int .i64 M.m.sp)).heap.size := by simpa using hs1
 have hm0_2 := (((((((((HM0_1.out.far (p := ⟨w.heap.size + 1 + 1, 0, none⟩) (u := .slice B0 M.m.t.bs.length d0) (by show w.heap.size + 1 + 1 < w.heap.size + 3; omega)).far (p := ⟨w.heap.size + 1 + 1, 1, none⟩) (u := .slice B1 M.m.t.fs.length d1) (by show w.heap.size + 1 + 1 < w.heap.size + 3; omega)).far (p := ⟨w.heap.size + 1 + 1, 2, none⟩) (u := .slice B2 M.m.c.ls.length d2) (by show w.heap.size + 1 + 1 < w.heap.size + 3; omega)).far (p := ⟨w.heap.size + 1 + 1, 3, none⟩) (u := .int .i64 M.m.c.hand) (by show w.heap.size + 1 + 1 < w.heap.size + 3; omega)).far (p := ⟨w.heap.size + 1 + 1, 4, none⟩) (u := .int .i64 M.m.g.count) (by show w.heap.size + 1 + 1 < w.heap.size + 3; omega)).far (p := ⟨w.heap.size + 1 + 1, 5, none⟩) (u := .int .i64 M.m.g.next) (by show w.heap.size + 1 + 1 < w.heap.size + 3; omega)).far (p := ⟨w.heap.size + 1 + 1, 6, none⟩) (u := .int .i64 M.m.g.round) (by show w.heap.size + 1 + 1 < w.heap.size + 3; omega)).far (p := ⟨w.heap.size + 1 + 1, 7, none⟩) (u := .slice B3 M.m.g.os.length d3) (by show w.heap.size + 1 + 1 < w.heap.size + 3; omega)).far (p := ⟨w.heap.size + 1 + 1, 8, none⟩) (u := .int .i64 M.m.sp) (by show w.heap.size + 1 + 1 < w.heap.size + 3; omega))
 generalize hW2 : (((((((((W1.setCell ⟨w.heap.size + 1 + 1, 0, none⟩ (.slice B0 M.m.t.bs.length d0)).setCell ⟨w.heap.size + 1 + 1, 1, none⟩ (.slice B1 M.m.t.fs.length d1)).setCell ⟨w.heap.size + 1 + 1, 2, none⟩ (.slice B2 M.m.c.ls.length d2)).setCell ⟨w.heap.size + 1 + 1, 3, none⟩ (.int .i64 M.m.c.hand)).setCell ⟨w.heap.size + 1 + 1, 4, none⟩ (.int .i64 M.m.g.count)).setCell ⟨w.heap.size + 1 + 1, 5, none⟩ (.int .i64 M.m.g.next)).setCell ⟨w.heap.size + 1 + 1, 6, none⟩ (.int .i64 M.m.g.round)).setCell ⟨w.heap.size + 1 + 1, 7, none⟩ (.slice B3 M.m.g.os.length d3)).setCell ⟨w.heap.size + 1 + 1, 8, none⟩ (.int .i64 M.m.sp)) = W2 at hp2 hr2 ho2 hb2 hs2 hm0_2
 have HP2 := Hd hp2
 have HR2 := Hd hr2
 have HO2 := Hd ho2
 have HB2 := Hd hb2
 clear hp2 hr2 ho2 hb2
 have HM0_2 := Hd hm0_2
 clear hm0_2
 obtain ⟨p0_2, p1_2, p2_2, p3_2, p4_2, p5_2, p6_2, p7_2, p8_2, p9_2, p10_2⟩ := c11 HP2.out
 go_wp2_with fail
 refine (toBoolS_any A4 c4 M.mk _ (hR4.now (Nat.le_refl _) HB2.out) h5).mono ?_
 rintro e W3 ⟨rfl, he_, hb_⟩
 have hp3 := HP2.out.below hb_
 have hr3 := HR2.out.below hb_
 have ho3 := HO2.out.below hb_
 have hb3 := bT HB2.out hb_
 have hs3 := Nat.le_trans hs2 hb_.size
 have HM0_3 := Hd (HM0_2.out.now hb_)
 have HM1_3 : Hid (SlM boE 4 (w.heap.size + 3) W3 (.slice (some ⟨W2.heap.size, 0, none⟩) M.mk.length M.mk.length) M.mk) := he_.slm hs2 (by unfold maxLen; omega)
 clear hb_ he_ p0_1 p1_1 p2_1 p3_1 p4_1 p5_1 p6_1 p7_1 p8_1 p9_1 p10_1 o0_1 f0_1 o1_1 f1_1 o2_1 f2_1 o3_1 f3_1 o4_1 f4_1 o5_1 f5_1 o6_1 f6_1 o7_1 f7_1 o8_1 f8_1 p0_2 p1_2 p2_2 p3_2 p4_2 p5_2 p6_2 p7_2 p8_2 p9_2 p10_2
 have HP3 := Hd hp3
 have HR3 := Hd hr3
 have HO3 := Hd ho3
 have HB3 := Hd hb3
 clear hp3 hr3 ho3 hb3
 obtain ⟨p0_3, p1_3, p2_3, p3_3, p4_3, p5_3, p6_3, p7_3, p8_3, p9_3, p10_3⟩ := c11 HP3.out
 have o0_3 := HO3.out.cell_ 0 (v := .slice B0 M.m.t.bs.length d0) rfl
 have f0_3 := HO3.out.free 0
 have o1_3 := HO3.out.cell_ 1 (v := .slice B1 M.m.t.fs.length d1) rfl
 have f1_3 := HO3.out.free 1
 have o2_3 := HO3.out.cell_ 2 (v := .slice B2 M.m.c.ls.length d2) rfl
 have f2_3 := HO3.out.free 2
 have o3_3 := HO3.out.cell_ 3 (v := .int .i64 M.m.c.hand) rfl
 have f3_3 := HO3.out.free 3
 have o4_3 := HO3.out.cell_ 4 (v := .int .i64 M.m.g.count) rfl
 have f4_3 := HO3.out.free 4
 have o5_3 := HO3.out.cell_ 5 (v := .int .i64 M.m.g.next) rfl
 have f5_3 := HO3.out.free 5
 have o6_3 := HO3.out.cell_ 6 (v := .int .i64 M.m.g.round) rfl
 have f6_3 := HO3.out.free 6
 have o7_3 := HO3.out.cell_ 7 (v := .slice B3 M.m.g.os.length d3) rfl
 have f7_3 := HO3.out.free 7
 have o8_3 := HO3.out.cell_ 8 (v := .int .i64 M.m.sp) rfl
 have f8_3 := HO3.out.free 8
 have o9_3 := HO3.out.cell_ 9 (v := .slice none 0 0) rfl
 have f9_3 := HO3.out.free 9
 have o10_3 := HO3.out.cell_ 10 (v := .int .i64 0) rfl
 have f10_3 := HO3.out.free 10
 have r0_3 := HR3.out.cell_ 0 (v := .slice none 0 0) rfl
 have q0_3 := HR3.out.free 0
 have r1_3 := HR3.out.cell_ 1 (v := .slice none 0 0) rfl
 have q1_3 := HR3.out.free 1
 have r2_3 := HR3.out.cell_ 2 (v := .slice none 0 0) rfl
 have q2_3 := HR3.out.free 2
 have r3_3 := HR3.out.cell_ 3 (v := .int .i64 0) rfl
 have q3_3 := HR3.out.free 3
 have r4_3 := HR3.out.cell_ 4 (v := .int .i64 0) rfl
 have q4_3 := HR3.out.free 4
 have r5_3 := HR3.out.cell_ 5 (v := .int .i64 0) rfl
 have q5_3 := HR3.out.free 5
 have r6_3 := HR3.out.cell_ 6 (v := .int .i64 0) rfl
 have q6_3 := HR3.out.free 6
 have r7_3 := HR3.out.cell_ 7 (v := .slice none 0 0) rfl
 have q7_3 := HR3.out.free 7
 have r8_3 := HR3.out.cell_ 8 (v := .int .i64 0) rfl
 have q8_3 := HR3.out.free 8
 have r9_3 := HR3.out.cell_ 9 (v := .slice none 0 0) rfl
 have q9_3 := HR3.out.free 9
 have r10_3 := HR3.out.cell_ 10 (v := .int .i64 0) rfl
 have q10_3 := HR3.out.free 10
 go_wp2
 have o3 := (((((((((((((HR3.out.far (p := ⟨w.heap.size + 1 + 1, 9, none⟩) (u := .slice (some ⟨W2.heap.size, 0, none⟩) M.mk.length M.mk.length) (by simp)).far (p := ⟨w.heap.size + 1 + 1, 10, none⟩) (u := .int .i64 M.h) (by simp)).set_ 0 (.slice B0 M.m.t.bs.length d0)).set_ 1 (.slice B1 M.m.t.fs.length d1)).set_ 2 (.slice B2 M.m.c.ls.length d2)).set_ 3 (.int .i64 M.m.c.hand)).set_ 4 (.int .i64 M.m.g.count)).set_ 5 (.int .i64 M.m.g.next)).set_ 6 (.int .i64 M.m.g.round)).set_ 7 (.slice B3 M.m.g.os.length d3)).set_ 8 (.int .i64 M.m.sp)).set_ 9 (.slice (some ⟨W2.heap.size, 0, none⟩) M.mk.length M.mk.length)).set_ 10 (.int .i64 M.h))
 have t0 := o3.cell_ 0 (v := .slice B0 M.m.t.bs.length d0) (by simp)
 have t1 := o3.cell_ 1 (v := .slice B1 M.m.t.fs.length d1) (by simp)
 have t2 := o3.cell_ 2 (v := .slice B2 M.m.c.ls.length d2) (by simp)
 have t3 := o3.cell_ 3 (v := .int .i64 M.m.c.hand) (by simp)
 have t4 := o3.cell_ 4 (v := .int .i64 M.m.g.count) (by simp)
 have t5 := o3.cell_ 5 (v := .int .i64 M.m.g.next) (by simp)
 have t6 := o3.cell_ 6 (v := .int .i64 M.m.g.round) (by simp)
 have t7 := o3.cell_ 7 (v := .slice B3 M.m.g.os.length d3) (by simp)
 have t8 := o3.cell_ 8 (v := .int .i64 M.m.sp) (by simp)
 have t9 := o3.cell_ 9 (v := .slice (some ⟨W2.heap.size, 0, none⟩) M.mk.length M.mk.length) (by simp)
 have t10 := o3.cell_ 10 (v := .int .i64 M.h) (by simp)
 refine bodyPost_ret (v := .agg #[.slice B0 M.m.t.bs.length d0, .slice B1 M.m.t.fs.length d1, .slice B2 M.m.c.ls.length d2, .int .i64 M.m.c.hand, .int .i64 M.m.g.count, .int .i64 M.m.g.next, .int .i64 M.m.g.round, .slice B3 M.m.g.os.length d3, .int .i64 M.m.sp, .slice (some ⟨W2.heap.size, 0, none⟩) M.mk.length M.mk.length, .int .i64 M.h]) (by simp [results, Tryz.results18, go_sem, t0, t1, t2, t3, t4, t5, t6, t7, t8, t9, t10]) rfl ⟨_, rfl, .slice B0 M.m.t.bs.length d0, .slice B1 M.m.t.fs.length d1, .slice B2 M.m.c.ls.length d2, .slice B3 M.m.g.os.length d3, .slice (some ⟨W2.heap.size, 0, none⟩) M.mk.length M.mk.length, rfl, ⟨?_, ?_⟩, ?_⟩
 ·refine MaM.mono (B' := w.heap.size) (B := w.heap.size + 3) ?_ (by omega)
  repeat (refine MaM.far ?_ (by show _ < w.heap.size + 3; simp))
  exact HM0_3.out
 ·refine SlM.mono (base' := w.heap.size) (base := w.heap.size + 3) ?_ (by omega)
  repeat (refine SlM.far ?_ (by show _ < w.heap.size + 3; simp))
  exact HM1_3.out
 ·repeat (refine bS ?_ (by simp <;> omega))
  exact HB3.out
set_option maxHeartbeats 2000000 in
theorem eqMemory_same (v1 v2 v3 v4 v5 u1 u2 u3 u4 u5 : Value) (M : Me) (w : World) (h1 : MeR w v1 v2 v3 v4 v5 M) (h2 : MeR w u1 u2 u3 u4 u5 M) :
  Calls Tryz.prog 19 #[.agg #[v1, v2, v3, .int .i64 M.m.c.hand, .int .i64 M.m.g.count, .int .i64 M.m.g.next, .int .i64 M.m.g.round, v4, .int .i64 M.m.sp, v5, .int .i64 M.h], .agg #[u1, u2, u3, .int .i64 M.m.c.hand, .int .i64 M.m.g.count, .int .i64 M.m.g.next, .int .i64 M.m.g.round, u4, .int .i64 M.m.sp, u5, .int .i64 M.h]] w fun r w' => r = .returned (.bool true) ∧ Below w.heap.size w w' := by
 obtain ⟨A0, a0, rfl, ha0, hA0', hA0⟩ := h1.m.t.b
 obtain ⟨B0, b0, rfl, hb0', hB0', hB0⟩ := h2.m.t.b
 obtain ⟨A1, a1, rfl, ha1, hA1', hA1⟩ := h1.m.t.f
 obtain ⟨B1, b1, rfl, hb1', hB1', hB1⟩ := h2.m.t.f
 obtain ⟨A2, a2, rfl, ha2, hA2', hA2⟩ := h1.m.l
 obtain ⟨B2, b2, rfl, hb2', hB2', hB2⟩ := h2.m.l
 obtain ⟨A3, a3, rfl, ha3, hA3', hA3⟩ := h1.m.o
 obtain ⟨B3, b3, rfl, hb3', hB3', hB3⟩ := h2.m.o
 obtain ⟨A4, a4, rfl, ha4, hA4', hA4⟩ := h1.k
 obtain ⟨B4, b4, rfl, hb4', hB4', hB4⟩ := h2.k
 have g1 := h1.m
 have g2 := h2.m
 have hp0 := (Own.new_ w 37 #[.slice A0 M.m.t.bs.length a0, .slice A1 M.m.t.fs.length a1, .slice A2 M.m.c.ls.length a2, .int .i64 M.m.c.hand, .int .i64 M.m.g.count, .int .i64 M.m.g.next, .int .i64 M.m.g.round, .slice A3 M.m.g.os.length a3, .int .i64 M.m.sp, .slice A4 M.mk.length a4, .int .i64 M.h]).alloc (o := .cells #[.slice B0 M.m.t.bs.length b0, .slice B1 M.m.t.fs.length b1, .slice B2 M.m.c.ls.length b2, .int .i64 M.m.c.hand, .int .i64 M.m.g.count, .int .i64 M.m.g.next, .int .i64 M.m.g.round, .slice B3 M.m.g.os.length b3, .int .i64 M.m.sp, .slice B4 M.mk.length b4, .int .i64 M.h] 37)
 have hq0 := ownAt (W := (w.alloc (.cells #[.slice A0 M.m.t.bs.length a0, .slice A1 M.m.t.fs.length a1, .slice A2 M.m.c.ls.length a2, .int .i64 M.m.c.hand, .int .i64 M.m.g.count, .int .i64 M.m.g.next, .int .i64 M.m.g.round, .slice A3 M.m.g.os.length a3, .int .i64 M.m.sp, .slice A4 M.mk.length a4, .int .i64 M.h] 37))) (g := w.heap.size + 1) (t := 37) (cs := #[.slice B0 M.m.t.bs.length b0, .slice B1 M.m.t.fs.length b1, .slice B2 M.m.c.ls.length b2, .int .i64 M.m.c.hand, .int .i64 M.m.g.count, .int .i64 M.m.g.next, .int .i64 M.m.g.round, .slice B3 M.m.g.os.length b3, .int .i64 M.m.sp, .slice B4 M.mk.length b4, .int .i64 M.h]) (by simp)
 have hb0 : Below w.heap.size w ((w.alloc (.cells #[.slice A0 M.m.t.bs.length a0, .slice A1 M.m.t.fs.length a1, .slice A2 M.m.c.ls.length a2, .int .i64 M.m.c.hand, .int .i64 M.m.g.count, .int .i64 M.m.g.next, .int .i64 M.m.g.round, .slice A3 M.m.g.os.length a3, .int .i64 M.m.sp, .slice A4 M.mk.length a4, .int .i64 M.h] 37)).alloc (.cells #[.slice B0 M.m.t.bs.length b0, .slice B1 M.m.t.fs.length b1, .slice B2 M.m.c.ls.length b2, .int .i64 M.m.c.hand, .int .i64 M.m.g.count, .int .i64 M.m.g.next, .int .i64 M.m.g.round, .slice B3 M.m.g.os.length b3, .int .i64 M.m.sp, .slice B4 M.mk.length b4, .int .i64 M.h] 37)) := bA (bA bR)
 generalize hW0 : ((w.alloc (.cells #[.slice A0 M.m.t.bs.length a0, .slice A1 M.m.t.fs.length a1, .slice A2 M.m.c.ls.length a2, .int .i64 M.m.c.hand, .int .i64 M.m.g.count, .int .i64 M.m.g.next, .int .i64 M.m.g.round, .slice A3 M.m.g.os.length a3, .int .i64 M.m.sp, .slice A4 M.mk.length a4, .int .i64 M.h] 37)).alloc (.cells #[.slice B0 M.m.t.bs.length b0, .slice B1 M.m.t.fs.length b1, .slice B2 M.m.c.ls.length b2, .int .i64 M.m.c.hand, .int .i64 M.m.g.count, .int .i64 M.m.g.next, .int .i64 M.m.g.round, .slice B3 M.m.g.os.length b3, .int .i64 M.m.sp, .slice B4 M.mk.length b4, .int .i64 M.h] 37)) = W0 at hp0 hq0 hb0
 have HP0 := Hd hp0
 have HQ0 := Hd hq0
 have HB0 := Hd hb0
 clear hp0 hq0 hb0
 have p0 := HP0.out.cell_ 0 (v := .slice A0 M.m.t.bs.length a0) rfl
 have q0 := HQ0.out.cell_ 0 (v := .slice B0 M.m.t.bs.length b0) rfl
 have p1 := HP0.out.cell_ 1 (v := .slice A1 M.m.t.fs.length a1) rfl
 have q1 := HQ0.out.cell_ 1 (v := .slice B1 M.m.t.fs.length b1) rfl
 have p2 := HP0.out.cell_ 2 (v := .slice A2 M.m.c.ls.length a2) rfl
 have q2 := HQ0.out.cell_ 2 (v := .slice B2 M.m.c.ls.length b2) rfl
 have p3 := HP0.out.cell_ 3 (v := .int .i64 M.m.c.hand) rfl
 have q3 := HQ0.out.cell_ 3 (v := .int .i64 M.m.c.hand) rfl
 have p4 := HP0.out.cell_ 4 (v := .int .i64 M.m.g.count) rfl
 have q4 := HQ0.out.cell_ 4 (v := .int .i64 M.m.g.count) rfl
 have p5 := HP0.out.cell_ 5 (v := .int .i64 M.m.g.next) rfl
 have q5 := HQ0.out.cell_ 5 (v := .int .i64 M.m.g.next) rfl
 have p6 := HP0.out.cell_ 6 (v := .int .i64 M.m.g.round) rfl
 have q6 := HQ0.out.cell_ 6 (v := .int .i64 M.m.g.round) rfl
 have p7 := HP0.out.cell_ 7 (v := .slice A3 M.m.g.os.length a3) rfl
 have q7 := HQ0.out.cell_ 7 (v := .slice B3 M.m.g.os.length b3) rfl
 have p8 := HP0.out.cell_ 8 (v := .int .i64 M.m.sp) rfl
 have q8 := HQ0.out.cell_ 8 (v := .int .i64 M.m.sp) rfl
 have p9 := HP0.out.cell_ 9 (v := .slice A4 M.mk.length a4) rfl
 have q9 := HQ0.out.cell_ 9 (v := .slice B4 M.mk.length b4) rfl
 have p10 := HP0.out.cell_ 10 (v := .int .i64 M.h) rfl
 have q10 := HQ0.out.cell_ 10 (v := .int .i64 M.h) rfl
 go_enter Tryz.func19, Tryz.ntmps19
 go_wp2_with fail
 refine (eqMachine_same _ _ _ _ _ _ _ _ M.m _ (g1.now HB0.out) (g2.now HB0.out)).mono ?_
 rintro e W1 ⟨rfl, hb_⟩
 clear p0 q0 p1 q1 p2 q2 p3 q3 p4 q4 p5 q5 p6 q6 p7 q7 p8 q8 p9 q9 p10 q10
 have hp1 := HP0.out.below hb_
 have hq1 := HQ0.out.below hb_
 have hb1 := bT HB0.out hb_
 clear hb_
 have HP1 := Hd hp1
 have HQ1 := Hd hq1
 have HB1 := Hd hb1
 clear hp1 hq1 hb1
 have p0 := HP1.out.cell_ 0 (v := .slice A0 M.m.t.bs.length a0) rfl
 have q0 := HQ1.out.cell_ 0 (v := .slice B0 M.m.t.bs.length b0) rfl
 have p1 := HP1.out.cell_ 1 (v := .slice A1 M.m.t.fs.length a1) rfl
 have q1 := HQ1.out.cell_ 1 (v := .slice B1 M.m.t.fs.length b1) rfl
 have p2 := HP1.out.cell_ 2 (v := .slice A2 M.m.c.ls.length a2) rfl
 have q2 := HQ1.out.cell_ 2 (v := .slice B2 M.m.c.ls.length b2) rfl
 have p3 := HP1.out.cell_ 3 (v := .int .i64 M.m.c.hand) rfl
 have q3 := HQ1.out.cell_ 3 (v := .int .i64 M.m.c.hand) rfl
 have p4 := HP1.out.cell_ 4 (v := .int .i64 M.m.g.count) rfl
 have q4 := HQ1.out.cell_ 4 (v := .int .i64 M.m.g.count) rfl
 have p5 := HP1.out.cell_ 5 (v := .int .i64 M.m.g.next) rfl
 have q5 := HQ1.out.cell_ 5 (v := .int .i64 M.m.g.next) rfl
 have p6 := HP1.out.cell_ 6 (v := .int .i64 M.m.g.round) rfl
 have q6 := HQ1.out.cell_ 6 (v := .int .i64 M.m.g.round) rfl
 have p7 := HP1.out.cell_ 7 (v := .slice A3 M.m.g.os.length a3) rfl
 have q7 := HQ1.out.cell_ 7 (v := .slice B3 M.m.g.os.length b3) rfl
 have p8 := HP1.out.cell_ 8 (v := .int .i64 M.m.sp) rfl
 have q8 := HQ1.out.cell_ 8 (v := .int .i64 M.m.sp) rfl
 have p9 := HP1.out.cell_ 9 (v := .slice A4 M.mk.length a4) rfl
 have q9 := HQ1.out.cell_ 9 (v := .slice B4 M.mk.length b4) rfl
 have p10 := HP1.out.cell_ 10 (v := .int .i64 M.h) rfl
 have q10 := HQ1.out.cell_ 10 (v := .int .i64 M.h) rfl
 go_wp2_with fail
 refine (eqBoolS_same A4 B4 _ _ M.mk _ (hA4.now (Nat.le_refl _) HB1.out) (hB4.now (Nat.le_refl _) HB1.out) (max63 ha4 hA4')).mono ?_
 rintro e W2 ⟨rfl, hb_⟩
 clear p0 q0 p1 q1 p2 q2 p3 q3 p4 q4 p5 q5 p6 q6 p7 q7 p8 q8 p9 q9 p10 q10
 have hp2 := HP1.out.below hb_
 have hq2 := HQ1.out.below hb_
 have hb2 := bT HB1.out hb_
 clear hb_
 have HP2 := Hd hp2
 have HQ2 := Hd hq2
 have HB2 := Hd hb2
 clear hp2 hq2 hb2
 have p0 := HP2.out.cell_ 0 (v := .slice A0 M.m.t.bs.length a0) rfl
 have q0 := HQ2.out.cell_ 0 (v := .slice B0 M.m.t.bs.length b0) rfl
 have p1 := HP2.out.cell_ 1 (v := .slice A1 M.m.t.fs.length a1) rfl
 have q1 := HQ2.out.cell_ 1 (v := .slice B1 M.m.t.fs.length b1) rfl
 have p2 := HP2.out.cell_ 2 (v := .slice A2 M.m.c.ls.length a2) rfl
 have q2 := HQ2.out.cell_ 2 (v := .slice B2 M.m.c.ls.length b2) rfl
 have p3 := HP2.out.cell_ 3 (v := .int .i64 M.m.c.hand) rfl
 have q3 := HQ2.out.cell_ 3 (v := .int .i64 M.m.c.hand) rfl
 have p4 := HP2.out.cell_ 4 (v := .int .i64 M.m.g.count) rfl
 have q4 := HQ2.out.cell_ 4 (v := .int .i64 M.m.g.count) rfl
 have p5 := HP2.out.cell_ 5 (v := .int .i64 M.m.g.next) rfl
 have q5 := HQ2.out.cell_ 5 (v := .int .i64 M.m.g.next) rfl
 have p6 := HP2.out.cell_ 6 (v := .int .i64 M.m.g.round) rfl
 have q6 := HQ2.out.cell_ 6 (v := .int .i64 M.m.g.round) rfl
 have p7 := HP2.out.cell_ 7 (v := .slice A3 M.m.g.os.length a3) rfl
 have q7 := HQ2.out.cell_ 7 (v := .slice B3 M.m.g.os.length b3) rfl
 have p8 := HP2.out.cell_ 8 (v := .int .i64 M.m.sp) rfl
 have q8 := HQ2.out.cell_ 8 (v := .int .i64 M.m.sp) rfl
 have p9 := HP2.out.cell_ 9 (v := .slice A4 M.mk.length a4) rfl
 have q9 := HQ2.out.cell_ 9 (v := .slice B4 M.mk.length b4) rfl
 have p10 := HP2.out.cell_ 10 (v := .int .i64 M.h) rfl
 have q10 := HQ2.out.cell_ 10 (v := .int .i64 M.h) rfl
 go_wp2
 go_ret
 exact ⟨rfl, HB2.out⟩
def szO5 (a b c d e : Nat) : Int := if (1048576 : Int) < a + b + c + d + e then -1 else 1048576 - a - b - c - d - e
set_option maxHeartbeats 1000000 in
theorem szMemory_any (A1 A2 A3 A4 A5 : Option Addr) (c1 c2 c3 c4 c5 n1 n2 n3 n4 n5 : Nat) (x y z u s t : Int) (w : World) (h1 : n1 ≤ 9223372036854775807) (h2 : n2 ≤ 9223372036854775807) (h3 : n3 ≤ 9223372036854775807) (h4 : n4 ≤ 9223372036854775807) (h5 : n5 ≤ 9223372036854775807) :
  Calls Tryz.prog 17 #[.agg #[.slice A1 n1 c1, .slice A2 n2 c2, .slice A3 n3 c3, .int .i64 x, .int .i64 y, .int .i64 z, .int .i64 u, .slice A4 n4 c4, .int .i64 s, .slice A5 n5 c5, .int .i64 t], .int .i64 1048576] w fun r w' => r = .returned (.int .i64 (szO5 n1 n2 n3 n4 n5)) ∧ Below w.heap.size w w' := by
 obtain ⟨W0, hW, hbx, hb0, _⟩ := box1 w #[.slice A1 n1 c1, .slice A2 n2 c2, .slice A3 n3 c3, .int .i64 x, .int .i64 y, .int .i64 z, .int .i64 u, .slice A4 n4 c4, .int .i64 s, .slice A5 n5 c5, .int .i64 t] 67
 obtain ⟨p0, p1, p2, p3, p4, p5, p6, p7, p8, p9, p10⟩ := c11 hbx
 have HX := Hd hbx
 have HB0 := Hd hb0
 clear hbx hb0
 go_enter Tryz.func17, Tryz.ntmps17
 go_wp2_with fail
 refine (szMachine_any A1 A2 A3 A4 c1 c2 c3 c4 n1 n2 n3 n4 x y z u s _ h1 h2 h3 h4).mono ?_
 rintro e w1 ⟨rfl, hb1⟩
 have p91 := (HX.out.below hb1).cell_ 9 (v := .slice A5 n5 c5) rfl
 have HB1 := Hd (bT HB0.out hb1)
 clear p0 p1 p2 p3 p4 p5 p6 p7 p8 p9 p10 hb1 hW
 by_cases ha : (1048576 : Int) < (n1 : Int) + n2 + n3 + n4
 ·have hs : szOf n1 n2 n3 n4 = -1 := by unfold szOf; rw [if_pos ha]
  have ht : szO5 n1 n2 n3 n4 n5 = -1 := by unfold szO5; rw [if_pos (by omega)]
  rw [hs]
  have HT := Hd ht
  clear ht hs
  go_wp2
  go_ret
  exact ⟨by rw [HT.out]; rfl, HB1.out⟩
 ·have hs : szOf n1 n2 n3 n4 = 1048576 - n1 - n2 - n3 - n4 := by unfold szOf; rw [if_neg ha]
  have hn : ¬ (1048576 : Int) - n1 - n2 - n3 - n4 < 0 := by omega
  rw [hs]
  go_wp2_with fail
  refine (szBoolS_any A5 n5 c5 (1048576 - n1 - n2 - n3 - n4) _ h5 (by omega) (by omega)).mono ?_
  rintro e _ ⟨rfl, rfl⟩
  by_cases hb : (1048576 : Int) - n1 - n2 - n3 - n4 - n5 < 0
  ·have ht : szO5 n1 n2 n3 n4 n5 = -1 := by unfold szO5; rw [if_pos (by omega)]
   rw [if_pos hb]
   have HT := Hd ht
   clear ht
   go_wp2
   go_ret
   exact ⟨by rw [HT.out]; rfl, HB1.out⟩
  ·have ht : szO5 n1 n2 n3 n4 n5 = 1048576 - n1 - n2 - n3 - n4 - n5 := by unfold szO5; rw [if_neg (by omega)]
   rw [if_neg hb]
   have HT := Hd ht
   clear ht
   go_wp2
   go_ret
   exact ⟨by rw [HT.out]; rfl, HB1.out⟩
set_option maxHeartbeats 2000000 in
theorem markMemory_any (B : Nat) (A1 A2 A3 A4 A5 : Option Addr) (c1 c2 c3 c4 c5 : Nat) (M : Me) (w : World) (k0 : Int) (h1 : MineE intE 3 B w A1 M.m.t.bs) (h2 : MineE frE 80 B w A2 M.m.t.fs) (h3 : MineE lnE 50 B w A3 M.m.c.ls) (h4 : MineE owE 186 B w A4 M.m.g.os) (h5 : MineE boE 4 B w A5 M.mk)
  (hi : Nat) (hr1 : ∀ k, rowOf M.m.t.bs.length A1 = some k → k < hi) (hr2 : ∀ k, rowOf M.m.t.fs.length A2 = some k → k < hi) (hr3 : ∀ k, rowOf M.m.c.ls.length A3 = some k → k < hi) (hr4 : ∀ k, rowOf M.m.g.os.length A4 = some k → k < hi) (hr5 : ∀ k, rowOf M.mk.length A5 = some k → k < hi) (hk0 : 0 ≤ k0) (hk1 : k0 ≤ 536870912) (hl1 : M.m.t.bs.length ≤ 1048576) (hl2 : M.m.t.fs.length ≤ 1048576) (hl3 : M.m.c.ls.length ≤ 1048576) (hl4 : M.m.g.os.length ≤ 1048576) (hl5 : M.mk.length ≤ 1048576) :
  Calls Tryz.prog 20 #[.agg #[.slice A1 M.m.t.bs.length c1, .slice A2 M.m.t.fs.length c2, .slice A3 M.m.c.ls.length c3, .int .i64 M.m.c.hand, .int .i64 M.m.g.count, .int .i64 M.m.g.next, .int .i64 M.m.g.round, .slice A4 M.m.g.os.length c4, .int .i64 M.m.sp, .slice A5 M.mk.length c5, .int .i64 M.h], .int .i64 k0] w
   fun r w' => r = .returned (.int .i64 (k0 + (M.m.t.bs.length : Int) + 5 * (M.m.t.fs.length : Int) + 6 * (M.m.c.ls.length : Int) + 2 * (M.m.g.os.length : Int) + (M.mk.length : Int))) ∧ MkM k0 w' A1 A2 A3 A4 M.m.t.bs.length M.m.t.fs.length M.m.c.ls.length M.m.g.os.length ∧ Mk (mkE bBool 1 (k0 + (M.m.t.bs.length : Int) + 5 * (M.m.t.fs.length : Int) + 6 * (M.m.c.ls.length : Int) + 2 * (M.m.g.os.length : Int))) 1 4 w' A5 M.mk.length ∧ Tch B hi w w' ∧ Oth (fun e => (((e = 3 ∨ e = 80) ∨ e = 50) ∨ e = 186) ∨ e = 4) w w' := by
 obtain ⟨W0, hW, hbx, hb0, _⟩ := box1 w #[.slice A1 M.m.t.bs.length c1, .slice A2 M.m.t.fs.length c2, .slice A3 M.m.c.ls.length c3, .int .i64 M.m.c.hand, .int .i64 M.m.g.count, .int .i64 M.m.g.next, .int .i64 M.m.g.round, .slice A4 M.m.g.os.length c4, .int .i64 M.m.sp, .slice A5 M.mk.length c5, .int .i64 M.h] 37
 obtain ⟨p0, p1, p2, p3, p4, p5, p6, p7, p8, p9, p10⟩ := c11 hbx
 have HX := Hd hbx
 have HB0 := Hd hb0
 have H1 := Hd h1
 have H2 := Hd h2
 have H3 := Hd h3
 have H4 := Hd h4
 have H5 := Hd h5
 clear hbx hb0 h1 h2 h3 h4 h5
 go_enter Tryz.func20, Tryz.ntmps20
 go_wp2_with fail
 refine (markMachine_any B A1 A2 A3 A4 c1 c2 c3 c4 M.m _ k0 (H1.out.below HB0.out) (H2.out.below HB0.out) (H3.out.below HB0.out) (H4.out.below HB0.out) hi hr1 hr2 hr3 hr4 hk0 hk1 hl1 hl2 hl3 hl4).mono ?_
 rintro e W1 ⟨rfl, hm1, ht1, ho1⟩
 have p91 := (ho1.2 _ _ _ HX.out (by decide)).cell_ 9 (v := .slice A5 M.mk.length c5) rfl
 have HM1 := Hd hm1
 have HT1 := Hd ((Tch.of_below HB0.out).trans ht1)
 have HO1 := Hd ho1
 have HK1 := Hd ((H5.out.below HB0.out).oth ho1 (by decide))
 clear hm1 ht1 ho1 p0 p1 p2 p3 p4 p5 p6 p7 p8 p9 p10 hW
 go_wp2_with fail
 refine (markBoolS_any B A5 c5 M.mk.length M.mk _ (k0 + (M.m.t.bs.length : Int) + 5 * (M.m.t.fs.length : Int) + 6 * (M.m.c.ls.length : Int) + 2 * (M.m.g.os.length : Int)) HK1.out rfl (by omega) (by omega) hl5).mono ?_
 rintro e W2 ⟨rfl, hm2, hg2, ho2⟩
 have HM2 := Hd hm2
 have HT2 := Hd (HT1.out.trans (Tch.grown hg2 (fun k hk => ⟨(H5.out.row k hk).1, hr5 k hk⟩)))
 have ot2 := oth_of hg2 ho2
 have HM3 : Hid (MkM k0 W2 A1 A2 A3 A4 M.m.t.bs.length M.m.t.fs.length M.m.c.ls.length M.m.g.os.length) := ⟨HM1.out.b.oth ot2 (by decide), HM1.out.f.oth ot2 (by decide), HM1.out.l.oth ot2 (by decide), HM1.out.o.oth ot2 (by decide)⟩
 have HO2 := Hd ((HO1.out.trans ot2).far HB0.out)
 clear hm2 hg2 ho2 ot2 p91
 go_wp2
 go_ret
 exact ⟨rfl, HM3.out, HM2.out, HT2.out, HO2.out⟩
set_option maxHeartbeats 2000000 in
theorem heldMemory_any (A1 A2 A3 A4 A5 : Option Addr) (c1 c2 c3 c4 c5 n1 n2 n3 n4 n5 : Nat) (x y z u s t : Int) (w : World) (k0 : Int) (h : MkM k0 w A1 A2 A3 A4 n1 n2 n3 n4) (h5 : Mk (mkE bBool 1 (k0 + (n1 : Int) + 5 * (n2 : Int) + 6 * (n3 : Int) + 2 * (n4 : Int))) 1 4 w A5 n5) (hk0 : 0 ≤ k0) (hk1 : k0 ≤ 536870912) (hl1 : n1 ≤ 1048576) (hl2 : n2 ≤ 1048576) (hl3 : n3 ≤ 1048576) (hl4 : n4 ≤ 1048576) (hl5 : n5 ≤ 1048576) :
  Calls Tryz.prog 21 #[.agg #[.slice A1 n1 c1, .slice A2 n2 c2, .slice A3 n3 c3, .int .i64 x, .int .i64 y, .int .i64 z, .int .i64 u, .slice A4 n4 c4, .int .i64 s, .slice A5 n5 c5, .int .i64 t], .int .i64 k0] w
   fun r w' => r = .returned (.int .i64 (k0 + (n1 : Int) + 5 * (n2 : Int) + 6 * (n3 : Int) + 2 * (n4 : Int) + (n5 : Int))) ∧ Below w.heap.size w w' := by
 have hq1 : ¬ k0 + (n1 : Int) + 5 * (n2 : Int) + 6 * (n3 : Int) + 2 * (n4 : Int) < 0 := by omega
 have hq2 : ¬ k0 + (n1 : Int) + 5 * (n2 : Int) + 6 * (n3 : Int) + 2 * (n4 : Int) + (n5 : Int) < 0 := by omega
 obtain ⟨W0, hW, hbx, hb0, _⟩ := box1 w #[.slice A1 n1 c1, .slice A2 n2 c2, .slice A3 n3 c3, .int .i64 x, .int .i64 y, .int .i64 z, .int .i64 u, .slice A4 n4 c4, .int .i64 s, .slice A5 n5 c5, .int .i64 t] 37
 obtain ⟨p0, p1, p2, p3, p4, p5, p6, p7, p8, p9, p10⟩ := c11 hbx
 have HX := Hd hbx
 have HB0 := Hd hb0
 have H := Hd h
 have H5 := Hd h5
 clear hbx hb0 h h5
 go_enter Tryz.func21, Tryz.ntmps21
 go_wp2_with fail
 refine (heldMachine_any A1 A2 A3 A4 c1 c2 c3 c4 n1 n2 n3 n4 x y z u s _ k0 (H.out.now HB0.out) hk0 hk1 hl1 hl2 hl3 hl4).mono ?_
 rintro e W1 ⟨rfl, hb1⟩
 have p91 := (HX.out.below hb1).cell_ 9 (v := .slice A5 n5 c5) rfl
 have HB1 := Hd (bT HB0.out hb1)
 clear hb1 p0 p1 p2 p3 p4 p5 p6 p7 p8 p9 p10 hW
 go_wp2_with fail
 refine (heldBoolS_any A5 n5 c5 _ (k0 + (n1 : Int) + 5 * (n2 : Int) + 6 * (n3 : Int) + 2 * (n4 : Int)) (H5.out.now HB1.out) (by omega) (by omega) hl5).mono ?_
 rintro e W2 ⟨rfl, hb2⟩
 have HB2 := Hd (bT HB1.out hb2)
 clear hb2 p91
 go_wp2
 go_ret
 exact ⟨rfl, HB2.out⟩
end Go.Proofs.YtfbnokjdkhcgoaaGreatDoor
