/- A part of the proofs of this seat: W6. -/
import Derived.Test.YtibpnlojlfcpmaaGreatDoorRW3
set_option linter.unusedVariables false
set_option linter.unusedSimpArgs false
set_option maxRecDepth 1000000
namespace Go.Proofs.YtibpnlojlfcpmaaGreatDoor
open Go.RowKit
set_option maxHeartbeats 4000000 in
theorem l6Wrong_any (B g q k : Nat) (vb vf vl vo : Value) (m : Ma) (w : World) (hrd : Rdr B w g q) (hq : q ≤ 800000) (hT : MaM B w vb vf vl vo m) (hz : Sz k m) (hk : k ≤ 900) (hBw : B ≤ w.heap.size) :
  Calls Tryz.prog 93 #[.pointer (some ⟨g, 0, none⟩), .agg #[vb, vf, vl, .int .i64 m.c.hand, .int .i64 m.g.count, .int .i64 m.g.next, .int .i64 m.g.round, vo, .int .i64 m.sp]] w (Post2 fun v w' => Drawn B (k + 2) w g q 9 v w') := by
 have hgw := rdr_lt hrd
 have HZK := Hd hz
 obtain ⟨z1, z2, z3, z5, z6⟩ := hz
 have HT := Hd hT
 obtain ⟨Z1, y1, rfl, _⟩ := hT.t.b
 obtain ⟨Z2, y2, rfl, _⟩ := hT.t.f
 obtain ⟨Z3, y3, rfl, _⟩ := hT.l
 obtain ⟨Z4, y4, rfl, _⟩ := hT.o
 clear hT
 have hbx := (Own.new_ w 48 #[.slice Z1 m.t.bs.length y1, .slice Z2 m.t.fs.length y2, .slice Z3 m.c.ls.length y3, .int .i64 m.c.hand, .int .i64 m.g.count, .int .i64 m.g.next, .int .i64 m.g.round, .slice Z4 m.g.os.length y4, .int .i64 m.sp]).alloc (o := .cells #[.slice none 0 0, .slice none 0 0, .slice none 0 0, .int .i64 0, .int .i64 0, .int .i64 0, .int .i64 0, .slice none 0 0, .int .i64 0] 48)
 have hbo := ownAt (W := w.alloc (.cells #[.slice Z1 m.t.bs.length y1, .slice Z2 m.t.fs.length y2, .slice Z3 m.c.ls.length y3, .int .i64 m.c.hand, .int .i64 m.g.count, .int .i64 m.g.next, .int .i64 m.g.round, .slice Z4 m.g.os.length y4, .int .i64 m.sp] 48)) (g := w.heap.size + 1) (t := 48) (cs := #[.slice none 0 0, .slice none 0 0, .slice none 0 0, .int .i64 0, .int .i64 0, .int .i64 0, .int .i64 0, .slice none 0 0, .int .i64 0]) (by simp)
 have hb0 : Below w.heap.size w ((w.alloc (.cells #[.slice Z1 m.t.bs.length y1, .slice Z2 m.t.fs.length y2, .slice Z3 m.c.ls.length y3, .int .i64 m.c.hand, .int .i64 m.g.count, .int .i64 m.g.next, .int .i64 m.g.round, .slice Z4 m.g.os.length y4, .int .i64 m.sp] 48)).alloc (.cells #[.slice none 0 0, .slice none 0 0, .slice none 0 0, .int .i64 0, .int .i64 0, .int .i64 0, .int .i64 0, .slice none 0 0, .int .i64 0] 48)) := bA (bA bR)
 have hs0 : ((w.alloc (.cells #[.slice Z1 m.t.bs.length y1, .slice Z2 m.t.fs.length y2, .slice Z3 m.c.ls.length y3, .int .i64 m.c.hand, .int .i64 m.g.count, .int .i64 m.g.next, .int .i64 m.g.round, .slice Z4 m.g.os.length y4, .int .i64 m.sp] 48)).alloc (.cells #[.slice none 0 0, .slice none 0 0, .slice none 0 0, .int .i64 0, .int .i64 0, .int .i64 0, .int .i64 0, .slice none 0 0, .int .i64 0] 48)).heap.size = w.heap.size + 2 := by simp
 generalize hW : (w.alloc (.cells #[.slice Z1 m.t.bs.length y1, .slice Z2 m.t.fs.length y2, .slice Z3 m.c.ls.length y3, .int .i64 m.c.hand, .int .i64 m.g.count, .int .i64 m.g.next, .int .i64 m.g.round, .slice Z4 m.g.os.length y4, .int .i64 m.sp] 48)).alloc (.cells #[.slice none 0 0, .slice none 0 0, .slice none 0 0, .int .i64 0, .int .i64 0, .int .i64 0, .int .i64 0, .slice none 0 0, .int .i64 0] 48) = W0 at hbx hbo hb0 hs0
 obtain ⟨p0q, p1q, p2q, p3q, p4q, p5q, p6q, p7q, p8q⟩ := cells9 hbx
 have HR0 := Hd hbo
 have HB0 := Hd hb0
 have HRD0 := Hd (rdr_below hrd hb0)
 clear hbx hbo hb0 hrd
 go_enter Tryz.func93, Tryz.ntmps93
 go_wp2_with fail
 refine (l6Copy_any _ _ _ _ m _ (HT.out.r.now HB0.out) (by omega) (by omega) (by omega) (by omega)).mono ?_
 rintro e w1 ⟨_, rfl, q1, q2, q3, q4, rfl, hM1, hb1⟩
 clear p0q p1q p2q p3q p4q p5q p6q p7q p8q
 obtain ⟨A1, c1, rfl, _⟩ := hM1.t.b
 obtain ⟨A2, c2, rfl, _⟩ := hM1.t.f
 obtain ⟨A3, c3, rfl, _⟩ := hM1.l
 obtain ⟨A4, c4, rfl, _⟩ := hM1.o
 have ho2 := Own.new_ w1 48 #[.slice A1 m.t.bs.length c1, .slice A2 m.t.fs.length c2, .slice A3 m.c.ls.length c3, .int .i64 m.c.hand, .int .i64 m.g.count, .int .i64 m.g.next, .int .i64 m.g.round, .slice A4 m.g.os.length c4, .int .i64 m.sp]
 have hb2 : Below w1.heap.size w1 (w1.alloc (.cells #[.slice A1 m.t.bs.length c1, .slice A2 m.t.fs.length c2, .slice A3 m.c.ls.length c3, .int .i64 m.c.hand, .int .i64 m.g.count, .int .i64 m.g.next, .int .i64 m.g.round, .slice A4 m.g.os.length c4, .int .i64 m.sp] 48)) := bA bR
 generalize hW2 : w1.alloc (.cells #[.slice A1 m.t.bs.length c1, .slice A2 m.t.fs.length c2, .slice A3 m.c.ls.length c3, .int .i64 m.c.hand, .int .i64 m.g.count, .int .i64 m.g.next, .int .i64 m.g.round, .slice A4 m.g.os.length c4, .int .i64 m.sp] 48) = w2 at ho2 hb2
 have HM := Hd ((hM1.now hb2).mono (show B ≤ W0.heap.size by omega))
 have HO := Hd ho2
 have HR := Hd ((HR0.out.below hb1).below hb2)
 have HRD := Hd (rdr_below (rdr_below HRD0.out hb1) hb2)
 have HGR := Hd (gr_below (g := g) (bT (bT HB0.out hb1) hb2))
 have hgt : w.heap.size + 2 ≤ w1.heap.size := by have := hb1.size; omega
 clear hM1 hb1 ho2 hb2 HR0 HB0 HRD0 HT
 generalize hgb : w1.heap.size = gb at *
 go_wp2_with fail
 refine (pick_any B g q 24 w2 HRD.out (by omega) (by omega)).mono ?_
 rintro e w3 ⟨x, rfl, hx0, hx1, hrd, hg⟩
 have ho3 := own_gr HO.out hg (by omega)
 have hr3 := own_gr HR.out hg (by omega)
 have hm3 := HM.out.gr HRD.out hg
 have hgr3 := gT HGR.out hg
 clear HO HR HM HRD HGR
 have HO := Hd ho3
 have HR := Hd hr3
 have HM := Hd hm3
 have HRD := Hd hrd
 have HGR := Hd hgr3
 clear ho3 hr3 hm3 hgr3 hrd hg
 clear hx0 hx1 hW hW2
 have hs3 : w.heap.size ≤ w3.heap.size := HGR.out.size
 by_cases hx : x = 0
 ·have e0 : (x == 0) = true := by rw [beq_iff_eq]; exact hx
  clear hx
  go_wp2_with fail
  refine (num_lit B g (q + 1) [9, -1, 1] w3 _ _ rfl rfl HRD.out (by omega) (by simp) (by simp)).mono ?_
  rintro e w5 ⟨z, rfl, _, hrd, hg⟩
  have ho5 := own_gr HO.out hg (by omega)
  have hr5 := own_gr HR.out hg (by omega)
  have hm5 := HM.out.gr HRD.out hg
  have hgr5 := gT HGR.out hg
  clear HO HR HM HRD HGR
  have HO := Hd ho5
  have HR := Hd hr5
  have HM := Hd hm5
  have HRD := Hd hrd
  have HGR := Hd hgr5
  clear ho5 hr5 hm5 hgr5 hrd hg
  have HZ : Hid (Sz (k + 2) ⟨m.t, m.c, m.g, z⟩) := ⟨HZK.out.b1, Nat.le_trans HZK.out.b (Nat.le_add_right _ _), Nat.le_trans HZK.out.f (Nat.le_add_right _ _), Nat.le_trans HZK.out.l (Nat.le_add_right _ _), Nat.le_trans HZK.out.o (Nat.le_add_right _ _)⟩
  obtain ⟨r0x, r1x, r2x, r3x, r4x, r5x, r6x, r7x, r8x⟩ := cells9 HR.out
  obtain ⟨z0x, z1x, z2x, z3x, z4x, z5x, z6x, z7x, z8x⟩ := free9 HR.out
  have hlr := HR.out.lt
  obtain ⟨p0o, p1o, p2o, p3o, p4o, p5o, p6o, p7o, p8o⟩ := cells9 HO.out
  obtain ⟨w0o, w1o, w2o, w3o, w4o, w5o, w6o, w7o, w8o⟩ := free9 HO.out
  have hlo := HO.out.lt
  go_wp2
  have ho6 := HO.out.set_ 8 (.int .i64 z)
  have hr6 := HR.out.far (p := ⟨gb, 8, none⟩) (u := .int .i64 z) (by show w.heap.size + 1 ≠ gb; omega)
  have hm6 := HM.out.farT HO.out (i := 8) (u := .int .i64 z)
  have hd6 := rdr_set1 (b := gb) (i := 8) (u := .int .i64 z) (by omega) HRD.out
  have hg6 := g_set (b := gb) (i := 8) (u := .int .i64 z) (by omega) HGR.out
  generalize hW6 : w5.setCell ⟨gb, 8, none⟩ (.int .i64 z) = w6 at ho6 hr6 hm6 hd6 hg6 ⊢
  have hm7 : MaM B w6 (.slice A1 m.t.bs.length c1) (.slice A2 m.t.fs.length c2) (.slice A3 m.c.ls.length c3) (.slice A4 m.g.os.length c4) ⟨m.t, m.c, m.g, z⟩ := ⟨hm6.t, hm6.l, hm6.o⟩
  clear HO HR HM HRD HGR
  have HR := Hd hr6
  have HM := Hd hm7
  have HRD := Hd hd6
  have HGR := Hd hg6
  have o3 := HR.out.set9 (.slice A1 m.t.bs.length c1) (.slice A2 m.t.fs.length c2) (.slice A3 m.c.ls.length c3) (.int .i64 (⟨m.t, m.c, m.g, z⟩ : Ma).c.hand) (.int .i64 (⟨m.t, m.c, m.g, z⟩ : Ma).g.count) (.int .i64 (⟨m.t, m.c, m.g, z⟩ : Ma).g.next) (.int .i64 (⟨m.t, m.c, m.g, z⟩ : Ma).g.round) (.slice A4 m.g.os.length c4) (.int .i64 (⟨m.t, m.c, m.g, z⟩ : Ma).sp)
  obtain ⟨p0t, p1t, p2t, p3t, p4t, p5t, p6t, p7t, p8t⟩ := cells9 o3
  refine bodyPost_ret (v := .agg #[.slice A1 m.t.bs.length c1, .slice A2 m.t.fs.length c2, .slice A3 m.c.ls.length c3, .int .i64 (⟨m.t, m.c, m.g, z⟩ : Ma).c.hand, .int .i64 (⟨m.t, m.c, m.g, z⟩ : Ma).g.count, .int .i64 (⟨m.t, m.c, m.g, z⟩ : Ma).g.next, .int .i64 (⟨m.t, m.c, m.g, z⟩ : Ma).g.round, .slice A4 m.g.os.length c4, .int .i64 (⟨m.t, m.c, m.g, z⟩ : Ma).sp]) (by simp [results, Tryz.results93, go_sem, p0t, p1t, p2t, p3t, p4t, p5t, p6t, p7t, p8t]) rfl ⟨_, rfl, (⟨m.t, m.c, m.g, z⟩ : Ma), _, _, _, _, (q + 1 + 1), rfl, HM.out.far9 HR.out _ _ _ _ _ _ _ _ _, HZ.out, ?_, ?_, ?_⟩
  ·repeat (refine rdr_set1 (by omega) ?_)
   exact HRD.out
  ·omega
  ·repeat (refine g_set (by omega) ?_)
   exact HGR.out
 have e0 : (x == 0) = false := by rw [beq_eq_false_iff_ne]; exact hx
 clear hx
 by_cases hx : x = 1
 ·have e1 : (x == 1) = true := by rw [beq_iff_eq]; exact hx
  clear hx
  obtain ⟨p0a, p1a, p2a, p3a, p4a, p5a, p6a, p7a, p8a⟩ := cells9 HO.out
  go_wp2_with fail
  refine (l4Wrong_any B g (q + 1) _ m.c w3 HRD.out (by omega) HM.out.l (by omega) (by omega)).mono ?_
  rintro e w4 ⟨_, rfl, d, v1, p4, rfl, hS4, hl4, hrd, hp4, hg⟩
  clear p0a p1a p2a p3a p4a p5a p6a p7a p8a
  have ho4 := own_gr HO.out hg (by omega)
  have hr4 := own_gr HR.out hg (by omega)
  have hm4 := HM.out.gr HRD.out hg
  have hgr4 := gT HGR.out hg
  clear HO HR HM HRD HGR
  have HO := Hd ho4
  have HR := Hd hr4
  have HM := Hd hm4
  have HRD := Hd hrd
  have HGR := Hd hgr4
  clear ho4 hr4 hm4 hgr4 hrd hg
  have HS := Hd hS4
  clear hS4
  have hs4 : w.heap.size ≤ w4.heap.size := HGR.out.size
  go_wp2_with fail
  refine (l4Wrong_any B g p4 _ d w4 HRD.out (by omega) HS.out (by omega) (by omega)).mono ?_
  rintro e w5 ⟨_, rfl, d2, v2, p5, rfl, hS5, hl5, hrd, hp5, hg⟩
  have ho5 := own_gr HO.out hg (by omega)
  have hr5 := own_gr HR.out hg (by omega)
  have hm5 := HM.out.gr HRD.out hg
  have hgr5 := gT HGR.out hg
  clear HO HR HM HRD HGR
  have HO := Hd ho5
  have HR := Hd hr5
  have HM := Hd hm5
  have HRD := Hd hrd
  have HGR := Hd hgr5
  clear ho5 hr5 hm5 hgr5 hrd hg
  obtain ⟨E3, n3, rfl, _⟩ := id hS5
  clear HS
  have HZ : Hid (Sz (k + 2) ⟨m.t, d2, m.g, m.sp⟩) := ⟨HZK.out.b1, Nat.le_trans HZK.out.b (Nat.le_add_right _ _), Nat.le_trans HZK.out.f (Nat.le_add_right _ _), Nat.le_trans hl5 (Nat.le_trans hl4 (Nat.le_trans HZK.out.l (Nat.le_add_right _ _))), Nat.le_trans HZK.out.o (Nat.le_add_right _ _)⟩
  have hm5 : MaM B w5 (.slice A1 m.t.bs.length c1) (.slice A2 m.t.fs.length c2) (.slice E3 d2.ls.length n3) (.slice A4 m.g.os.length c4) ⟨m.t, d2, m.g, m.sp⟩ := ⟨HM.out.t, hS5, HM.out.o⟩
  clear HM hS5
  have HM := Hd hm5
  clear hm5
  obtain ⟨r0x, r1x, r2x, r3x, r4x, r5x, r6x, r7x, r8x⟩ := cells9 HR.out
  obtain ⟨z0x, z1x, z2x, z3x, z4x, z5x, z6x, z7x, z8x⟩ := free9 HR.out
  have hlr := HR.out.lt
  obtain ⟨p0o, p1o, p2o, p3o, p4o, p5o, p6o, p7o, p8o⟩ := cells9 HO.out
  obtain ⟨w0o, w1o, w2o, w3o, w4o, w5o, w6o, w7o, w8o⟩ := free9 HO.out
  have hlo := HO.out.lt
  go_wp2
  have hp := HO.out.set_ 2 (.slice E3 d2.ls.length n3)
  have hr6 := (HR.out.far (p := ⟨gb, 2, none⟩) (u := .slice E3 d2.ls.length n3) (by show w.heap.size + 1 ≠ gb; omega)).far (p := ⟨gb, 3, none⟩) (u := .int .i64 d2.hand) (by show w.heap.size + 1 ≠ gb; omega)
  have hm6 := (HM.out.farT HO.out (i := 2) (u := .slice E3 d2.ls.length n3)).farT hp (i := 3) (u := .int .i64 d2.hand)
  have hd6 := rdr_set1 (b := gb) (i := 3) (u := .int .i64 d2.hand) (by omega) (rdr_set1 (b := gb) (i := 2) (u := .slice E3 d2.ls.length n3) (by omega) HRD.out)
  have hg6 := g_set (b := gb) (i := 3) (u := .int .i64 d2.hand) (by omega) (g_set (b := gb) (i := 2) (u := .slice E3 d2.ls.length n3) (by omega) HGR.out)
  clear hp
  generalize hW6 : (w5.setCell ⟨gb, 2, none⟩ (.slice E3 d2.ls.length n3)).setCell ⟨gb, 3, none⟩ (.int .i64 d2.hand) = w6 at hr6 hm6 hd6 hg6 ⊢
  clear HO HR HM HRD HGR
  have HR := Hd hr6
  have HM := Hd hm6
  have HRD := Hd hd6
  have HGR := Hd hg6
  have o3 := HR.out.set9 (.slice A1 m.t.bs.length c1) (.slice A2 m.t.fs.length c2) (.slice E3 d2.ls.length n3) (.int .i64 (⟨m.t, d2, m.g, m.sp⟩ : Ma).c.hand) (.int .i64 (⟨m.t, d2, m.g, m.sp⟩ : Ma).g.count) (.int .i64 (⟨m.t, d2, m.g, m.sp⟩ : Ma).g.next) (.int .i64 (⟨m.t, d2, m.g, m.sp⟩ : Ma).g.round) (.slice A4 m.g.os.length c4) (.int .i64 (⟨m.t, d2, m.g, m.sp⟩ : Ma).sp)
  obtain ⟨p0t, p1t, p2t, p3t, p4t, p5t, p6t, p7t, p8t⟩ := cells9 o3
  refine bodyPost_ret (v := .agg #[.slice A1 m.t.bs.length c1, .slice A2 m.t.fs.length c2, .slice E3 d2.ls.length n3, .int .i64 (⟨m.t, d2, m.g, m.sp⟩ : Ma).c.hand, .int .i64 (⟨m.t, d2, m.g, m.sp⟩ : Ma).g.count, .int .i64 (⟨m.t, d2, m.g, m.sp⟩ : Ma).g.next, .int .i64 (⟨m.t, d2, m.g, m.sp⟩ : Ma).g.round, .slice A4 m.g.os.length c4, .int .i64 (⟨m.t, d2, m.g, m.sp⟩ : Ma).sp]) (by simp [results, Tryz.results93, go_sem, p0t, p1t, p2t, p3t, p4t, p5t, p6t, p7t, p8t]) rfl ⟨_, rfl, (⟨m.t, d2, m.g, m.sp⟩ : Ma), _, _, _, _, p5, rfl, HM.out.far9 HR.out _ _ _ _ _ _ _ _ _, HZ.out, ?_, ?_, ?_⟩
  ·repeat (refine rdr_set1 (by omega) ?_)
   exact HRD.out
  ·omega
  ·repeat (refine g_set (by omega) ?_)
   exact HGR.out
 have e1 : (x == 1) = false := by rw [beq_eq_false_iff_ne]; exact hx
 clear hx
 by_cases hx : x = 2
 ·have e2 : (x == 2) = true := by rw [beq_iff_eq]; exact hx
  clear hx
  obtain ⟨p0a, p1a, p2a, p3a, p4a, p5a, p6a, p7a, p8a⟩ := cells9 HO.out
  go_wp2_with fail
  refine (l3Wrong_any B g (q + 1) _ _ m.t w3 HRD.out (by omega) HM.out.t (by omega) (by omega) (by omega) (by omega)).mono ?_
  rintro e w4 ⟨_, rfl, d, v1, v1', p4, rfl, hS4, hb4, hl4, hl4', hrd, hp4, hg⟩
  clear p0a p1a p2a p3a p4a p5a p6a p7a p8a
  have ho4 := own_gr HO.out hg (by omega)
  have hr4 := own_gr HR.out hg (by omega)
  have hm4 := HM.out.gr HRD.out hg
  have hgr4 := gT HGR.out hg
  clear HO HR HM HRD HGR
  have HO := Hd ho4
  have HR := Hd hr4
  have HM := Hd hm4
  have HRD := Hd hrd
  have HGR := Hd hgr4
  clear ho4 hr4 hm4 hgr4 hrd hg
  have HS := Hd hS4
  clear hS4
  have hs4 : w.heap.size ≤ w4.heap.size := HGR.out.size
  go_wp2_with fail
  refine (l3Wrong_any B g p4 _ _ d w4 HRD.out (by omega) HS.out (by omega) (by omega) (by omega) (by omega)).mono ?_
  rintro e w5 ⟨_, rfl, d2, v2, v2', p5, rfl, hS5, hb5, hl5, hl5', hrd, hp5, hg⟩
  have ho5 := own_gr HO.out hg (by omega)
  have hr5 := own_gr HR.out hg (by omega)
  have hm5 := HM.out.gr HRD.out hg
  have hgr5 := gT HGR.out hg
  clear HO HR HM HRD HGR
  have HO := Hd ho5
  have HR := Hd hr5
  have HM := Hd hm5
  have HRD := Hd hrd
  have HGR := Hd hgr5
  clear ho5 hr5 hm5 hgr5 hrd hg
  obtain ⟨E1, n1, rfl, _⟩ := hS5.b
  obtain ⟨E2, n2, rfl, _⟩ := hS5.f
  clear HS
  have HZ : Hid (Sz (k + 2) ⟨d2, m.c, m.g, m.sp⟩) := ⟨hb5, show d2.bs.length ≤ k + 2 by omega, show d2.fs.length ≤ k + 2 by omega, Nat.le_trans HZK.out.l (Nat.le_add_right _ _), Nat.le_trans HZK.out.o (Nat.le_add_right _ _)⟩
  have hm5 : MaM B w5 (.slice E1 d2.bs.length n1) (.slice E2 d2.fs.length n2) (.slice A3 m.c.ls.length c3) (.slice A4 m.g.os.length c4) ⟨d2, m.c, m.g, m.sp⟩ := ⟨hS5, HM.out.l, HM.out.o⟩
  clear HM hS5
  have HM := Hd hm5
  clear hm5
  obtain ⟨r0x, r1x, r2x, r3x, r4x, r5x, r6x, r7x, r8x⟩ := cells9 HR.out
  obtain ⟨z0x, z1x, z2x, z3x, z4x, z5x, z6x, z7x, z8x⟩ := free9 HR.out
  have hlr := HR.out.lt
  obtain ⟨p0o, p1o, p2o, p3o, p4o, p5o, p6o, p7o, p8o⟩ := cells9 HO.out
  obtain ⟨w0o, w1o, w2o, w3o, w4o, w5o, w6o, w7o, w8o⟩ := free9 HO.out
  have hlo := HO.out.lt
  go_wp2
  have hp := HO.out.set_ 0 (.slice E1 d2.bs.length n1)
  have hr6 := (HR.out.far (p := ⟨gb, 0, none⟩) (u := .slice E1 d2.bs.length n1) (by show w.heap.size + 1 ≠ gb; omega)).far (p := ⟨gb, 1, none⟩) (u := .slice E2 d2.fs.length n2) (by show w.heap.size + 1 ≠ gb; omega)
  have hm6 := (HM.out.farT HO.out (i := 0) (u := .slice E1 d2.bs.length n1)).farT hp (i := 1) (u := .slice E2 d2.fs.length n2)
  have hd6 := rdr_set1 (b := gb) (i := 1) (u := .slice E2 d2.fs.length n2) (by omega) (rdr_set1 (b := gb) (i := 0) (u := .slice E1 d2.bs.length n1) (by omega) HRD.out)
  have hg6 := g_set (b := gb) (i := 1) (u := .slice E2 d2.fs.length n2) (by omega) (g_set (b := gb) (i := 0) (u := .slice E1 d2.bs.length n1) (by omega) HGR.out)
  clear hp
  generalize hW6 : (w5.setCell ⟨gb, 0, none⟩ (.slice E1 d2.bs.length n1)).setCell ⟨gb, 1, none⟩ (.slice E2 d2.fs.length n2) = w6 at hr6 hm6 hd6 hg6 ⊢
  clear HO HR HM HRD HGR
  have HR := Hd hr6
  have HM := Hd hm6
  have HRD := Hd hd6
  have HGR := Hd hg6
  have o3 := HR.out.set9 (.slice E1 d2.bs.length n1) (.slice E2 d2.fs.length n2) (.slice A3 m.c.ls.length c3) (.int .i64 (⟨d2, m.c, m.g, m.sp⟩ : Ma).c.hand) (.int .i64 (⟨d2, m.c, m.g, m.sp⟩ : Ma).g.count) (.int .i64 (⟨d2, m.c, m.g, m.sp⟩ : Ma).g.next) (.int .i64 (⟨d2, m.c, m.g, m.sp⟩ : Ma).g.round) (.slice A4 m.g.os.length c4) (.int .i64 (⟨d2, m.c, m.g, m.sp⟩ : Ma).sp)
  obtain ⟨p0t, p1t, p2t, p3t, p4t, p5t, p6t, p7t, p8t⟩ := cells9 o3
  refine bodyPost_ret (v := .agg #[.slice E1 d2.bs.length n1, .slice E2 d2.fs.length n2, .slice A3 m.c.ls.length c3, .int .i64 (⟨d2, m.c, m.g, m.sp⟩ : Ma).c.hand, .int .i64 (⟨d2, m.c, m.g, m.sp⟩ : Ma).g.count, .int .i64 (⟨d2, m.c, m.g, m.sp⟩ : Ma).g.next, .int .i64 (⟨d2, m.c, m.g, m.sp⟩ : Ma).g.round, .slice A4 m.g.os.length c4, .int .i64 (⟨d2, m.c, m.g, m.sp⟩ : Ma).sp]) (by simp [results, Tryz.results93, go_sem, p0t, p1t, p2t, p3t, p4t, p5t, p6t, p7t, p8t]) rfl ⟨_, rfl, (⟨d2, m.c, m.g, m.sp⟩ : Ma), _, _, _, _, p5, rfl, HM.out.far9 HR.out _ _ _ _ _ _ _ _ _, HZ.out, ?_, ?_, ?_⟩
  ·repeat (refine rdr_set1 (by omega) ?_)
   exact HRD.out
  ·omega
  ·repeat (refine g_set (by omega) ?_)
   exact HGR.out
 have e2 : (x == 2) = false := by rw [beq_eq_false_iff_ne]; exact hx
 clear hx
 by_cases hx : x = 3
 ·have e3 : (x == 3) = true := by rw [beq_iff_eq]; exact hx
  clear hx
  obtain ⟨p0a, p1a, p2a, p3a, p4a, p5a, p6a, p7a, p8a⟩ := cells9 HO.out
  go_wp2_with fail
  refine (l5Wrong_any B g (q + 1) _ m.g w3 HRD.out (by omega) HM.out.o (by omega) (by omega)).mono ?_
  rintro e w4 ⟨_, rfl, d, v1, p4, rfl, hS4, hl4, hrd, hp4, hg⟩
  clear p0a p1a p2a p3a p4a p5a p6a p7a p8a
  have ho4 := own_gr HO.out hg (by omega)
  have hr4 := own_gr HR.out hg (by omega)
  have hm4 := HM.out.gr HRD.out hg
  have hgr4 := gT HGR.out hg
  clear HO HR HM HRD HGR
  have HO := Hd ho4
  have HR := Hd hr4
  have HM := Hd hm4
  have HRD := Hd hrd
  have HGR := Hd hgr4
  clear ho4 hr4 hm4 hgr4 hrd hg
  have HS := Hd hS4
  clear hS4
  have hs4 : w.heap.size ≤ w4.heap.size := HGR.out.size
  go_wp2_with fail
  refine (l5Wrong_any B g p4 _ d w4 HRD.out (by omega) HS.out (by omega) (by omega)).mono ?_
  rintro e w5 ⟨_, rfl, d2, v2, p5, rfl, hS5, hl5, hrd, hp5, hg⟩
  have ho5 := own_gr HO.out hg (by omega)
  have hr5 := own_gr HR.out hg (by omega)
  have hm5 := HM.out.gr HRD.out hg
  have hgr5 := gT HGR.out hg
  clear HO HR HM HRD HGR
  have HO := Hd ho5
  have HR := Hd hr5
  have HM := Hd hm5
  have HRD := Hd hrd
  have HGR := Hd hgr5
  clear ho5 hr5 hm5 hgr5 hrd hg
  obtain ⟨E4, n4, rfl, _⟩ := id hS5
  clear HS
  have HZ : Hid (Sz (k + 2) ⟨m.t, m.c, d2, m.sp⟩) := ⟨HZK.out.b1, Nat.le_trans HZK.out.b (Nat.le_add_right _ _), Nat.le_trans HZK.out.f (Nat.le_add_right _ _), Nat.le_trans HZK.out.l (Nat.le_add_right _ _), show d2.os.length ≤ k + 2 by omega⟩
  have hm5 : MaM B w5 (.slice A1 m.t.bs.length c1) (.slice A2 m.t.fs.length c2) (.slice A3 m.c.ls.length c3) (.slice E4 d2.os.length n4) ⟨m.t, m.c, d2, m.sp⟩ := ⟨HM.out.t, HM.out.l, hS5⟩
  clear HM hS5
  have HM := Hd hm5
  clear hm5
  obtain ⟨r0x, r1x, r2x, r3x, r4x, r5x, r6x, r7x, r8x⟩ := cells9 HR.out
  obtain ⟨z0x, z1x, z2x, z3x, z4x, z5x, z6x, z7x, z8x⟩ := free9 HR.out
  have hlr := HR.out.lt
  obtain ⟨p0o, p1o, p2o, p3o, p4o, p5o, p6o, p7o, p8o⟩ := cells9 HO.out
  obtain ⟨w0o, w1o, w2o, w3o, w4o, w5o, w6o, w7o, w8o⟩ := free9 HO.out
  have hlo := HO.out.lt
  go_wp2
  have h1 := HO.out.set_ 4 (.int .i64 d2.count)
  have h2 := h1.set_ 5 (.int .i64 d2.next)
  have h3 := h2.set_ 6 (.int .i64 d2.round)
  have hr6 := (((HR.out.far (p := ⟨gb, 4, none⟩) (u := .int .i64 d2.count) (by show w.heap.size + 1 ≠ gb; omega)).far (p := ⟨gb, 5, none⟩) (u := .int .i64 d2.next) (by show w.heap.size + 1 ≠ gb; omega)).far (p := ⟨gb, 6, none⟩) (u := .int .i64 d2.round) (by show w.heap.size + 1 ≠ gb; omega)).far (p := ⟨gb, 7, none⟩) (u := .slice E4 d2.os.length n4) (by show w.heap.size + 1 ≠ gb; omega)
  have hm6 := (((HM.out.farT HO.out (i := 4) (u := .int .i64 d2.count)).farT h1 (i := 5) (u := .int .i64 d2.next)).farT h2 (i := 6) (u := .int .i64 d2.round)).farT h3 (i := 7) (u := .slice E4 d2.os.length n4)
  have hd6 := rdr_set1 (b := gb) (i := 7) (u := .slice E4 d2.os.length n4) (by omega) (rdr_set1 (b := gb) (i := 6) (u := .int .i64 d2.round) (by omega) (rdr_set1 (b := gb) (i := 5) (u := .int .i64 d2.next) (by omega) (rdr_set1 (b := gb) (i := 4) (u := .int .i64 d2.count) (by omega) HRD.out)))
  have hg6 := g_set (b := gb) (i := 7) (u := .slice E4 d2.os.length n4) (by omega) (g_set (b := gb) (i := 6) (u := .int .i64 d2.round) (by omega) (g_set (b := gb) (i := 5) (u := .int .i64 d2.next) (by omega) (g_set (b := gb) (i := 4) (u := .int .i64 d2.count) (by omega) HGR.out)))
  clear h1 h2 h3
  generalize hW6 : (((w5.setCell ⟨gb, 4, none⟩ (.int .i64 d2.count)).setCell ⟨gb, 5, none⟩ (.int .i64 d2.next)).setCell ⟨gb, 6, none⟩ (.int .i64 d2.round)).setCell ⟨gb, 7, none⟩ (.slice E4 d2.os.length n4) = w6 at hr6 hm6 hd6 hg6 ⊢
  clear HO HR HM HRD HGR
  have HR := Hd hr6
  have HM := Hd hm6
  have HRD := Hd hd6
  have HGR := Hd hg6
  have o3 := HR.out.set9 (.slice A1 m.t.bs.length c1) (.slice A2 m.t.fs.length c2) (.slice A3 m.c.ls.length c3) (.int .i64 (⟨m.t, m.c, d2, m.sp⟩ : Ma).c.hand) (.int .i64 (⟨m.t, m.c, d2, m.sp⟩ : Ma).g.count) (.int .i64 (⟨m.t, m.c, d2, m.sp⟩ : Ma).g.next) (.int .i64 (⟨m.t, m.c, d2, m.sp⟩ : Ma).g.round) (.slice E4 d2.os.length n4) (.int .i64 (⟨m.t, m.c, d2, m.sp⟩ : Ma).sp)
  obtain ⟨p0t, p1t, p2t, p3t, p4t, p5t, p6t, p7t, p8t⟩ := cells9 o3
  refine bodyPost_ret (v := .agg #[.slice A1 m.t.bs.length c1, .slice A2 m.t.fs.length c2, .slice A3 m.c.ls.length c3, .int .i64 (⟨m.t, m.c, d2, m.sp⟩ : Ma).c.hand, .int .i64 (⟨m.t, m.c, d2, m.sp⟩ : Ma).g.count, .int .i64 (⟨m.t, m.c, d2, m.sp⟩ : Ma).g.next, .int .i64 (⟨m.t, m.c, d2, m.sp⟩ : Ma).g.round, .slice E4 d2.os.length n4, .int .i64 (⟨m.t, m.c, d2, m.sp⟩ : Ma).sp]) (by simp [results, Tryz.results93, go_sem, p0t, p1t, p2t, p3t, p4t, p5t, p6t, p7t, p8t]) rfl ⟨_, rfl, (⟨m.t, m.c, d2, m.sp⟩ : Ma), _, _, _, _, p5, rfl, HM.out.far9 HR.out _ _ _ _ _ _ _ _ _, HZ.out, ?_, ?_, ?_⟩
  ·repeat (refine rdr_set1 (by omega) ?_)
   exact HRD.out
  ·omega
  ·repeat (refine g_set (by omega) ?_)
   exact HGR.out
 have e3 : (x == 3) = false := by rw [beq_eq_false_iff_ne]; exact hx
 clear hx
 have HZ := Hd (HZK.out.up (show k ≤ k + 2 by omega))
 obtain ⟨r0x, r1x, r2x, r3x, r4x, r5x, r6x, r7x, r8x⟩ := cells9 HR.out
 obtain ⟨z0x, z1x, z2x, z3x, z4x, z5x, z6x, z7x, z8x⟩ := free9 HR.out
 have hlr := HR.out.lt
 obtain ⟨p0o, p1o, p2o, p3o, p4o, p5o, p6o, p7o, p8o⟩ := cells9 HO.out
 obtain ⟨w0o, w1o, w2o, w3o, w4o, w5o, w6o, w7o, w8o⟩ := free9 HO.out
 have hlo := HO.out.lt
 go_wp2
 have o3 := HR.out.set9 (.slice A1 m.t.bs.length c1) (.slice A2 m.t.fs.length c2) (.slice A3 m.c.ls.length c3) (.int .i64 m.c.hand) (.int .i64 m.g.count) (.int .i64 m.g.next) (.int .i64 m.g.round) (.slice A4 m.g.os.length c4) (.int .i64 m.sp)
 obtain ⟨p0t, p1t, p2t, p3t, p4t, p5t, p6t, p7t, p8t⟩ := cells9 o3
 refine bodyPost_ret (v := .agg #[.slice A1 m.t.bs.length c1, .slice A2 m.t.fs.length c2, .slice A3 m.c.ls.length c3, .int .i64 m.c.hand, .int .i64 m.g.count, .int .i64 m.g.next, .int .i64 m.g.round, .slice A4 m.g.os.length c4, .int .i64 m.sp]) (by simp [results, Tryz.results93, go_sem, p0t, p1t, p2t, p3t, p4t, p5t, p6t, p7t, p8t]) rfl ⟨_, rfl, m, _, _, _, _, (q + 1), rfl, HM.out.far9 HR.out _ _ _ _ _ _ _ _ _, HZ.out, ?_, ?_, ?_⟩
 ·repeat (refine rdr_set1 (by omega) ?_)
  exact HRD.out
 ·omega
 ·repeat (refine g_set (by omega) ?_)
  exact HGR.out
end Go.Proofs.YtibpnlojlfcpmaaGreatDoor
