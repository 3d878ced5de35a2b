/- A part of the proofs of this seat: Cp6, McI. -/
import Derived.Test.YtibpnlojlfcpmaaGreatDoorBMaI
import Derived.Test.YtibpnlojlfcpmaaGreatDoorBCpS
set_option linter.unusedVariables false
set_option linter.unusedSimpArgs false
set_option maxRecDepth 1000000
namespace Go.Proofs.YtibpnlojlfcpmaaGreatDoor
open Go.RowKit
set_option maxHeartbeats 4000000 in
theorem l6Copy_any (vb vf vl vo : Value) (m : Ma) (w : World) (hM : MaR w vb vf vl vo m) (h1 : m.t.bs.length ≤ 1048576) (h2 : m.t.fs.length ≤ 1048576) (h3 : m.c.ls.length ≤ 1048576) (h4 : m.g.os.length ≤ 1048576) :
    Calls Tryz.prog 85 #[.agg #[vb, vf, vl, .int .i64 m.c.hand, .int .i64 m.g.count, .int .i64 m.g.next, .int .i64 m.g.round, vo, .int .i64 m.sp]] w (Post2 fun v w' => ∃ v1 v2 v3 v4, v = .agg #[v1, v2, v3, .int .i64 m.c.hand, .int .i64 m.g.count, .int .i64 m.g.next, .int .i64 m.g.round, v4, .int .i64 m.sp] ∧ MaM w.heap.size w' v1 v2 v3 v4 m ∧ Below w.heap.size w w') := by
  obtain ⟨W0, hW, hbx, hbo, hb0, hs0⟩ := box2 w #[vb, vf, vl, .int .i64 m.c.hand, .int .i64 m.g.count, .int .i64 m.g.next, .int .i64 m.g.round, vo, .int .i64 m.sp] 48 #[.slice none 0 0, .slice none 0 0, .slice none 0 0, .int .i64 0, .int .i64 0, .int .i64 0, .int .i64 0, .slice none 0 0, .int .i64 0] 48
  obtain ⟨m0q, m1q, m2q, m3q, m4q, m5q, m6q, m7q, m8q⟩ := cells9 hbx
  have HX0 := Hd hbx
  have HO0 := Hd hbo
  have HB0 := Hd hb0
  have HM := Hd hM
  clear hbx hbo hb0 hM
  go_enter Tryz.func85, Tryz.ntmps85
  go_wp2
  go_region_held_law (fun w' => w'.cell? ⟨w.heap.size, 0, none⟩ = some vb ∧ w'.cell? ⟨w.heap.size, 1, none⟩ = some vf ∧ w'.cell? ⟨w.heap.size, 2, none⟩ = some vl ∧ w'.cell? ⟨w.heap.size, 3, none⟩ = some (.int .i64 m.c.hand) ∧ w'.cell? ⟨w.heap.size, 4, none⟩ = some (.int .i64 m.g.count) ∧ w'.cell? ⟨w.heap.size, 5, none⟩ = some (.int .i64 m.g.next) ∧ w'.cell? ⟨w.heap.size, 6, none⟩ = some (.int .i64 m.g.round) ∧ w'.cell? ⟨w.heap.size, 7, none⟩ = some vo ∧ w'.cell? ⟨w.heap.size, 8, none⟩ = some (.int .i64 m.sp)) (go_keep) (first
    | (refine step_call rfl ?_ (l3Copy_any vb vf m.t _ (HM.out.t.now (bD HB0.out)) h1 h2) ?_
       go_simp
       rintro _ w1 ⟨a1, a2, rfl, hT1, hb1⟩
       have HB1 := Hd (bT (bD HB0.out) hb1)
       have hx1 := HX0.out.drew.below hb1
       have HO1 := Hd (HO0.out.drew.below hb1)
       have hs1 : w.heap.size + 2 ≤ w1.heap.size := Nat.le_trans (Nat.le_of_eq hs0.symm) hb1.size
       obtain ⟨m0d, m1d, m2d, m3d, m4d, m5d, m6d, m7d, m8d⟩ := cells9 hx1
       have HX1 := Hd hx1
       have HT1 := Hd (hT1.mono (B' := w.heap.size + 2) (Nat.le_of_eq hs0.symm))
       clear hx1 hT1 hb1)
    | (refine step_call rfl ?_ (l4Copy_any vl m.c _ (HM.out.l.now HB1.out) h3) ?_
       go_simp
       rintro _ w2 ⟨a3, rfl, hL2, hb2⟩
       have HB2 := Hd (bT HB1.out hb2)
       have hx2 := HX1.out.below hb2
       have HO2 := Hd (HO1.out.below hb2)
       have HT2 := Hd (HT1.out.now hb2)
       have hs2 : w.heap.size + 2 ≤ w2.heap.size := Nat.le_trans hs1 hb2.size
       obtain ⟨m0e, m1e, m2e, m3e, m4e, m5e, m6e, m7e, m8e⟩ := cells9 hx2
       have HX2 := Hd hx2
       have HL2 := Hd (hL2.mono (base' := w.heap.size + 2) hs1)
       clear hx2 hL2 hb2 m0d m1d m2d m3d m4d m5d m6d m7d m8d)
    | (refine step_call rfl ?_ (l5Copy_any vo m.g _ (HM.out.o.now HB2.out) h4) ?_
       go_simp
       rintro _ w3 ⟨a4, rfl, hO3, hb3⟩
       have HB3 := Hd (bT HB2.out hb3)
       have hx3 := HX2.out.below hb3
       have ho3 := HO2.out.below hb3
       have HM3 : Hid (MaM (w.heap.size + 2) w3 a1 a2 a3 a4 m) := ⟨HT2.out.now hb3, HL2.out.now hb3, hO3.mono hs2⟩
       obtain ⟨m0f, m1f, m2f, m3f, m4f, m5f, m6f, m7f, m8f⟩ := cells9 hx3
       obtain ⟨r0x, r1x, r2x, r3x, r4x, r5x, r6x, r7x, r8x⟩ := cells9 ho3
       obtain ⟨z0x, z1x, z2x, z3x, z4x, z5x, z6x, z7x, z8x⟩ := free9 ho3
       have HO3 := Hd ho3
       obtain ⟨A1, c1, rfl, _⟩ := HM3.out.t.b
       obtain ⟨A2, c2, rfl, _⟩ := HM3.out.t.f
       obtain ⟨A3, c3, rfl, _⟩ := HM3.out.l
       obtain ⟨A4, c4, rfl, _⟩ := HM3.out.o
       clear hx3 ho3 hO3 hb3 m0e m1e m2e m3e m4e m5e m6e m7e m8e))
  all_goals
    go_wp2
    have o3 := ((((((((HO3.out.set_ 0 (.slice A1 m.t.bs.length c1)).set_ 1 (.slice A2 m.t.fs.length c2)).set_ 2 (.slice A3 m.c.ls.length c3)).set_ 3 (.int .i64 m.c.hand)).set_ 4 (.int .i64 m.g.count)).set_ 5 (.int .i64 m.g.next)).set_ 6 (.int .i64 m.g.round)).set_ 7 (.slice A4 m.g.os.length c4)).set_ 8 (.int .i64 m.sp)
    have t0 := o3.cell_ 0 (v := .slice A1 m.t.bs.length c1) (by simp)
    have t1 := o3.cell_ 1 (v := .slice A2 m.t.fs.length c2) (by simp)
    have t2 := o3.cell_ 2 (v := .slice A3 m.c.ls.length c3) (by simp)
    have t3 := o3.cell_ 3 (v := .int .i64 m.c.hand) (by simp)
    have t4 := o3.cell_ 4 (v := .int .i64 m.g.count) (by simp)
    have t5 := o3.cell_ 5 (v := .int .i64 m.g.next) (by simp)
    have t6 := o3.cell_ 6 (v := .int .i64 m.g.round) (by simp)
    have t7 := o3.cell_ 7 (v := .slice A4 m.g.os.length c4) (by simp)
    have t8 := o3.cell_ 8 (v := .int .i64 m.sp) (by simp)
    refine bodyPost_ret (v := .agg #[.slice A1 m.t.bs.length c1, .slice A2 m.t.fs.length c2, .slice A3 m.c.ls.length c3, .int .i64 m.c.hand, .int .i64 m.g.count, .int .i64 m.g.next, .int .i64 m.g.round, .slice A4 m.g.os.length c4, .int .i64 m.sp]) (by simp [results, Tryz.results85, go_sem, t0, t1, t2, t3, t4, t5, t6, t7, t8]) rfl ⟨_, rfl, _, _, _, _, rfl, ?_, ?_⟩
    · refine MaM.mono (B := w.heap.size + 2) ?_ (by omega)
      repeat (refine MaM.far ?_ (by show w.heap.size + 1 < w.heap.size + 2; omega))
      exact HM3.out
    · repeat (refine bS ?_ (by simp))
      exact HB3.out
set_option maxHeartbeats 1000000 in
theorem mclone_any (vb vf vl vo : Value) (m : Ma) (w : World) (hM : MaR w vb vf vl vo m) (h1 : m.t.bs.length ≤ 1048576) (h2 : m.t.fs.length ≤ 1048576) (h3 : m.c.ls.length ≤ 1048576) (h4 : m.g.os.length ≤ 1048576) :
  Calls Tryz.prog 83 #[.agg #[vb, vf, vl, .int .i64 m.c.hand, .int .i64 m.g.count, .int .i64 m.g.next, .int .i64 m.g.round, vo, .int .i64 m.sp]] w (Post2 fun v w' => ∃ v1 v2 v3 v4, v = .agg #[v1, v2, v3, .int .i64 m.c.hand, .int .i64 m.g.count, .int .i64 m.g.next, .int .i64 m.g.round, v4, .int .i64 m.sp] ∧ MaM w.heap.size w' v1 v2 v3 v4 m ∧ Below w.heap.size w w') := by
 obtain ⟨W0, hW, hbx, hbo, hb0, hs0⟩ := box2 w #[vb, vf, vl, .int .i64 m.c.hand, .int .i64 m.g.count, .int .i64 m.g.next, .int .i64 m.g.round, vo, .int .i64 m.sp] 48 #[.slice none 0 0, .slice none 0 0, .slice none 0 0, .int .i64 0, .int .i64 0, .int .i64 0, .int .i64 0, .slice none 0 0, .int .i64 0] 48
 obtain ⟨m0q, m1q, m2q, m3q, m4q, m5q, m6q, m7q, m8q⟩ := cells9 hbx
 have HX0 := Hd hbx
 have HO0 := Hd hbo
 have HB0 := Hd hb0
 have HM := Hd hM
 clear hbx hbo hb0 hM
 go_enter Tryz.func83, Tryz.ntmps83
 go_wp2_with fail
 refine (tclone_any vb vf m.t _ (HM.out.t.now HB0.out) h1 h2).mono ?_
 rintro e w1 ⟨a1, a2, rfl, hT1, hb1⟩
 obtain ⟨A1, c1, rfl, hc1, hd1, hm1⟩ := hT1.b
 obtain ⟨A2, c2, rfl, hc2, hd2, hm2⟩ := hT1.f
 have HB1 := Hd (bT HB0.out hb1)
 have hx1 := HX0.out.below hb1
 have HO1 := Hd (HO0.out.below hb1)
 have hs1 : w.heap.size + 2 ≤ w1.heap.size := Nat.le_trans (Nat.le_of_eq hs0.symm) hb1.size
 obtain ⟨m0d, m1d, m2d, m3d, m4d, m5d, m6d, m7d, m8d⟩ := cells9 hx1
 have y0 := hx1.free 0
 have y1 := hx1.free 1
 have y2 := hx1.free 2
 have y3 := hx1.free 3
 have y7 := hx1.free 7
 have HX1 := Hd hx1
 have HT1 := Hd (hT1.mono (B' := w.heap.size + 2) (Nat.le_of_eq hs0.symm))
 clear hx1 hT1 hb1 m0q m1q m2q m3q m4q m5q m6q m7q m8q hm1 hm2
 have hx2 := (HX1.out.set_ 0 (.slice A1 m.t.bs.length c1)).set_ 1 (.slice A2 m.t.fs.length c2)
 have hb2 : Below w.heap.size w ((w1.setCell ⟨w.heap.size, 0, none⟩ (.slice A1 m.t.bs.length c1)).setCell ⟨w.heap.size, 1, none⟩ (.slice A2 m.t.fs.length c2)) := bS (bS HB1.out (by simp)) (by simp)
 have hT2 := (HT1.out.far (p := ⟨w.heap.size, 0, none⟩) (u := .slice A1 m.t.bs.length c1) (by show w.heap.size < w.heap.size + 2; omega)).far (p := ⟨w.heap.size, 1, none⟩) (u := .slice A2 m.t.fs.length c2) (by show w.heap.size < w.heap.size + 2; omega)
 have ho2 := (HO1.out.far (p := ⟨w.heap.size, 0, none⟩) (u := .slice A1 m.t.bs.length c1) (by simp)).far (p := ⟨w.heap.size, 1, none⟩) (u := .slice A2 m.t.fs.length c2) (by simp)
 have hs2 : w.heap.size + 2 ≤ ((w1.setCell ⟨w.heap.size, 0, none⟩ (.slice A1 m.t.bs.length c1)).setCell ⟨w.heap.size, 1, none⟩ (.slice A2 m.t.fs.length c2)).heap.size := by simpa using hs1
 generalize hW2 : (w1.setCell ⟨w.heap.size, 0, none⟩ (.slice A1 m.t.bs.length c1)).setCell ⟨w.heap.size, 1, none⟩ (.slice A2 m.t.fs.length c2) = w2 at hx2 hb2 hT2 ho2 hs2
 have hx2b : Own w2 w.heap.size 48 #[.slice A1 m.t.bs.length c1, .slice A2 m.t.fs.length c2, vl, .int .i64 m.c.hand, .int .i64 m.g.count, .int .i64 m.g.next, .int .i64 m.g.round, vo, .int .i64 m.sp] := by simpa using hx2
 have g2 := hx2b.cell_ 2 (v := vl) rfl
 have HX2 := Hd hx2b
 have HB2 := Hd hb2
 have HT2 := Hd hT2
 have HO2 := Hd ho2
 clear hx2 hx2b hb2 hT2 ho2 HX1 HT1 HO1
 go_wp2_with fail
 refine (cloneLine_any vl m.c.ls _ (HM.out.l.now HB2.out) h3).mono ?_
 rintro e w3 ⟨_, rfl, hL3, hb3⟩
 obtain ⟨A3, c3, rfl, hc3, hd3, hm3⟩ := hL3
 have HB3 := Hd (bT HB2.out hb3)
 have HX3 := Hd (HX2.out.below hb3)
 have HO3 := Hd (HO2.out.below hb3)
 have HT3 := Hd (HT2.out.now hb3)
 have hs3 : w.heap.size + 2 ≤ w3.heap.size := Nat.le_trans hs2 hb3.size
 have HL3 : Hid (SlM lnE 129 (w.heap.size + 2) w3 (.slice A3 m.c.ls.length m.c.ls.length) m.c.ls) := slm_of rfl (Nat.le_refl _) (by unfold maxLen; omega) (hm3.mono hs2)
 clear hb3 hm3 m0d m1d m2d m3d m4d m5d m6d m7d m8d y0 y1 y2 y3 y7
 have z7 := HX3.out.cell_ 7 (v := vo) rfl
 have z2 := HX3.out.cell_ 2 (v := vl) rfl
 have f2 := HX3.out.free 2
 go_wp2_with fail
 refine (clipLine_any A3 m.c.ls.length c3 _ hc3).mono ?_
 rintro e _ ⟨rfl, rfl⟩
 have hx4 := HX3.out.set_ 2 (.slice A3 m.c.ls.length m.c.ls.length)
 have hb4 : Below w.heap.size w (w3.setCell ⟨w.heap.size, 2, none⟩ (.slice A3 m.c.ls.length m.c.ls.length)) := bS HB3.out (by simp)
 have hT4 := HT3.out.far (p := ⟨w.heap.size, 2, none⟩) (u := .slice A3 m.c.ls.length m.c.ls.length) (by show w.heap.size < w.heap.size + 2; omega)
 have hL4 := HL3.out.far (p := ⟨w.heap.size, 2, none⟩) (u := .slice A3 m.c.ls.length m.c.ls.length) (by show w.heap.size < w.heap.size + 2; omega)
 have ho4 := HO3.out.far (p := ⟨w.heap.size, 2, none⟩) (u := .slice A3 m.c.ls.length m.c.ls.length) (by simp)
 have hs4 : w.heap.size + 2 ≤ (w3.setCell ⟨w.heap.size, 2, none⟩ (.slice A3 m.c.ls.length m.c.ls.length)).heap.size := by simpa using hs3
 generalize hW4 : w3.setCell ⟨w.heap.size, 2, none⟩ (.slice A3 m.c.ls.length m.c.ls.length) = w4 at hx4 hb4 hT4 hL4 ho4 hs4
 have hx4b : Own w4 w.heap.size 48 #[.slice A1 m.t.bs.length c1, .slice A2 m.t.fs.length c2, .slice A3 m.c.ls.length m.c.ls.length, .int .i64 m.c.hand, .int .i64 m.g.count, .int .i64 m.g.next, .int .i64 m.g.round, vo, .int .i64 m.sp] := by simpa using hx4
 have HX4 := Hd hx4b
 have HB4 := Hd hb4
 have HT4 := Hd hT4
 have HL4 := Hd hL4
 have HO4 := Hd ho4
 clear hx4 hx4b hb4 hT4 hL4 ho4 HX3 HT3 HO3 HL3
 have v7 := HX4.out.cell_ 7 (v := vo) rfl
 go_wp2_with fail
 refine (cloneOwn_any vo m.g.os _ (HM.out.o.now HB4.out) h4).mono ?_
 rintro e w5 ⟨_, rfl, hO5, hb5⟩
 obtain ⟨A4, c4, rfl, hc4, hd4, hm4⟩ := hO5
 have HB5 := Hd (bT HB4.out hb5)
 have hx5 := HX4.out.below hb5
 have ho5 := HO4.out.below hb5
 have HM5 : Hid (MaM (w.heap.size + 2) w5 (.slice A1 m.t.bs.length c1) (.slice A2 m.t.fs.length c2) (.slice A3 m.c.ls.length m.c.ls.length) (.slice A4 m.g.os.length m.g.os.length) m) := ⟨HT4.out.now hb5, HL4.out.now hb5, slm_of rfl (Nat.le_refl _) (by unfold maxLen; omega) (hm4.mono hs4)⟩
 clear hb5 hm4 z7 z2 f2 v7
 have u7 := hx5.cell_ 7 (v := vo) rfl
 have u0 := hx5.cell_ 0 (v := .slice A1 m.t.bs.length c1) rfl
 have u1 := hx5.cell_ 1 (v := .slice A2 m.t.fs.length c2) rfl
 have u2 := hx5.cell_ 2 (v := .slice A3 m.c.ls.length m.c.ls.length) rfl
 have u3 := hx5.cell_ 3 (v := .int .i64 m.c.hand) rfl
 have u4 := hx5.cell_ 4 (v := .int .i64 m.g.count) rfl
 have u5 := hx5.cell_ 5 (v := .int .i64 m.g.next) rfl
 have u6 := hx5.cell_ 6 (v := .int .i64 m.g.round) rfl
 have u8 := hx5.cell_ 8 (v := .int .i64 m.sp) rfl
 have f7 := hx5.free 7
 obtain ⟨r0x, r1x, r2x, r3x, r4x, r5x, r6x, r7x, r8x⟩ := cells9 ho5
 obtain ⟨z0x, z1x, z2x, z3x, z4x, z5x, z6x, z7x, z8x⟩ := free9 ho5
 have HO5 := Hd ho5
 clear hx5 ho5
 go_wp2_with fail
 refine (clipOwn_any A4 m.g.os.length c4 _ hc4).mono ?_
 rintro e _ ⟨rfl, rfl⟩
 go_wp2
 have o3 := (((((((((HO5.out.far (p := ⟨w.heap.size, 7, none⟩) (u := .slice A4 m.g.os.length m.g.os.length) (by simp)).set_ 0 (.slice A1 m.t.bs.length c1)).set_ 1 (.slice A2 m.t.fs.length c2)).set_ 2 (.slice A3 m.c.ls.length m.c.ls.length)).set_ 3 (.int .i64 m.c.hand)).set_ 4 (.int .i64 m.g.count)).set_ 5 (.int .i64 m.g.next)).set_ 6 (.int .i64 m.g.round)).set_ 7 (.slice A4 m.g.os.length m.g.os.length)).set_ 8 (.int .i64 m.sp)
 have t0 := o3.cell_ 0 (v := .slice A1 m.t.bs.length c1) (by simp)
 have t1 := o3.cell_ 1 (v := .slice A2 m.t.fs.length c2) (by simp)
 have t2 := o3.cell_ 2 (v := .slice A3 m.c.ls.length m.c.ls.length) (by simp)
 have t3 := o3.cell_ 3 (v := .int .i64 m.c.hand) (by simp)
 have t4 := o3.cell_ 4 (v := .int .i64 m.g.count) (by simp)
 have t5 := o3.cell_ 5 (v := .int .i64 m.g.next) (by simp)
 have t6 := o3.cell_ 6 (v := .int .i64 m.g.round) (by simp)
 have t7 := o3.cell_ 7 (v := .slice A4 m.g.os.length m.g.os.length) (by simp)
 have t8 := o3.cell_ 8 (v := .int .i64 m.sp) (by simp)
 refine bodyPost_ret (v := .agg #[.slice A1 m.t.bs.length c1, .slice A2 m.t.fs.length c2, .slice A3 m.c.ls.length m.c.ls.length, .int .i64 m.c.hand, .int .i64 m.g.count, .int .i64 m.g.next, .int .i64 m.g.round, .slice A4 m.g.os.length m.g.os.length, .int .i64 m.sp]) (by simp [results, Tryz.results83, go_sem, t0, t1, t2, t3, t4, t5, t6, t7, t8]) rfl ⟨_, rfl, _, _, _, _, rfl, ?_, ?_⟩
 ·refine MaM.mono (B := w.heap.size + 2) ?_ (by omega)
  repeat (refine MaM.far ?_ (by simp))
  exact HM5.out
 ·repeat (refine bS ?_ (by simp))
  exact HB5.out
end Go.Proofs.YtibpnlojlfcpmaaGreatDoor
