/- A part of the proofs of this seat: Cp6, DrpI, Mark, McI, MvS, Oth, PpI, PrI, RelD. -/
import Derived.Deep.RegionHeldLaw
import Derived.Test.YtibpnlojlfcpmaaGreatDoorAMaI
import Derived.Test.YtibpnlojlfcpmaaGreatDoorAL3F
set_option linter.unusedVariables false
set_option linter.unusedSimpArgs false
set_option maxRecDepth 1000000
namespace Go.Proofs.YtibpnlojlfcpmaaGreatDoor
open Go.RowKit
set_option maxHeartbeats 4000000 in
theorem l6Copy_any (vb vf vl vo : Value) (m : Ma) (w : World) (hM : MaR w vb vf vl vo m) (h1 : m.t.bs.length ≤ 1048576) (h2 : m.t.fs.length ≤ 1048576) (h3 : m.c.ls.length ≤ 1048576) (h4 : m.g.os.length ≤ 1048576) :
    Calls Tryz.prog 85 #[.agg #[vb, vf, vl, .int .i64 m.c.hand, .int .i64 m.g.count, .int .i64 m.g.next, .int .i64 m.g.round, vo, .int .i64 m.sp]] w (Post2 fun v w' => ∃ v1 v2 v3 v4, v = .agg #[v1, v2, v3, .int .i64 m.c.hand, .int .i64 m.g.count, .int .i64 m.g.next, .int .i64 m.g.round, v4, .int .i64 m.sp] ∧ MaM w.heap.size w' v1 v2 v3 v4 m ∧ Below w.heap.size w w') := by
  obtain ⟨W0, hW, hbx, hbo, hb0, hs0⟩ := box2 w #[vb, vf, vl, .int .i64 m.c.hand, .int .i64 m.g.count, .int .i64 m.g.next, .int .i64 m.g.round, vo, .int .i64 m.sp] 48 #[.slice none 0 0, .slice none 0 0, .slice none 0 0, .int .i64 0, .int .i64 0, .int .i64 0, .int .i64 0, .slice none 0 0, .int .i64 0] 48
  obtain ⟨m0q, m1q, m2q, m3q, m4q, m5q, m6q, m7q, m8q⟩ := cells9 hbx
  have HX0 := Hd hbx
  have HO0 := Hd hbo
  have HB0 := Hd hb0
  have HM := Hd hM
  clear hbx hbo hb0 hM
  go_enter Tryz.func85, Tryz.ntmps85
  go_wp2
  go_region_held_law (fun w' => w'.cell? ⟨w.heap.size, 0, none⟩ = some vb ∧ w'.cell? ⟨w.heap.size, 1, none⟩ = some vf ∧ w'.cell? ⟨w.heap.size, 2, none⟩ = some vl ∧ w'.cell? ⟨w.heap.size, 3, none⟩ = some (.int .i64 m.c.hand) ∧ w'.cell? ⟨w.heap.size, 4, none⟩ = some (.int .i64 m.g.count) ∧ w'.cell? ⟨w.heap.size, 5, none⟩ = some (.int .i64 m.g.next) ∧ w'.cell? ⟨w.heap.size, 6, none⟩ = some (.int .i64 m.g.round) ∧ w'.cell? ⟨w.heap.size, 7, none⟩ = some vo ∧ w'.cell? ⟨w.heap.size, 8, none⟩ = some (.int .i64 m.sp)) (go_keep) (first
    | (refine step_call rfl ?_ (l3Copy_any vb vf m.t _ (HM.out.t.now (bD HB0.out)) h1 h2) ?_
       go_simp
       rintro _ w1 ⟨a1, a2, rfl, hT1, hb1⟩
       have HB1 := Hd (bT (bD HB0.out) hb1)
       have hx1 := HX0.out.drew.below hb1
       have HO1 := Hd (HO0.out.drew.below hb1)
       have hs1 : w.heap.size + 2 ≤ w1.heap.size := Nat.le_trans (Nat.le_of_eq hs0.symm) hb1.size
       obtain ⟨m0d, m1d, m2d, m3d, m4d, m5d, m6d, m7d, m8d⟩ := cells9 hx1
       have HX1 := Hd hx1
       have HT1 := Hd (hT1.mono (B' := w.heap.size + 2) (Nat.le_of_eq hs0.symm))
       clear hx1 hT1 hb1)
    | (refine step_call rfl ?_ (l4Copy_any vl m.c _ (HM.out.l.now HB1.out) h3) ?_
       go_simp
       rintro _ w2 ⟨a3, rfl, hL2, hb2⟩
       have HB2 := Hd (bT HB1.out hb2)
       have hx2 := HX1.out.below hb2
       have HO2 := Hd (HO1.out.below hb2)
       have HT2 := Hd (HT1.out.now hb2)
       have hs2 : w.heap.size + 2 ≤ w2.heap.size := Nat.le_trans hs1 hb2.size
       obtain ⟨m0e, m1e, m2e, m3e, m4e, m5e, m6e, m7e, m8e⟩ := cells9 hx2
       have HX2 := Hd hx2
       have HL2 := Hd (hL2.mono (base' := w.heap.size + 2) hs1)
       clear hx2 hL2 hb2 m0d m1d m2d m3d m4d m5d m6d m7d m8d)
    | (refine step_call rfl ?_ (l5Copy_any vo m.g _ (HM.out.o.now HB2.out) h4) ?_
       go_simp
       rintro _ w3 ⟨a4, rfl, hO3, hb3⟩
       have HB3 := Hd (bT HB2.out hb3)
       have hx3 := HX2.out.below hb3
       have ho3 := HO2.out.below hb3
       have HM3 : Hid (MaM (w.heap.size + 2) w3 a1 a2 a3 a4 m) := ⟨HT2.out.now hb3, HL2.out.now hb3, hO3.mono hs2⟩
       obtain ⟨m0f, m1f, m2f, m3f, m4f, m5f, m6f, m7f, m8f⟩ := cells9 hx3
       obtain ⟨r0x, r1x, r2x, r3x, r4x, r5x, r6x, r7x, r8x⟩ := cells9 ho3
       obtain ⟨z0x, z1x, z2x, z3x, z4x, z5x, z6x, z7x, z8x⟩ := free9 ho3
       have HO3 := Hd ho3
       obtain ⟨A1, c1, rfl, _⟩ := HM3.out.t.b
       obtain ⟨A2, c2, rfl, _⟩ := HM3.out.t.f
       obtain ⟨A3, c3, rfl, _⟩ := HM3.out.l
       obtain ⟨A4, c4, rfl, _⟩ := HM3.out.o
       clear hx3 ho3 hO3 hb3 m0e m1e m2e m3e m4e m5e m6e m7e m8e))
  all_goals
    go_wp2
    have o3 := ((((((((HO3.out.set_ 0 (.slice A1 m.t.bs.length c1)).set_ 1 (.slice A2 m.t.fs.length c2)).set_ 2 (.slice A3 m.c.ls.length c3)).set_ 3 (.int .i64 m.c.hand)).set_ 4 (.int .i64 m.g.count)).set_ 5 (.int .i64 m.g.next)).set_ 6 (.int .i64 m.g.round)).set_ 7 (.slice A4 m.g.os.length c4)).set_ 8 (.int .i64 m.sp)
    have t0 := o3.cell_ 0 (v := .slice A1 m.t.bs.length c1) (by simp)
    have t1 := o3.cell_ 1 (v := .slice A2 m.t.fs.length c2) (by simp)
    have t2 := o3.cell_ 2 (v := .slice A3 m.c.ls.length c3) (by simp)
    have t3 := o3.cell_ 3 (v := .int .i64 m.c.hand) (by simp)
    have t4 := o3.cell_ 4 (v := .int .i64 m.g.count) (by simp)
    have t5 := o3.cell_ 5 (v := .int .i64 m.g.next) (by simp)
    have t6 := o3.cell_ 6 (v := .int .i64 m.g.round) (by simp)
    have t7 := o3.cell_ 7 (v := .slice A4 m.g.os.length c4) (by simp)
    have t8 := o3.cell_ 8 (v := .int .i64 m.sp) (by simp)
    refine bodyPost_ret (v := .agg #[.slice A1 m.t.bs.length c1, .slice A2 m.t.fs.length c2, .slice A3 m.c.ls.length c3, .int .i64 m.c.hand, .int .i64 m.g.count, .int .i64 m.g.next, .int .i64 m.g.round, .slice A4 m.g.os.length c4, .int .i64 m.sp]) (by simp [results, Tryz.results85, go_sem, t0, t1, t2, t3, t4, t5, t6, t7, t8]) rfl ⟨_, rfl, _, _, _, _, rfl, ?_, ?_⟩
    · refine MaM.mono (B := w.heap.size + 2) ?_ (by omega)
      repeat (refine MaM.far ?_ (by show w.heap.size + 1 < w.heap.size + 2; omega))
      exact HM3.out
    · repeat (refine bS ?_ (by simp))
      exact HB3.out
set_option maxHeartbeats 1000000 in
theorem mclone_any (vb vf vl vo : Value) (m : Ma) (w : World) (hM : MaR w vb vf vl vo m) (h1 : m.t.bs.length ≤ 1048576) (h2 : m.t.fs.length ≤ 1048576) (h3 : m.c.ls.length ≤ 1048576) (h4 : m.g.os.length ≤ 1048576) :
  Calls Tryz.prog 83 #[.agg #[vb, vf, vl, .int .i64 m.c.hand, .int .i64 m.g.count, .int .i64 m.g.next, .int .i64 m.g.round, vo, .int .i64 m.sp]] w (Post2 fun v w' => ∃ v1 v2 v3 v4, v = .agg #[v1, v2, v3, .int .i64 m.c.hand, .int .i64 m.g.count, .int .i64 m.g.next, .int .i64 m.g.round, v4, .int .i64 m.sp] ∧ MaM w.heap.size w' v1 v2 v3 v4 m ∧ Below w.heap.size w w') := by
 obtain ⟨W0, hW, hbx, hbo, hb0, hs0⟩ := box2 w #[vb, vf, vl, .int .i64 m.c.hand, .int .i64 m.g.count, .int .i64 m.g.next, .int .i64 m.g.round, vo, .int .i64 m.sp] 48 #[.slice none 0 0, .slice none 0 0, .slice none 0 0, .int .i64 0, .int .i64 0, .int .i64 0, .int .i64 0, .slice none 0 0, .int .i64 0] 48
 obtain ⟨m0q, m1q, m2q, m3q, m4q, m5q, m6q, m7q, m8q⟩ := cells9 hbx
 have HX0 := Hd hbx
 have HO0 := Hd hbo
 have HB0 := Hd hb0
 have HM := Hd hM
 clear hbx hbo hb0 hM
 go_enter Tryz.func83, Tryz.ntmps83
 go_wp2_with fail
 refine (tclone_any vb vf m.t _ (HM.out.t.now HB0.out) h1 h2).mono ?_
 rintro e w1 ⟨a1, a2, rfl, hT1, hb1⟩
 obtain ⟨A1, c1, rfl, hc1, hd1, hm1⟩ := hT1.b
 obtain ⟨A2, c2, rfl, hc2, hd2, hm2⟩ := hT1.f
 have HB1 := Hd (bT HB0.out hb1)
 have hx1 := HX0.out.below hb1
 have HO1 := Hd (HO0.out.below hb1)
 have hs1 : w.heap.size + 2 ≤ w1.heap.size := Nat.le_trans (Nat.le_of_eq hs0.symm) hb1.size
 obtain ⟨m0d, m1d, m2d, m3d, m4d, m5d, m6d, m7d, m8d⟩ := cells9 hx1
 have y0 := hx1.free 0
 have y1 := hx1.free 1
 have y2 := hx1.free 2
 have y3 := hx1.free 3
 have y7 := hx1.free 7
 have HX1 := Hd hx1
 have HT1 := Hd (hT1.mono (B' := w.heap.size + 2) (Nat.le_of_eq hs0.symm))
 clear hx1 hT1 hb1 m0q m1q m2q m3q m4q m5q m6q m7q m8q hm1 hm2
 have hx2 := (HX1.out.set_ 0 (.slice A1 m.t.bs.length c1)).set_ 1 (.slice A2 m.t.fs.length c2)
 have hb2 : Below w.heap.size w ((w1.setCell ⟨w.heap.size, 0, none⟩ (.slice A1 m.t.bs.length c1)).setCell ⟨w.heap.size, 1, none⟩ (.slice A2 m.t.fs.length c2)) := bS (bS HB1.out (by simp)) (by simp)
 have hT2 := (HT1.out.far (p := ⟨w.heap.size, 0, none⟩) (u := .slice A1 m.t.bs.length c1) (by show w.heap.size < w.heap.size + 2; omega)).far (p := ⟨w.heap.size, 1, none⟩) (u := .slice A2 m.t.fs.length c2) (by show w.heap.size < w.heap.size + 2; omega)
 have ho2 := (HO1.out.far (p := ⟨w.heap.size, 0, none⟩) (u := .slice A1 m.t.bs.length c1) (by simp)).far (p := ⟨w.heap.size, 1, none⟩) (u := .slice A2 m.t.fs.length c2) (by simp)
 have hs2 : w.heap.size + 2 ≤ ((w1.setCell ⟨w.heap.size, 0, none⟩ (.slice A1 m.t.bs.length c1)).setCell ⟨w.heap.size, 1, none⟩ (.slice A2 m.t.fs.length c2)).heap.size := by simpa using hs1
 generalize hW2 : (w1.setCell ⟨w.heap.size, 0, none⟩ (.slice A1 m.t.bs.length c1)).setCell ⟨w.heap.size, 1, none⟩ (.slice A2 m.t.fs.length c2) = w2 at hx2 hb2 hT2 ho2 hs2
 have hx2b : Own w2 w.heap.size 48 #[.slice A1 m.t.bs.length c1, .slice A2 m.t.fs.length c2, vl, .int .i64 m.c.hand, .int .i64 m.g.count, .int .i64 m.g.next, .int .i64 m.g.round, vo, .int .i64 m.sp] := by simpa using hx2
 have g2 := hx2b.cell_ 2 (v := vl) rfl
 have HX2 := Hd hx2b
 have HB2 := Hd hb2
 have HT2 := Hd hT2
 have HO2 := Hd ho2
 clear hx2 hx2b hb2 hT2 ho2 HX1 HT1 HO1
 go_wp2_with fail
 refine (cloneLine_any vl m.c.ls _ (HM.out.l.now HB2.out) h3).mono ?_
 rintro e w3 ⟨_, rfl, hL3, hb3⟩
 obtain ⟨A3, c3, rfl, hc3, hd3, hm3⟩ := hL3
 have HB3 := Hd (bT HB2.out hb3)
 have HX3 := Hd (HX2.out.below hb3)
 have HO3 := Hd (HO2.out.below hb3)
 have HT3 := Hd (HT2.out.now hb3)
 have hs3 : w.heap.size + 2 ≤ w3.heap.size := Nat.le_trans hs2 hb3.size
 have HL3 : Hid (SlM lnE 129 (w.heap.size + 2) w3 (.slice A3 m.c.ls.length m.c.ls.length) m.c.ls) := slm_of rfl (Nat.le_refl _) (by unfold maxLen; omega) (hm3.mono hs2)
 clear hb3 hm3 m0d m1d m2d m3d m4d m5d m6d m7d m8d y0 y1 y2 y3 y7
 have z7 := HX3.out.cell_ 7 (v := vo) rfl
 have z2 := HX3.out.cell_ 2 (v := vl) rfl
 have f2 := HX3.out.free 2
 go_wp2_with fail
 refine (clipLine_any A3 m.c.ls.length c3 _ hc3).mono ?_
 rintro e _ ⟨rfl, rfl⟩
 have hx4 := HX3.out.set_ 2 (.slice A3 m.c.ls.length m.c.ls.length)
 have hb4 : Below w.heap.size w (w3.setCell ⟨w.heap.size, 2, none⟩ (.slice A3 m.c.ls.length m.c.ls.length)) := bS HB3.out (by simp)
 have hT4 := HT3.out.far (p := ⟨w.heap.size, 2, none⟩) (u := .slice A3 m.c.ls.length m.c.ls.length) (by show w.heap.size < w.heap.size + 2; omega)
 have hL4 := HL3.out.far (p := ⟨w.heap.size, 2, none⟩) (u := .slice A3 m.c.ls.length m.c.ls.length) (by show w.heap.size < w.heap.size + 2; omega)
 have ho4 := HO3.out.far (p := ⟨w.heap.size, 2, none⟩) (u := .slice A3 m.c.ls.length m.c.ls.length) (by simp)
 have hs4 : w.heap.size + 2 ≤ (w3.setCell ⟨w.heap.size, 2, none⟩ (.slice A3 m.c.ls.length m.c.ls.length)).heap.size := by simpa using hs3
 generalize hW4 : w3.setCell ⟨w.heap.size, 2, none⟩ (.slice A3 m.c.ls.length m.c.ls.length) = w4 at hx4 hb4 hT4 hL4 ho4 hs4
 have hx4b : Own w4 w.heap.size 48 #[.slice A1 m.t.bs.length c1, .slice A2 m.t.fs.length c2, .slice A3 m.c.ls.length m.c.ls.length, .int .i64 m.c.hand, .int .i64 m.g.count, .int .i64 m.g.next, .int .i64 m.g.round, vo, .int .i64 m.sp] := by simpa using hx4
 have HX4 := Hd hx4b
 have HB4 := Hd hb4
 have HT4 := Hd hT4
 have HL4 := Hd hL4
 have HO4 := Hd ho4
 clear hx4 hx4b hb4 hT4 hL4 ho4 HX3 HT3 HO3 HL3
 have v7 := HX4.out.cell_ 7 (v := vo) rfl
 go_wp2_with fail
 refine (cloneOwn_any vo m.g.os _ (HM.out.o.now HB4.out) h4).mono ?_
 rintro e w5 ⟨_, rfl, hO5, hb5⟩
 obtain ⟨A4, c4, rfl, hc4, hd4, hm4⟩ := hO5
 have HB5 := Hd (bT HB4.out hb5)
 have hx5 := HX4.out.below hb5
 have ho5 := HO4.out.below hb5
 have HM5 : Hid (MaM (w.heap.size + 2) w5 (.slice A1 m.t.bs.length c1) (.slice A2 m.t.fs.length c2) (.slice A3 m.c.ls.length m.c.ls.length) (.slice A4 m.g.os.length m.g.os.length) m) := ⟨HT4.out.now hb5, HL4.out.now hb5, slm_of rfl (Nat.le_refl _) (by unfold maxLen; omega) (hm4.mono hs4)⟩
 clear hb5 hm4 z7 z2 f2 v7
 have u7 := hx5.cell_ 7 (v := vo) rfl
 have u0 := hx5.cell_ 0 (v := .slice A1 m.t.bs.length c1) rfl
 have u1 := hx5.cell_ 1 (v := .slice A2 m.t.fs.length c2) rfl
 have u2 := hx5.cell_ 2 (v := .slice A3 m.c.ls.length m.c.ls.length) rfl
 have u3 := hx5.cell_ 3 (v := .int .i64 m.c.hand) rfl
 have u4 := hx5.cell_ 4 (v := .int .i64 m.g.count) rfl
 have u5 := hx5.cell_ 5 (v := .int .i64 m.g.next) rfl
 have u6 := hx5.cell_ 6 (v := .int .i64 m.g.round) rfl
 have u8 := hx5.cell_ 8 (v := .int .i64 m.sp) rfl
 have f7 := hx5.free 7
 obtain ⟨r0x, r1x, r2x, r3x, r4x, r5x, r6x, r7x, r8x⟩ := cells9 ho5
 obtain ⟨z0x, z1x, z2x, z3x, z4x, z5x, z6x, z7x, z8x⟩ := free9 ho5
 have HO5 := Hd ho5
 clear hx5 ho5
 go_wp2_with fail
 refine (clipOwn_any A4 m.g.os.length c4 _ hc4).mono ?_
 rintro e _ ⟨rfl, rfl⟩
 go_wp2
 have o3 := (((((((((HO5.out.far (p := ⟨w.heap.size, 7, none⟩) (u := .slice A4 m.g.os.length m.g.os.length) (by simp)).set_ 0 (.slice A1 m.t.bs.length c1)).set_ 1 (.slice A2 m.t.fs.length c2)).set_ 2 (.slice A3 m.c.ls.length m.c.ls.length)).set_ 3 (.int .i64 m.c.hand)).set_ 4 (.int .i64 m.g.count)).set_ 5 (.int .i64 m.g.next)).set_ 6 (.int .i64 m.g.round)).set_ 7 (.slice A4 m.g.os.length m.g.os.length)).set_ 8 (.int .i64 m.sp)
 have t0 := o3.cell_ 0 (v := .slice A1 m.t.bs.length c1) (by simp)
 have t1 := o3.cell_ 1 (v := .slice A2 m.t.fs.length c2) (by simp)
 have t2 := o3.cell_ 2 (v := .slice A3 m.c.ls.length m.c.ls.length) (by simp)
 have t3 := o3.cell_ 3 (v := .int .i64 m.c.hand) (by simp)
 have t4 := o3.cell_ 4 (v := .int .i64 m.g.count) (by simp)
 have t5 := o3.cell_ 5 (v := .int .i64 m.g.next) (by simp)
 have t6 := o3.cell_ 6 (v := .int .i64 m.g.round) (by simp)
 have t7 := o3.cell_ 7 (v := .slice A4 m.g.os.length m.g.os.length) (by simp)
 have t8 := o3.cell_ 8 (v := .int .i64 m.sp) (by simp)
 refine bodyPost_ret (v := .agg #[.slice A1 m.t.bs.length c1, .slice A2 m.t.fs.length c2, .slice A3 m.c.ls.length m.c.ls.length, .int .i64 m.c.hand, .int .i64 m.g.count, .int .i64 m.g.next, .int .i64 m.g.round, .slice A4 m.g.os.length m.g.os.length, .int .i64 m.sp]) (by simp [results, Tryz.results83, go_sem, t0, t1, t2, t3, t4, t5, t6, t7, t8]) rfl ⟨_, rfl, _, _, _, _, rfl, ?_, ?_⟩
 ·refine MaM.mono (B := w.heap.size + 2) ?_ (by omega)
  repeat (refine MaM.far ?_ (by simp))
  exact HM5.out
 ·repeat (refine bS ?_ (by simp))
  exact HB5.out
theorem mav_len {m : Ma} (h : mav m = true) : m.t.bs.length ≤ 1048576 ∧ m.t.fs.length ≤ 1048576 ∧ m.c.ls.length ≤ 1048576 ∧ m.g.os.length ≤ 1048576 := by
 obtain ⟨h1, h2, h3, _⟩ := mav_parts h
 have a := (tv_parts h1).1
 have b := cav_parts h2
 have c := tgv_parts h3
 have d := tok_len c.2 c.1.2.2.1
 omega
set_option maxHeartbeats 4000000 in
theorem sMachineValid_any (vb vf vl vo : Value) (m : Ma) (w : World) (hM : MaR w vb vf vl vo m) :
  Calls Tryz.prog 54 #[.agg #[vb, vf, vl, .int .i64 m.c.hand, .int .i64 m.g.count, .int .i64 m.g.next, .int .i64 m.g.round, vo, .int .i64 m.sp]] w fun r w' => r = .returned (.bool (mav m)) ∧ Below w.heap.size w w' := by
 have HM := Hd hM
 obtain ⟨W0, hW, hbx, hbz, _⟩ := box1 w #[vb, vf, vl, .int .i64 m.c.hand, .int .i64 m.g.count, .int .i64 m.g.next, .int .i64 m.g.round, vo, .int .i64 m.sp] 48
 have HX0 := Hd hbx
 have HB0 := Hd hbz
 clear hbx hbz
 clear hM
 obtain ⟨m00, m10, m20, m30, m40, m50, m60, m70, m80⟩ := cells9 HX0.out
 go_enter Tryz.func54, Tryz.ntmps54
 go_wp2_with fail
 refine (sTableValid_any vb vf m.t _ (HM.out.t.now HB0.out)).mono ?_
 rintro e w1 ⟨rfl, hb1⟩
 have HX1 := Hd (HX0.out.below hb1)
 have HB1 := Hd (bT HB0.out hb1)
 clear hb1
 clear m00 m10 m20 m30 m40 m50 m60 m70 m80
 obtain ⟨m01, m11, m21, m31, m41, m51, m61, m71, m81⟩ := cells9 HX1.out
 cases h1 : tv m.t with
 | false =>
  have HE : Hid (mav m = false) := mav_no fun h => by have := (mav_parts h).1; rw [h1] at this; cases this
  go_wp2
  go_ret
  exact ⟨by rw [HE.out]; rfl, HB1.out⟩
 | true =>
 go_wp2_with fail
 refine (sCacheValid_any vl m.c _ (HM.out.l.now HB1.out)).mono ?_
 rintro e w2 ⟨rfl, hb2⟩
 have HX2 := Hd (HX1.out.below hb2)
 have HB2 := Hd (bT HB1.out hb2)
 clear hb2
 clear m01 m11 m21 m31 m41 m51 m61 m71 m81
 obtain ⟨m02, m12, m22, m32, m42, m52, m62, m72, m82⟩ := cells9 HX2.out
 cases h2 : cav m.c with
 | false =>
  have HE : Hid (mav m = false) := mav_no fun h => by have := (mav_parts h).2.1; rw [h2] at this; cases this
  go_wp2
  go_ret
  exact ⟨by rw [HE.out]; rfl, HB2.out⟩
 | true =>
 go_wp2_with fail
 refine (sTagsValid_any vo m.g _ (HM.out.o.now HB2.out)).mono ?_
 rintro e w3 ⟨rfl, hb3⟩
 have HX3 := Hd (HX2.out.below hb3)
 have HB3 := Hd (bT HB2.out hb3)
 clear hb3
 clear m02 m12 m22 m32 m42 m52 m62 m72 m82
 obtain ⟨m03, m13, m23, m33, m43, m53, m63, m73, m83⟩ := cells9 HX3.out
 cases h3 : tgv m.g with
 | false =>
  have HE : Hid (mav m = false) := mav_no fun h => by have := (mav_parts h).2.2.1; rw [h3] at this; cases this
  go_wp2
  go_ret
  exact ⟨by rw [HE.out]; rfl, HB3.out⟩
 | true =>
 go_wp2_with fail
 refine (l5Find_any vo m.g m.sp _ (HM.out.o.now HB3.out)).mono ?_
 rintro e w4 ⟨rfl, hb4⟩
 have HX4 := Hd (HX3.out.below hb4)
 have HB4 := Hd (bT HB3.out hb4)
 clear hb4
 clear m03 m13 m23 m33 m43 m53 m63 m73 m83
 obtain ⟨m04, m14, m24, m34, m44, m54, m64, m74, m84⟩ := cells9 HX4.out
 by_cases h4 : ownI m.g.os m.sp < 0
 ·have HE : Hid (mav m = false) := mav_no fun h => by have := (mav_parts h).2.2.2.1; omega
  go_wp2
  go_ret
  exact ⟨by rw [HE.out]; rfl, HB4.out⟩
 obtain ⟨Af, cf, rfl, hfc, hfm, hF⟩ := HM.out.t.f
 have hfl : m.t.fs.length ≤ 16 := (tv_parts h1).1.2.1
 have HFS := Hd hF
 clear hF
 go_wp2
 clear m04 m14 m24 m34 m44 m54 m64 m74 m84
 go_loopw [3] (fun u wr => ∃ k : Nat, k ≤ m.t.fs.length ∧ u = .int .i64 k ∧ Hid (All_ frM m.t.fs k) ∧ Below w4.heap.size w4 wr) (fun u _ => m.t.fs.length - (intOf u).toNat)
 case atStart => exact ⟨0, by omega, rfl, all_zero, bR⟩
 case round =>
  obtain ⟨k, hk, rfl, hall, hb5⟩ := hrel
  have hm1 := (HX4.out.below hb5).cell_ 1 (v := .slice Af m.t.fs.length cf) rfl
  have hwl := (HX4.out.below hb5).lt
  by_cases hlt : k < m.t.fs.length
  ·obtain ⟨f, ef⟩ : ∃ f, m.t.fs[k]? = some f := ⟨_, List.getElem?_eq_getElem hlt⟩
   obtain ⟨b, o, rfl, hbb, d0, d1, d2, d3, d4⟩ := (HFS.out.below (bT HB4.out hb5)).fr ef
   have EF := Hd ef
   clear ef
   cases hu : f.used with
   | false =>
    rw [hu] at d0
    have HA := Hd (all_step hall.out EF.out (by unfold frM; rw [hu]; rfl))
    go_wp2
    go_roundw
    case rel => exact ⟨k + 1, by omega, by go_num, HA, bA hb5⟩
    case measure => simp [intOf]; omega
   | true =>
   rw [hu] at d0
   by_cases hp : 128 ≤ f.p
   case neg =>
    have HA := Hd (all_step hall.out EF.out (by unfold frM; rw [decide_eq_false hp]; simp))
    go_wp2
    go_roundw
    case rel => exact ⟨k + 1, by omega, by go_num, HA, bA hb5⟩
    case measure => simp [intOf]; omega
   case pos =>
   by_cases hs : f.s = 0
   case pos =>
    have HA := Hd (all_step hall.out EF.out (by unfold frM; rw [decide_eq_true hs]; simp))
    go_wp2
    go_roundw
    case rel => exact ⟨k + 1, by omega, by go_num, HA, bA hb5⟩
    case measure => simp [intOf]; omega
   case neg =>
    have HE : Hid (mav m = false) := mav_fr EF.out (by unfold frM; rw [hu, decide_eq_true hp, decide_eq_false hs]; rfl)
    go_wp2
    go_ret
    exact ⟨by rw [HE.out]; rfl, bA (bT HB4.out hb5)⟩
  ·obtain rfl : k = m.t.fs.length := by omega
   have HFA := Hd (all_end hall.out)
   clear hall
   obtain ⟨Al, cl, rfl, hlc, hlm, hL⟩ := HM.out.l
   have hll : m.c.ls.length ≤ 8 := (cav_parts h2).2.1
   have HLS := Hd hL
   have HX5 := Hd (HX4.out.below hb5)
   have HB5 := Hd (bT HB4.out hb5)
   clear hL hb5
   go_wp2
   clear hm1 hwl
   obtain ⟨w5, rfl⟩ : ∃ w5, w5 = wr := ⟨_, rfl⟩
   go_loopw [5] (fun u wi => ∃ k : Nat, k ≤ m.c.ls.length ∧ u = .int .i64 k ∧ Hid (All_ (lnM m) m.c.ls k) ∧ Below w5.heap.size w5 wi) (fun u _ => m.c.ls.length - (intOf u).toNat)
   case atStart => exact ⟨0, by omega, rfl, all_zero, bR⟩
   case round =>
    obtain ⟨k, hk, rfl, hall, hb6⟩ := hrel
    have HX6 := Hd (HX5.out.below hb6)
    have hm2 := HX6.out.cell_ 2 (v := .slice Al m.c.ls.length cl) rfl
    by_cases hlt : k < m.c.ls.length
    ·obtain ⟨x, ex⟩ : ∃ x, m.c.ls[k]? = some x := ⟨_, List.getElem?_eq_getElem hlt⟩
     obtain ⟨x', ex', hok, _⟩ := lok_at (cav_parts h2).2.2.2.1 hlt
     rw [ex] at ex'
     injection ex' with ex'
     subst ex'
     obtain ⟨xv, xt, xp, xf, xr, xw⟩ := x
     obtain ⟨b, o, rfl, hbb, d0, d1, d2, d3, d4, d5⟩ := (HLS.out.below (bT HB5.out hb6)).ln ex
     have EX := Hd ex
     have hbl : b < wr.heap.size := by have := (bT HB5.out hb6).size; omega
     have y0 := xcell d0 (by show b < _; exact hbl)
     have y1 := xcell d1 (by show b < _; exact hbl)
     have y2 := xcell d2 (by show b < _; exact hbl)
     have y3 := xcell d3 (by show b < _; exact hbl)
     have y4 := xcell d4 (by show b < _; exact hbl)
     have y5 := xcell d5 (by show b < _; exact hbl)
     have n0 := xcell (HX6.out.cell_ 0 (v := vb) rfl) HX6.out.lt
     have n1 := xcell (HX6.out.cell_ 1 (v := .slice Af m.t.fs.length cf) rfl) HX6.out.lt
     have n2 := xcell (HX6.out.cell_ 2 (v := .slice (some ⟨b, o, none⟩) m.c.ls.length cl) rfl) HX6.out.lt
     have n3 := xcell (HX6.out.cell_ 3 (v := .int .i64 m.c.hand) rfl) HX6.out.lt
     have n4 := xcell (HX6.out.cell_ 4 (v := .int .i64 m.g.count) rfl) HX6.out.lt
     have n5 := xcell (HX6.out.cell_ 5 (v := .int .i64 m.g.next) rfl) HX6.out.lt
     have n6 := xcell (HX6.out.cell_ 6 (v := .int .i64 m.g.round) rfl) HX6.out.lt
     have n7 := xcell (HX6.out.cell_ 7 (v := vo) rfl) HX6.out.lt
     have n8 := xcell (HX6.out.cell_ 8 (v := .int .i64 m.sp) rfl) HX6.out.lt
     have HM6 := Hd (HM.out.now (bT HB5.out hb6))
     clear ex d0 d1 d2 d3 d4 d5
     cases xv with
     | false =>
      have HA := Hd (all_step hall.out EX.out (lnM_inv rfl))
      go_wp2
      refine wp_region_ext (by kernel_rfl) (by kernel_rfl) ?_
      repeat (go_big_quiet_step (fail))
      refine wpQuiet_nil ?_
      intro _ hw'
      obtain ⟨⟨wq, hq⟩, hw''⟩ := hw'
      subst hw''
      try dsimp only
      go_wp2
      go_roundw
      case rel => exact ⟨k + 1, by omega, by go_num, HA, bT hb6 hq⟩
      case measure => simp [intOf]; omega
     | true =>
      have hp256 : inR xp 256 = true := by
       unfold lnok at hok
       simp only [if_true, Bool.and_eq_true] at hok
       exact hok.1.1.2
      have HLN := Hd (fun W (h : MaR W vb (.slice Af m.t.fs.length cf) (.slice (some ⟨b, o, none⟩) m.c.ls.length cl) vo m) => l6Line_any vb (.slice Af m.t.fs.length cf) (.slice (some ⟨b, o, none⟩) m.c.ls.length cl) vo m xt xp xf xr xw W h h1 h3 hp256)
      clear hok hp256
      cases hln : lnM m ⟨true, xt, xp, xf, xr, xw⟩ with
      | true =>
       have HA := Hd (all_step hall.out EX.out hln)
       rw [hln] at HLN
       clear hln
       go_wp2
       refine wp_region_ext (by kernel_rfl) (by kernel_rfl) ?_
       repeat (go_big_quiet_step ((go_at_call 132; exact ext_call (HLN.out _ (HM6.out.now (Ext.ok _))))))
       refine wpQuiet_nil ?_
       intro _ hw'
       obtain ⟨⟨wq, hq⟩, hw''⟩ := hw'
       subst hw''
       try dsimp only
       go_wp2
       go_roundw
       case rel => exact ⟨k + 1, by omega, by go_num, HA, bT hb6 hq⟩
       case measure => simp [intOf]; omega
      | false =>
       have HE : Hid (mav m = false) := mav_ln EX.out hln
       rw [hln] at HLN
       clear hln
       go_wp2
       refine wp_region_ext (by kernel_rfl) (by kernel_rfl) ?_
       repeat (go_big_quiet_step ((go_at_call 132; exact ext_call (HLN.out _ (HM6.out.now (Ext.ok _))))))
       refine wpQuiet_nil ?_
       intro _ hw'
       obtain ⟨⟨wq, hq⟩, hw''⟩ := hw'
       subst hw''
       try dsimp only
       go_wp2
       go_ret
       exact ⟨by rw [HE.out]; rfl, bT HB5.out (bT hb6 hq)⟩
    ·obtain rfl : k = m.c.ls.length := by omega
     have HLA := Hd (all_end hall.out)
     have HE : Hid (mav m = true) := mav_end h1 h2 h3 h4 HFA.out HLA.out
     go_wp2
     go_ret
     exact ⟨by rw [HE.out]; rfl, bT HB5.out hb6⟩
structure EOwn {α : Type} (E : Enc α) (e : TypeId) (w : World) (g : Nat) (l : List α) : Prop where
 own : ∃ cs, Own w g e cs ∧ cs.size = l.length * E.sz ∧ ∀ j, j < l.length * E.sz → cs[j]? = (E.cells l)[j]?
def Oth (p : TypeId → Prop) (w w' : World) : Prop := w.heap.size ≤ w'.heap.size ∧ ∀ (g : Nat) (e : TypeId) (cs : Array Value), Own w g e cs → ¬ p e → Own w' g e cs
section
variable {p : TypeId → Prop} {w w' w'' : World} {e e' : TypeId} {A : Option Addr} {n : Nat}
theorem Oth.trans {q : TypeId → Prop} (h : Oth p w w') (k : Oth q w' w'') : Oth (fun e => p e ∨ q e) w w'' :=
 ⟨Nat.le_trans h.1 k.1, fun g e cs o hn => k.2 g e cs (h.2 g e cs o (fun x => hn (.inl x))) (fun x => hn (.inr x))⟩
theorem Oth.of_below (h : Below w.heap.size w w') : Oth p w w' := ⟨h.size, fun _ _ _ o _ => o.below h⟩
theorem Oth.far (h : Oth p w' w'') (hb : Below w.heap.size w w') : Oth p w w'' := ⟨Nat.le_trans hb.size h.1, fun g e cs o hn => h.2 g e cs (o.below hb) hn⟩
theorem MineE.oth {α : Type} {E : Enc α} {B : Nat} {l : List α} (h : MineE E e B w A l) (hg : Oth p w w') (hne : ¬ p e) : MineE E e B w' A l := by
 refine ⟨⟨h.is.len, fun hn => ?_⟩, fun hl => ?_⟩
 ·obtain ⟨g, cs, rfl, hbg, ho, _⟩ := h.own hn
  obtain ⟨b, o, e, hb, hc⟩ := h.is.at_ hn
  injection e with e
  injection e with e1 e2
  subst e1 e2
  have := hg.1
  refine ⟨g, 0, rfl, by omega, fun j u hu => ?_⟩
  have hh := hc j u hu
  rw [ho.cell] at hh
  rw [(hg.2 g _ cs ho hne).cell]
  exact hh
 ·obtain ⟨g, cs, e, hbg, ho, hs⟩ := h.own hl
  exact ⟨g, cs, e, hbg, hg.2 g _ cs ho hne, hs⟩
end
theorem MaM.oth {b : Nat} {w w' : World} {p : TypeId → Prop} {v1 v2 v3 v4 : Value} {m : Ma} (h : MaM b w v1 v2 v3 v4 m) (ho : Oth p w w') (h1 : ¬ p 3) (h2 : ¬ p 66) (h3 : ¬ p 129) (h4 : ¬ p 126) : MaM b w' v1 v2 v3 v4 m := by
 obtain ⟨⟨⟨A1, c1, r1, l1, k1, m1⟩, ⟨A2, c2, r2, l2, k2, m2⟩⟩, ⟨A3, c3, r3, l3, k3, m3⟩, ⟨A4, c4, r4, l4, k4, m4⟩⟩ := h
 exact ⟨⟨⟨A1, c1, r1, l1, k1, m1.oth ho h1⟩, ⟨A2, c2, r2, l2, k2, m2.oth ho h2⟩⟩, ⟨A3, c3, r3, l3, k3, m3.oth ho h3⟩, ⟨A4, c4, r4, l4, k4, m4.oth ho h4⟩⟩
theorem SlM.oth {α : Type} {E : Enc α} {e : TypeId} {b : Nat} {w w' : World} {v : Value} {l : List α} {p : TypeId → Prop} (h : SlM E e b w v l) (ho : Oth p w w') (he : ¬ p e) : SlM E e b w' v l :=
 let ⟨A, c, h1, h2, h3, h4⟩ := h; ⟨A, c, h1, h2, h3, h4.oth ho he⟩
def stS (ty : TypeId) (n : Nat) (v v' : World) : Prop := Oth (fun e => e = ty) v v' ∧ ∀ (g : Nat) (cs : Array Value), cs.size = n → Own v g ty cs → ∃ cs' : Array Value, cs'.size = n ∧ Own v' g ty cs'
theorem MineE.farT {α : Type} {E : Enc α} {e ty : TypeId} {B g i : Nat} {w : World} {A : Option Addr} {l : List α} {cs : Array Value} {u : Value} (h : MineE E e B w A l) (ho : Own w g ty cs) (hne : ty ≠ e) : MineE E e B (w.setCell ⟨g, i, none⟩ u) A l := by
 rcases Nat.eq_zero_or_pos l.length with hl | hl
 ·exact ⟨⟨h.is.len, fun hn => absurd hn (by omega)⟩, fun hn => absurd hn (by omega)⟩
 ·obtain ⟨g2, cs2, rfl, _, ho2, _⟩ := h.own hl
  refine h.other (p := ⟨g, i, none⟩) (fun hg => ?_)
  replace hg : g = g2 := hg
  subst hg
  unfold Own at ho ho2
  rw [ho] at ho2
  injection ho2 with ho2
  injection ho2 with _ ho2
  exact hne ho2
theorem SlM.farT {α : Type} {E : Enc α} {e ty : TypeId} {B g i : Nat} {w : World} {v : Value} {l : List α} {cs : Array Value} {u : Value} (h : SlM E e B w v l) (ho : Own w g ty cs) (hne : ty ≠ e) : SlM E e B (w.setCell ⟨g, i, none⟩ u) v l := by
 obtain ⟨A, c, h1, h2, h3, h4⟩ := h
 exact ⟨A, c, h1, h2, h3, h4.farT ho hne⟩
theorem MaM.farT {B g i : Nat} {w : World} {vb vf vl vo : Value} {m : Ma} {cs : Array Value} {u : Value} (h : MaM B w vb vf vl vo m) (ho : Own w g 48 cs) : MaM B (w.setCell ⟨g, i, none⟩ u) vb vf vl vo m :=
 ⟨⟨h.t.b.farT ho (by decide), h.t.f.farT ho (by decide)⟩, h.l.farT ho (by decide), h.o.farT ho (by decide)⟩
theorem MaM.far9 {B g : Nat} {w : World} {vb vf vl vo : Value} {m : Ma} {cs : Array Value} (h : MaM B w vb vf vl vo m) (ho : Own w g 48 cs) (u0 u1 u2 u3 u4 u5 u6 u7 u8 : Value) :
  MaM B (((((((((w.setCell ⟨g, 0, none⟩ u0).setCell ⟨g, 1, none⟩ u1).setCell ⟨g, 2, none⟩ u2).setCell ⟨g, 3, none⟩ u3).setCell ⟨g, 4, none⟩ u4).setCell ⟨g, 5, none⟩ u5).setCell ⟨g, 6, none⟩ u6).setCell ⟨g, 7, none⟩ u7).setCell ⟨g, 8, none⟩ u8) vb vf vl vo m := by
 have o1 := ho.set_ 0 u0
 have o2 := o1.set_ 1 u1
 have o3 := o2.set_ 2 u2
 have o4 := o3.set_ 3 u3
 have o5 := o4.set_ 4 u4
 have o6 := o5.set_ 5 u5
 have o7 := o6.set_ 6 u6
 have o8 := o7.set_ 7 u7
 exact ((((((((h.farT ho).farT o1).farT o2).farT o3).farT o4).farT o5).farT o6).farT o7).farT o8
theorem Own.far9 {g h : Nat} {w : World} {ty : TypeId} {cs : Array Value} (ho : Own w h ty cs) (hne : h ≠ g) (u0 u1 u2 u3 u4 u5 u6 u7 u8 : Value) :
  Own (((((((((w.setCell ⟨g, 0, none⟩ u0).setCell ⟨g, 1, none⟩ u1).setCell ⟨g, 2, none⟩ u2).setCell ⟨g, 3, none⟩ u3).setCell ⟨g, 4, none⟩ u4).setCell ⟨g, 5, none⟩ u5).setCell ⟨g, 6, none⟩ u6).setCell ⟨g, 7, none⟩ u7).setCell ⟨g, 8, none⟩ u8) h ty cs :=
 ((((((((ho.far hne).far hne).far hne).far hne).far hne).far hne).far hne).far hne).far hne
theorem Own.set9 {g : Nat} {w : World} {ty : TypeId} {a0 a1 a2 a3 a4 a5 a6 a7 a8 : Value} (ho : Own w g ty #[a0, a1, a2, a3, a4, a5, a6, a7, a8]) (u0 u1 u2 u3 u4 u5 u6 u7 u8 : Value) :
  Own (((((((((w.setCell ⟨g, 0, none⟩ u0).setCell ⟨g, 1, none⟩ u1).setCell ⟨g, 2, none⟩ u2).setCell ⟨g, 3, none⟩ u3).setCell ⟨g, 4, none⟩ u4).setCell ⟨g, 5, none⟩ u5).setCell ⟨g, 6, none⟩ u6).setCell ⟨g, 7, none⟩ u7).setCell ⟨g, 8, none⟩ u8) g ty #[u0, u1, u2, u3, u4, u5, u6, u7, u8] := by
 have h := ((((((((ho.set_ 0 u0).set_ 1 u1).set_ 2 u2).set_ 3 u3).set_ 4 u4).set_ 5 u5).set_ 6 u6).set_ 7 u7).set_ 8 u8
 simpa using h
theorem Own.ne {w : World} {g g2 : Nat} {t t2 : TypeId} {cs cs2 : Array Value} (h : Own w g t cs) (h2 : Own w g2 t2 cs2) (hne : t ≠ t2) : g ≠ g2 := by
 rintro rfl
 unfold Own at h h2
 rw [h] at h2
 injection h2 with h2
 injection h2 with _ h2
 exact hne h2
set_option maxHeartbeats 2000000 in
theorem MineE.wln {e : TypeId} {B : Nat} {w : World} {g : Nat} {l : List Ln} (h : MineE lnE e B w (some ⟨g, 0, none⟩) l) {k : Nat} (hk : k < l.length) (x : Ln) :
  MineE lnE e B ((((((w.setCell ⟨g, k * 6, none⟩ (.bool x.v)).setCell ⟨g, k * 6 + 1, none⟩ (.int .i64 x.t)).setCell ⟨g, k * 6 + 2, none⟩ (.int .i64 x.p)).setCell ⟨g, k * 6 + 3, none⟩ (.int .i64 x.f)).setCell ⟨g, k * 6 + 4, none⟩ (.int .i64 x.r)).setCell ⟨g, k * 6 + 5, none⟩ (.bool x.w)) (some ⟨g, 0, none⟩) (l.set k x) := by
 obtain ⟨g2, cs, e1, hB, ho, hs⟩ := h.own (by omega)
 injection e1 with e1
 injection e1 with e1
 subst e1
 have hs2 : l.length * 6 ≤ cs.size := by simpa [lnE] using hs
 refine h.write ho ((((((ho.set_ (k * 6) _).set_ (k * 6 + 1) _).set_ (k * 6 + 2) _).set_ (k * 6 + 3) _).set_ (k * 6 + 4) _).set_ (k * 6 + 5) _) (by simp) hk x (fun j u hj => ?_) (fun i hi => ?_)
 ·simp only [lnE] at hj ⊢
  match j, hj with
  | 0, hj => simp at hj; subst hj; simp [Array.getElem?_setIfInBounds]; omega
  | 1, hj => simp at hj; subst hj; simp [Array.getElem?_setIfInBounds]; omega
  | 2, hj => simp at hj; subst hj; simp [Array.getElem?_setIfInBounds]; omega
  | 3, hj => simp at hj; subst hj; simp [Array.getElem?_setIfInBounds]; omega
  | 4, hj => simp at hj; subst hj; simp [Array.getElem?_setIfInBounds]; omega
  | 5, hj => simp at hj; subst hj; simp [Array.getElem?_setIfInBounds]; omega
  | j + 6, hj => simp at hj
 ·simp only [lnE] at hi
  rw [Array.getElem?_setIfInBounds, if_neg (by omega), Array.getElem?_setIfInBounds, if_neg (by omega), Array.getElem?_setIfInBounds, if_neg (by omega), Array.getElem?_setIfInBounds, if_neg (by omega), Array.getElem?_setIfInBounds, if_neg (by omega), Array.getElem?_setIfInBounds, if_neg (by omega)]
theorem SlM.own_ {α : Type} {E : Enc α} {e : TypeId} {B : Nat} {w : World} {A : Option Addr} {n c : Nat} {l : List α} (h : SlM E e B w (.slice A n c) l) : MineE E e B w A l ∧ n = l.length ∧ l.length ≤ c ∧ c ≤ maxLen := by
 obtain ⟨A', c', h1, h2, h3, h4⟩ := h
 injection h1 with h1 h5 h6
 subst h1 h6
 exact ⟨h4, h5, h2, h3⟩
set_option maxHeartbeats 4000000 in
theorem dropped_any (vb vf vl vo ta tb : Value) (m : Ma) (t : Tab) (s p : Int) (B : Nat) (w : World) (hM : MaR w vb vf vl vo m) (hB : B ≤ w.heap.size) (hT : TaM B w ta tb t)
  (a1 : m.t.bs.length ≤ 1048576) (a2 : m.t.fs.length ≤ 1048576) (a3 : m.c.ls.length ≤ 1048576) (a4 : m.g.os.length ≤ 1048576) :
  Calls Tryz.prog 106 #[.agg #[vb, vf, vl, .int .i64 m.c.hand, .int .i64 m.g.count, .int .i64 m.g.next, .int .i64 m.g.round, vo, .int .i64 m.sp], .agg #[ta, tb], .agg #[.int .i64 s, .int .i64 p]] w (Post2 fun v w' => ∃ v1 v2 v3 v4, v = .agg #[v1, v2, v3, .int .i64 (drpM m t s p).c.hand, .int .i64 (drpM m t s p).g.count, .int .i64 (drpM m t s p).g.next, .int .i64 (drpM m t s p).g.round, v4, .int .i64 (drpM m t s p).sp] ∧ MaM B w' v1 v2 v3 v4 (drpM m t s p) ∧ Below w.heap.size w w') := by
 have hbx := (((Own.new_ w 48 #[vb, vf, vl, .int .i64 m.c.hand, .int .i64 m.g.count, .int .i64 m.g.next, .int .i64 m.g.round, vo, .int .i64 m.sp]).alloc (o := .cells #[ta, tb] 40)).alloc (o := .cells #[.int .i64 s, .int .i64 p] 61)).alloc (o := .cells #[.slice none 0 0, .slice none 0 0, .slice none 0 0, .int .i64 0, .int .i64 0, .int .i64 0, .int .i64 0, .slice none 0 0, .int .i64 0] 48)
 have hbt := ((ownAt (W := w.alloc (.cells #[vb, vf, vl, .int .i64 m.c.hand, .int .i64 m.g.count, .int .i64 m.g.next, .int .i64 m.g.round, vo, .int .i64 m.sp] 48)) (g := w.heap.size + 1) (t := 40) (cs := #[ta, tb]) (by simp)).alloc (o := .cells #[.int .i64 s, .int .i64 p] 61)).alloc (o := .cells #[.slice none 0 0, .slice none 0 0, .slice none 0 0, .int .i64 0, .int .i64 0, .int .i64 0, .int .i64 0, .slice none 0 0, .int .i64 0] 48)
 have hbk := (ownAt (W := (w.alloc (.cells #[vb, vf, vl, .int .i64 m.c.hand, .int .i64 m.g.count, .int .i64 m.g.next, .int .i64 m.g.round, vo, .int .i64 m.sp] 48)).alloc (.cells #[ta, tb] 40)) (g := w.heap.size + 1 + 1) (t := 61) (cs := #[.int .i64 s, .int .i64 p]) (by simp)).alloc (o := .cells #[.slice none 0 0, .slice none 0 0, .slice none 0 0, .int .i64 0, .int .i64 0, .int .i64 0, .int .i64 0, .slice none 0 0, .int .i64 0] 48)
 have hbo := ownAt (W := ((w.alloc (.cells #[vb, vf, vl, .int .i64 m.c.hand, .int .i64 m.g.count, .int .i64 m.g.next, .int .i64 m.g.round, vo, .int .i64 m.sp] 48)).alloc (.cells #[ta, tb] 40)).alloc (.cells #[.int .i64 s, .int .i64 p] 61)) (g := w.heap.size + 1 + 1 + 1) (t := 48) (cs := #[.slice none 0 0, .slice none 0 0, .slice none 0 0, .int .i64 0, .int .i64 0, .int .i64 0, .int .i64 0, .slice none 0 0, .int .i64 0]) (by simp)
 have hb0 : Below w.heap.size w ((((w.alloc (.cells #[vb, vf, vl, .int .i64 m.c.hand, .int .i64 m.g.count, .int .i64 m.g.next, .int .i64 m.g.round, vo, .int .i64 m.sp] 48)).alloc (.cells #[ta, tb] 40)).alloc (.cells #[.int .i64 s, .int .i64 p] 61)).alloc (.cells #[.slice none 0 0, .slice none 0 0, .slice none 0 0, .int .i64 0, .int .i64 0, .int .i64 0, .int .i64 0, .slice none 0 0, .int .i64 0] 48)) := bA (bA (bA (bA bR)))
 have hs0 : ((((w.alloc (.cells #[vb, vf, vl, .int .i64 m.c.hand, .int .i64 m.g.count, .int .i64 m.g.next, .int .i64 m.g.round, vo, .int .i64 m.sp] 48)).alloc (.cells #[ta, tb] 40)).alloc (.cells #[.int .i64 s, .int .i64 p] 61)).alloc (.cells #[.slice none 0 0, .slice none 0 0, .slice none 0 0, .int .i64 0, .int .i64 0, .int .i64 0, .int .i64 0, .slice none 0 0, .int .i64 0] 48)).heap.size = w.heap.size + 4 := by simp
 generalize hW : (((w.alloc (.cells #[vb, vf, vl, .int .i64 m.c.hand, .int .i64 m.g.count, .int .i64 m.g.next, .int .i64 m.g.round, vo, .int .i64 m.sp] 48)).alloc (.cells #[ta, tb] 40)).alloc (.cells #[.int .i64 s, .int .i64 p] 61)).alloc (.cells #[.slice none 0 0, .slice none 0 0, .slice none 0 0, .int .i64 0, .int .i64 0, .int .i64 0, .int .i64 0, .slice none 0 0, .int .i64 0] 48) = W0 at hbx hbt hbk hbo hb0 hs0
 have HX0 := Hd hbx
 have HY0 := Hd hbt
 have HK0 := Hd hbk
 have HR0 := Hd hbo
 have HB0 := Hd hb0
 have HS0 : Hid (w.heap.size + 4 ≤ W0.heap.size) := Nat.le_of_eq hs0.symm
 clear hbx hbt hbk hbo hb0
 have HM := Hd hM
 clear hM
 obtain ⟨A1, c1, rfl, _⟩ := hT.b
 obtain ⟨A2, c2, rfl, _⟩ := hT.f
 have HT := Hd (hT.now HB0.out)
 clear hT
 have hBW : B ≤ W0.heap.size := Nat.le_trans hB (by omega)
 obtain ⟨m00, m10, m20, m30, m40, m50, m60, m70, m80⟩ := cells9 HX0.out
 go_enter Tryz.func106, Tryz.ntmps106
 go_wp2_with fail
 refine (mclone_any vb vf vl vo m _ (HM.out.now HB0.out) a1 a2 a3 a4).mono ?_
 rintro e w3 ⟨_, rfl, q1, q2, q3, q4, rfl, hM3, hb3⟩
 obtain ⟨B1, d1, rfl, _⟩ := hM3.t.b
 obtain ⟨B2, d2, rfl, _⟩ := hM3.t.f
 obtain ⟨B3, d3, rfl, _⟩ := hM3.l
 obtain ⟨B4, d4, rfl, _⟩ := hM3.o
 have HY3 := HY0.out.below hb3
 have hly3 := HY3.lt
 have u0 := HY3.cell_ 0 (v := .slice A1 t.bs.length c1) rfl
 have u1 := HY3.cell_ 1 (v := .slice A2 t.fs.length c2) rfl
 have HMM3 := Hd hM3
 have HX3 := Hd (HX0.out.below hb3)
 have HK3 := Hd (HK0.out.below hb3)
 have HR3 := Hd (HR0.out.below hb3)
 have HB3 := Hd (bT HB0.out hb3)
 have HTM3 := Hd (HT.out.now hb3)
 have hs3 := hb3.size
 have ho4 := Own.new_ w3 48 #[.slice A1 t.bs.length c1, .slice A2 t.fs.length c2, .slice B3 m.c.ls.length d3, .int .i64 m.c.hand, .int .i64 m.g.count, .int .i64 m.g.next, .int .i64 m.g.round, .slice B4 m.g.os.length d4, .int .i64 m.sp]
 have hb4 : Below w3.heap.size w3 (w3.alloc (.cells #[.slice A1 t.bs.length c1, .slice A2 t.fs.length c2, .slice B3 m.c.ls.length d3, .int .i64 m.c.hand, .int .i64 m.g.count, .int .i64 m.g.next, .int .i64 m.g.round, .slice B4 m.g.os.length d4, .int .i64 m.sp] 48)) := bA bR
 generalize hW4 : w3.alloc (.cells #[.slice A1 t.bs.length c1, .slice A2 t.fs.length c2, .slice B3 m.c.ls.length d3, .int .i64 m.c.hand, .int .i64 m.g.count, .int .i64 m.g.next, .int .i64 m.g.round, .slice B4 m.g.os.length d4, .int .i64 m.sp] 48) = w4 at ho4 hb4
 have HX4 := Hd (HX3.out.below hb4)
 have HK4 := Hd (HK3.out.below hb4)
 have HR4 := Hd (HR3.out.below hb4)
 have HB4 := Hd (bT HB3.out hb4)
 have HMM4 := Hd (HMM3.out.now hb4)
 have HTM4 := Hd (HTM3.out.now hb4)
 have HO4 := Hd ho4
 clear hM3 hb3 hb4 ho4 HY3 m00 m10 m20 m30 m40 m50 m60 m70 m80
 obtain ⟨m04, m14, m24, m34, m44, m54, m64, m74, m84⟩ := cells9 HX4.out
 have k04 := HK4.out.cell_ 0 (v := .int .i64 s) rfl
 have k14 := HK4.out.cell_ 1 (v := .int .i64 p) rfl
 go_wp2_with fail
 refine (tagFor_any vb vf vl vo m s p _ (HM.out.now HB4.out)).mono ?_
 rintro e w5 ⟨rfl, hb5⟩
 have HX5 := Hd (HX4.out.below hb5)
 have HK5 := Hd (HK4.out.below hb5)
 have HR5 := Hd (HR4.out.below hb5)
 have HB5 := Hd (bT HB4.out hb5)
 have HMM5 := Hd (HMM4.out.now hb5)
 have HTM5 := Hd (HTM4.out.now hb5)
 have HO5 := Hd (HO4.out.below hb5)
 clear m04 m14 m24 m34 m44 m54 m64 m74 m84
 clear hb5 u0 u1 k04 k14 hW4
 cases hto : tagO m s p with
 | false =>
  have HV : Hid (drpM m t s p = ⟨t, m.c, m.g, m.sp⟩) := by show _ = _; unfold drpM; rw [drpC_no hto]
  obtain ⟨r0x, r1x, r2x, r3x, r4x, r5x, r6x, r7x, r8x⟩ := cells9 HR5.out
  obtain ⟨z0x, z1x, z2x, z3x, z4x, z5x, z6x, z7x, z8x⟩ := free9 HR5.out
  obtain ⟨p0o, p1o, p2o, p3o, p4o, p5o, p6o, p7o, p8o⟩ := cells9 HO5.out
  have hlr := HR5.out.lt
  have hlo := HO5.out.lt
  go_wp2
  have o3 := HR5.out.set9 (.slice A1 t.bs.length c1) (.slice A2 t.fs.length c2) (.slice B3 m.c.ls.length d3) (.int .i64 m.c.hand) (.int .i64 m.g.count) (.int .i64 m.g.next) (.int .i64 m.g.round) (.slice B4 m.g.os.length d4) (.int .i64 m.sp)
  obtain ⟨p0t, p1t, p2t, p3t, p4t, p5t, p6t, p7t, p8t⟩ := cells9 o3
  have hmm : MaM B _ (.slice A1 t.bs.length c1) (.slice A2 t.fs.length c2) (.slice B3 m.c.ls.length d3) (.slice B4 m.g.os.length d4) ⟨t, m.c, m.g, m.sp⟩ := ⟨HTM5.out, HMM5.out.l.mono hBW, HMM5.out.o.mono hBW⟩
  refine bodyPost_ret (v := .agg #[.slice A1 t.bs.length c1, .slice A2 t.fs.length c2, .slice B3 m.c.ls.length d3, .int .i64 m.c.hand, .int .i64 m.g.count, .int .i64 m.g.next, .int .i64 m.g.round, .slice B4 m.g.os.length d4, .int .i64 m.sp]) (by simp [results, Tryz.results106, go_sem, p0t, p1t, p2t, p3t, p4t, p5t, p6t, p7t, p8t]) rfl ⟨_, rfl, _, _, _, _, by rw [HV.out], ?_, ?_⟩
  ·rw [HV.out]
   exact hmm.far9 HR5.out _ _ _ _ _ _ _ _ _
  ·repeat (refine bS ?_ (by simp <;> omega))
   exact HB5.out
 | true =>
  obtain ⟨m05, m15, m25, m35, m45, m55, m65, m75, m85⟩ := cells9 HX5.out
  have k05 := HK5.out.cell_ 0 (v := .int .i64 s) rfl
  have k15 := HK5.out.cell_ 1 (v := .int .i64 p) rfl
  go_wp2_with fail
  refine (place_any vl m.c (tagT m s p) p _ (HM.out.l.now HB5.out)).mono ?_
  rintro e w6 ⟨rfl, hb6⟩
  have HX6 := Hd (HX5.out.below hb6)
  have HK6 := Hd (HK5.out.below hb6)
  have HR6 := Hd (HR5.out.below hb6)
  have HB6 := Hd (bT HB5.out hb6)
  have HMM6 := Hd (HMM5.out.now hb6)
  have HTM6 := Hd (HTM5.out.now hb6)
  have HO6 := Hd (HO5.out.below hb6)
  clear m05 m15 m25 m35 m45 m55 m65 m75 m85
  clear hb6 k05 k15
  by_cases hp : 0 ≤ plcI m.c.ls (tagT m s p) p
  case neg =>
   have HV : Hid (drpM m t s p = ⟨t, m.c, m.g, m.sp⟩) := by show _ = _; unfold drpM; rw [drpC_neg hp]
   obtain ⟨r0x, r1x, r2x, r3x, r4x, r5x, r6x, r7x, r8x⟩ := cells9 HR6.out
   obtain ⟨z0x, z1x, z2x, z3x, z4x, z5x, z6x, z7x, z8x⟩ := free9 HR6.out
   obtain ⟨p0o, p1o, p2o, p3o, p4o, p5o, p6o, p7o, p8o⟩ := cells9 HO6.out
   have hlr := HR6.out.lt
   have hlo := HO6.out.lt
   go_wp2
   have o3 := HR6.out.set9 (.slice A1 t.bs.length c1) (.slice A2 t.fs.length c2) (.slice B3 m.c.ls.length d3) (.int .i64 m.c.hand) (.int .i64 m.g.count) (.int .i64 m.g.next) (.int .i64 m.g.round) (.slice B4 m.g.os.length d4) (.int .i64 m.sp)
   obtain ⟨p0t, p1t, p2t, p3t, p4t, p5t, p6t, p7t, p8t⟩ := cells9 o3
   have hmm : MaM B _ (.slice A1 t.bs.length c1) (.slice A2 t.fs.length c2) (.slice B3 m.c.ls.length d3) (.slice B4 m.g.os.length d4) ⟨t, m.c, m.g, m.sp⟩ := ⟨HTM6.out, HMM6.out.l.mono hBW, HMM6.out.o.mono hBW⟩
   refine bodyPost_ret (v := .agg #[.slice A1 t.bs.length c1, .slice A2 t.fs.length c2, .slice B3 m.c.ls.length d3, .int .i64 m.c.hand, .int .i64 m.g.count, .int .i64 m.g.next, .int .i64 m.g.round, .slice B4 m.g.os.length d4, .int .i64 m.sp]) (by simp [results, Tryz.results106, go_sem, p0t, p1t, p2t, p3t, p4t, p5t, p6t, p7t, p8t]) rfl ⟨_, rfl, _, _, _, _, by rw [HV.out], ?_, ?_⟩
   ·rw [HV.out]
    exact hmm.far9 HR6.out _ _ _ _ _ _ _ _ _
   ·repeat (refine bS ?_ (by simp <;> omega))
    exact HB6.out
  case pos =>
   obtain ⟨k, x, hk, ex, _⟩ := plcI_lt hp
   have HV : Hid (drpM m t s p = ⟨t, ⟨m.c.ls.set k lnz, m.c.hand⟩, m.g, m.sp⟩) := by show _ = _; unfold drpM; rw [drpC_at hto hk]
   have hkl := (List.getElem?_eq_some_iff.1 ex).1
   rw [hk]
   have EX := Hd ex
   clear hk ex hp hto
   have HL6 := Hd HMM6.out.l.own_
   obtain ⟨g3, cs3, rfl, hg3, O3, _⟩ := HL6.out.1.own (by omega)
   have z0 := O3.free (k * 6)
   have z1 := O3.free (k * 6 + 1)
   have z2 := O3.free (k * 6 + 2)
   have z3 := O3.free (k * 6 + 3)
   have z4 := O3.free (k * 6 + 4)
   have z5 := O3.free (k * 6 + 5)
   obtain ⟨bq, oq, eq1, _, y0, y1, y2, y3, y4, y5⟩ := HL6.out.1.is.ln EX.out
   injection eq1 with eq1
   injection eq1 with eq1 eq2
   subst eq1 eq2
   rw [Nat.zero_add] at y0 y1 y2 y3 y4 y5
   have q1 : w3.heap.size ≠ g3 := HO6.out.ne O3 (by decide)
   have q2 : g3 ≠ w3.heap.size := fun h => q1 h.symm
   have q3 : w.heap.size + 1 + 1 + 1 ≠ g3 := HR6.out.ne O3 (by decide)
   have q4 : g3 ≠ w.heap.size + 1 + 1 + 1 := fun h => q3 h.symm
   clear O3
   obtain ⟨r0x, r1x, r2x, r3x, r4x, r5x, r6x, r7x, r8x⟩ := cells9 HR6.out
   obtain ⟨z0x, z1x, z2x, z3x, z4x, z5x, z6x, z7x, z8x⟩ := free9 HR6.out
   obtain ⟨p0o, p1o, p2o, p3o, p4o, p5o, p6o, p7o, p8o⟩ := cells9 HO6.out
   have hlr := HR6.out.lt
   have hlo := HO6.out.lt
   have HML := Hd (HL6.out.1.wln hkl lnz)
   go_wp2
   have f1 := ((((((HR6.out.far (p := ⟨g3, k * 6, none⟩) (u := .bool false) q3).far (p := ⟨g3, k * 6 + 1, none⟩) (u := .int .i64 0) q3).far (p := ⟨g3, k * 6 + 2, none⟩) (u := .int .i64 0) q3).far (p := ⟨g3, k * 6 + 3, none⟩) (u := .int .i64 0) q3).far (p := ⟨g3, k * 6 + 4, none⟩) (u := .int .i64 0) q3).far (p := ⟨g3, k * 6 + 5, none⟩) (u := .bool false) q3)
   have o3 := f1.set9 (.slice A1 t.bs.length c1) (.slice A2 t.fs.length c2) (.slice (some ⟨g3, 0, none⟩) m.c.ls.length d3) (.int .i64 m.c.hand) (.int .i64 m.g.count) (.int .i64 m.g.next) (.int .i64 m.g.round) (.slice B4 m.g.os.length d4) (.int .i64 m.sp)
   obtain ⟨p0t, p1t, p2t, p3t, p4t, p5t, p6t, p7t, p8t⟩ := cells9 o3
   obtain ⟨_, cs3, u3, _, O3, _⟩ := HL6.out.1.own (by omega)
   injection u3 with u3
   injection u3 with u3
   subst u3
   have oa := O3.set_ (k * 6) (.bool false)
   have ob := oa.set_ (k * 6 + 1) (.int .i64 0)
   have oc := ob.set_ (k * 6 + 2) (.int .i64 0)
   have od := oc.set_ (k * 6 + 3) (.int .i64 0)
   have oe := od.set_ (k * 6 + 4) (.int .i64 0)
   have hts := ((((((HTM6.out.b.farT O3 (u := .bool false) (i := k * 6) (by decide)).farT oa (u := .int .i64 0) (i := k * 6 + 1) (by decide)).farT ob (u := .int .i64 0) (i := k * 6 + 2) (by decide)).farT oc (u := .int .i64 0) (i := k * 6 + 3) (by decide)).farT od (u := .int .i64 0) (i := k * 6 + 4) (by decide)).farT oe (u := .bool false) (i := k * 6 + 5) (by decide))
   have htf := ((((((HTM6.out.f.farT O3 (u := .bool false) (i := k * 6) (by decide)).farT oa (u := .int .i64 0) (i := k * 6 + 1) (by decide)).farT ob (u := .int .i64 0) (i := k * 6 + 2) (by decide)).farT oc (u := .int .i64 0) (i := k * 6 + 3) (by decide)).farT od (u := .int .i64 0) (i := k * 6 + 4) (by decide)).farT oe (u := .bool false) (i := k * 6 + 5) (by decide))
   have hto := ((((((HMM6.out.o.farT O3 (u := .bool false) (i := k * 6) (by decide)).farT oa (u := .int .i64 0) (i := k * 6 + 1) (by decide)).farT ob (u := .int .i64 0) (i := k * 6 + 2) (by decide)).farT oc (u := .int .i64 0) (i := k * 6 + 3) (by decide)).farT od (u := .int .i64 0) (i := k * 6 + 4) (by decide)).farT oe (u := .bool false) (i := k * 6 + 5) (by decide))
   have hmm : MaM B _ (.slice A1 t.bs.length c1) (.slice A2 t.fs.length c2) (.slice (some ⟨g3, 0, none⟩) m.c.ls.length d3) (.slice B4 m.g.os.length d4) ⟨t, ⟨m.c.ls.set k lnz, m.c.hand⟩, m.g, m.sp⟩ := ⟨⟨hts, htf⟩, slm_of (by simp) (by simpa using HL6.out.2.2.1) HL6.out.2.2.2 (HML.out.mono hBW), hto.mono hBW⟩
   refine bodyPost_ret (v := .agg #[.slice A1 t.bs.length c1, .slice A2 t.fs.length c2, .slice (some ⟨g3, 0, none⟩) m.c.ls.length d3, .int .i64 m.c.hand, .int .i64 m.g.count, .int .i64 m.g.next, .int .i64 m.g.round, .slice B4 m.g.os.length d4, .int .i64 m.sp]) (by simp [results, Tryz.results106, go_sem, p0t, p1t, p2t, p3t, p4t, p5t, p6t, p7t, p8t]) rfl ⟨_, rfl, _, _, _, _, by rw [HV.out], ?_, ?_⟩
   ·rw [HV.out]
    exact hmm.far9 f1 _ _ _ _ _ _ _ _ _
   ·repeat (refine bS ?_ (by simp <;> omega))
    exact HB6.out
structure KD (S : World → World → Prop) (si : Nat) where
 P : Nat → Value → World → Prop
 kb : ∀ (j : Nat) (u : Value) (v v' : World), P j u v → Below v.heap.size v v' → P j u v'
 ks : ∀ (j : Nat) (u : Value) (v v' : World), j ≠ si → P j u v → S v v' → P j u v'
section
variable {ty : TypeId} {n si : Nat}
def KD.eq (u0 : Value) : KD (stS ty n) si where
 P := fun _ u _ => u = u0
 kb := fun _ _ _ _ h _ => h
 ks := fun _ _ _ _ _ h _ => h
def KD.row {α : Type} (E : Enc α) (e : TypeId) (b : Nat) (l : List α) (he : e ≠ ty) (f : Value → Value) : KD (stS ty n) si where
 P := fun _ u v => ∃ v1, u = f v1 ∧ SlM E e b v v1 l
 kb := fun _ _ _ _ ⟨v1, h1, h2⟩ hb => ⟨v1, h1, h2.now hb⟩
 ks := fun _ _ _ _ _ ⟨v1, h1, h2⟩ hs => ⟨v1, h1, h2.oth hs.1 he⟩
def KD.box (b : Nat) : KD (stS ty n) si where
 P := fun _ u v => ∃ (g : Nat) (cs : Array Value), u = .pointer (some ⟨g, 0, none⟩) ∧ b ≤ g ∧ cs.size = n ∧ Own v g ty cs
 kb := fun _ _ _ _ ⟨g, cs, h1, h2, h3, h4⟩ hb => ⟨g, cs, h1, h2, h3, h4.below hb⟩
 ks := fun _ _ _ _ _ ⟨g, cs, h1, h2, h3, h4⟩ hs => let ⟨cs', e1, e2⟩ := hs.2 g cs h3 h4; ⟨g, cs', h1, h2, e1, e2⟩
def KD.boxed {α : Type} (E : Enc α) (e : TypeId) (b : Nat) (l : List α) (f : Value → Array Value) : KD (stS ty n) si where
 P := fun j u v => j = si ∧ ∃ (g : Nat) (v1 : Value), u = .pointer (some ⟨g, 0, none⟩) ∧ b ≤ g ∧ Own v g ty (f v1) ∧ SlM E e b v v1 l
 kb := fun _ _ _ _ ⟨hj, g, v1, h1, h2, h3, h4⟩ hb => ⟨hj, g, v1, h1, h2, h3.below hb, h4.now hb⟩
 ks := fun _ _ _ _ hne ⟨hj, _⟩ _ => absurd hj hne
end
end Go.Proofs.YtibpnlojlfcpmaaGreatDoor
