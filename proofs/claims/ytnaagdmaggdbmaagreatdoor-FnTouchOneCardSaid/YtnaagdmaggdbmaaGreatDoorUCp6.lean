/- A part of the proofs of this seat: Cp6, McI, PpI, Same. -/
import Derived.Deep.RegionHeldLaw
import Derived.Test.YtnaagdmaggdbmaaGreatDoorUEq
import Derived.Test.YtnaagdmaggdbmaaGreatDoorUMa
import Derived.Test.YtnaagdmaggdbmaaGreatDoorUCopy
import Derived.Test.YtnaagdmaggdbmaaGreatDoorUMaI
import Derived.Test.YtnaagdmaggdbmaaGreatDoorUCpS
set_option linter.unusedVariables false
set_option linter.unusedSimpArgs false
namespace Go.Proofs.YtnaagdmaggdbmaaGreatDoor
open Go.RowKit
set_option maxRecDepth 1000000
set_option maxHeartbeats 4000000 in
theorem l6Copy_any (vb vf vl vo : Value) (m : Ma) (w : World) (hM : MaR w vb vf vl vo m) (h1 : m.t.bs.length ≤ 1048576) (h2 : m.t.fs.length ≤ 1048576) (h3 : m.c.ls.length ≤ 1048576) (h4 : m.g.os.length ≤ 1048576) :
    Calls Tryz.prog 54 #[.agg #[vb, vf, vl, .int .i64 m.c.hand, .int .i64 m.g.count, .int .i64 m.g.next, .int .i64 m.g.round, vo, .int .i64 m.sp]] w (Post2 fun v w' => ∃ v1 v2 v3 v4, v = .agg #[v1, v2, v3, .int .i64 m.c.hand, .int .i64 m.g.count, .int .i64 m.g.next, .int .i64 m.g.round, v4, .int .i64 m.sp] ∧ MaM w.heap.size w' v1 v2 v3 v4 m ∧ Below w.heap.size w w') := by
  obtain ⟨W0, hW, hbx, hbo, hb0, hs0⟩ := box2 w #[vb, vf, vl, .int .i64 m.c.hand, .int .i64 m.g.count, .int .i64 m.g.next, .int .i64 m.g.round, vo, .int .i64 m.sp] 34 #[.slice none 0 0, .slice none 0 0, .slice none 0 0, .int .i64 0, .int .i64 0, .int .i64 0, .int .i64 0, .slice none 0 0, .int .i64 0] 34
  obtain ⟨m0q, m1q, m2q, m3q, m4q, m5q, m6q, m7q, m8q⟩ := cells9 hbx
  have HX0 := Lib.hid hbx
  have HO0 := Lib.hid hbo
  have HB0 := Lib.hid hb0
  have HM := Lib.hid hM
  clear hbx hbo hb0 hM
  go_enter Tryz.func54, Tryz.ntmps54
  go_wp2
  go_region_held_law (fun w' => w'.cell? ⟨w.heap.size, 0, none⟩ = some vb ∧ w'.cell? ⟨w.heap.size, 1, none⟩ = some vf ∧ w'.cell? ⟨w.heap.size, 2, none⟩ = some vl ∧ w'.cell? ⟨w.heap.size, 3, none⟩ = some (.int .i64 m.c.hand) ∧ w'.cell? ⟨w.heap.size, 4, none⟩ = some (.int .i64 m.g.count) ∧ w'.cell? ⟨w.heap.size, 5, none⟩ = some (.int .i64 m.g.next) ∧ w'.cell? ⟨w.heap.size, 6, none⟩ = some (.int .i64 m.g.round) ∧ w'.cell? ⟨w.heap.size, 7, none⟩ = some vo ∧ w'.cell? ⟨w.heap.size, 8, none⟩ = some (.int .i64 m.sp)) (go_keep) (first
    | (refine step_call rfl ?_ (l3Copy_any vb vf m.t _ (HM.out.t.now (bD HB0.out)) h1 h2) ?_
       go_simp
       rintro _ w1 ⟨a1, a2, rfl, hT1, hb1⟩
       have HB1 := Lib.hid (bT (bD HB0.out) hb1)
       have hx1 := HX0.out.drew.below hb1
       have HO1 := Lib.hid (HO0.out.drew.below hb1)
       have hs1 : w.heap.size + 2 ≤ w1.heap.size := Nat.le_trans (Nat.le_of_eq hs0.symm) hb1.size
       obtain ⟨m0d, m1d, m2d, m3d, m4d, m5d, m6d, m7d, m8d⟩ := cells9 hx1
       have HX1 := Lib.hid hx1
       have HT1 := Lib.hid (hT1.mono (B' := w.heap.size + 2) (Nat.le_of_eq hs0.symm))
       clear hx1 hT1 hb1)
    | (refine step_call rfl ?_ (l4Copy_any vl m.c _ (HM.out.l.now HB1.out) h3) ?_
       go_simp
       rintro _ w2 ⟨a3, rfl, hL2, hb2⟩
       have HB2 := Lib.hid (bT HB1.out hb2)
       have hx2 := HX1.out.below hb2
       have HO2 := Lib.hid (HO1.out.below hb2)
       have HT2 := Lib.hid (HT1.out.now hb2)
       have hs2 : w.heap.size + 2 ≤ w2.heap.size := Nat.le_trans hs1 hb2.size
       obtain ⟨m0e, m1e, m2e, m3e, m4e, m5e, m6e, m7e, m8e⟩ := cells9 hx2
       have HX2 := Lib.hid hx2
       have HL2 := Lib.hid (hL2.mono (base' := w.heap.size + 2) hs1)
       clear hx2 hL2 hb2 m0d m1d m2d m3d m4d m5d m6d m7d m8d)
    | (refine step_call rfl ?_ (l5Copy_any vo m.g _ (HM.out.o.now HB2.out) h4) ?_
       go_simp
       rintro _ w3 ⟨a4, rfl, hO3, hb3⟩
       have HB3 := Lib.hid (bT HB2.out hb3)
       have hx3 := HX2.out.below hb3
       have ho3 := HO2.out.below hb3
       have HM3 : Hid (MaM (w.heap.size + 2) w3 a1 a2 a3 a4 m) := ⟨HT2.out.now hb3, HL2.out.now hb3, hO3.mono hs2⟩
       obtain ⟨m0f, m1f, m2f, m3f, m4f, m5f, m6f, m7f, m8f⟩ := cells9 hx3
       obtain ⟨r0x, r1x, r2x, r3x, r4x, r5x, r6x, r7x, r8x⟩ := cells9 ho3
       obtain ⟨z0x, z1x, z2x, z3x, z4x, z5x, z6x, z7x, z8x⟩ := free9 ho3
       have HO3 := Lib.hid ho3
       obtain ⟨A1, c1, rfl, _⟩ := HM3.out.t.b
       obtain ⟨A2, c2, rfl, _⟩ := HM3.out.t.f
       obtain ⟨A3, c3, rfl, _⟩ := HM3.out.l
       obtain ⟨A4, c4, rfl, _⟩ := HM3.out.o
       clear hx3 ho3 hO3 hb3 m0e m1e m2e m3e m4e m5e m6e m7e m8e))
  all_goals
    go_wp2
    have o3 := ((((((((HO3.out.set_ 0 (.slice A1 m.t.bs.length c1)).set_ 1 (.slice A2 m.t.fs.length c2)).set_ 2 (.slice A3 m.c.ls.length c3)).set_ 3 (.int .i64 m.c.hand)).set_ 4 (.int .i64 m.g.count)).set_ 5 (.int .i64 m.g.next)).set_ 6 (.int .i64 m.g.round)).set_ 7 (.slice A4 m.g.os.length c4)).set_ 8 (.int .i64 m.sp)
    have t0 := o3.cell_ 0 (v := .slice A1 m.t.bs.length c1) (by simp)
    have t1 := o3.cell_ 1 (v := .slice A2 m.t.fs.length c2) (by simp)
    have t2 := o3.cell_ 2 (v := .slice A3 m.c.ls.length c3) (by simp)
    have t3 := o3.cell_ 3 (v := .int .i64 m.c.hand) (by simp)
    have t4 := o3.cell_ 4 (v := .int .i64 m.g.count) (by simp)
    have t5 := o3.cell_ 5 (v := .int .i64 m.g.next) (by simp)
    have t6 := o3.cell_ 6 (v := .int .i64 m.g.round) (by simp)
    have t7 := o3.cell_ 7 (v := .slice A4 m.g.os.length c4) (by simp)
    have t8 := o3.cell_ 8 (v := .int .i64 m.sp) (by simp)
    refine bodyPost_ret (v := .agg #[.slice A1 m.t.bs.length c1, .slice A2 m.t.fs.length c2, .slice A3 m.c.ls.length c3, .int .i64 m.c.hand, .int .i64 m.g.count, .int .i64 m.g.next, .int .i64 m.g.round, .slice A4 m.g.os.length c4, .int .i64 m.sp]) (by simp [results, Tryz.results54, go_sem, t0, t1, t2, t3, t4, t5, t6, t7, t8]) rfl ⟨_, rfl, _, _, _, _, rfl, ?_, ?_⟩
    · refine MaM.mono (B := w.heap.size + 2) ?_ (by omega)
      repeat (refine MaM.far ?_ (by show w.heap.size + 1 < w.heap.size + 2; omega))
      exact HM3.out
    · repeat (refine bS ?_ (by simp))
      exact HB3.out
end Go.Proofs.YtnaagdmaggdbmaaGreatDoor
namespace Go.Proofs.YtnaagdmaggdbmaaGreatDoor
open Go.RowKit
set_option maxRecDepth 1000000
set_option maxHeartbeats 1000000 in
theorem mclone_any (vb vf vl vo : Value) (m : Ma) (w : World) (hM : MaR w vb vf vl vo m) (h1 : m.t.bs.length ≤ 1048576) (h2 : m.t.fs.length ≤ 1048576) (h3 : m.c.ls.length ≤ 1048576) (h4 : m.g.os.length ≤ 1048576) :
  Calls Tryz.prog 101 #[.agg #[vb, vf, vl, .int .i64 m.c.hand, .int .i64 m.g.count, .int .i64 m.g.next, .int .i64 m.g.round, vo, .int .i64 m.sp]] w (Post2 fun v w' => ∃ v1 v2 v3 v4, v = .agg #[v1, v2, v3, .int .i64 m.c.hand, .int .i64 m.g.count, .int .i64 m.g.next, .int .i64 m.g.round, v4, .int .i64 m.sp] ∧ MaM w.heap.size w' v1 v2 v3 v4 m ∧ Below w.heap.size w w') := by
 obtain ⟨W0, hW, hbx, hbo, hb0, hs0⟩ := box2 w #[vb, vf, vl, .int .i64 m.c.hand, .int .i64 m.g.count, .int .i64 m.g.next, .int .i64 m.g.round, vo, .int .i64 m.sp] 34 #[.slice none 0 0, .slice none 0 0, .slice none 0 0, .int .i64 0, .int .i64 0, .int .i64 0, .int .i64 0, .slice none 0 0, .int .i64 0] 34
 obtain ⟨m0q, m1q, m2q, m3q, m4q, m5q, m6q, m7q, m8q⟩ := cells9 hbx
 have HX0 := Lib.hid hbx
 have HO0 := Lib.hid hbo
 have HB0 := Lib.hid hb0
 have HM := Lib.hid hM
 clear hbx hbo hb0 hM
 go_enter Tryz.func101, Tryz.ntmps101
 go_wp2_with fail
 refine (tclone_any vb vf m.t _ (HM.out.t.now HB0.out) h1 h2).mono ?_
 rintro e w1 ⟨a1, a2, rfl, hT1, hb1⟩
 obtain ⟨A1, c1, rfl, hc1, hd1, hm1⟩ := hT1.b
 obtain ⟨A2, c2, rfl, hc2, hd2, hm2⟩ := hT1.f
 have HB1 := Lib.hid (bT HB0.out hb1)
 have hx1 := HX0.out.below hb1
 have HO1 := Lib.hid (HO0.out.below hb1)
 have hs1 : w.heap.size + 2 ≤ w1.heap.size := Nat.le_trans (Nat.le_of_eq hs0.symm) hb1.size
 obtain ⟨m0d, m1d, m2d, m3d, m4d, m5d, m6d, m7d, m8d⟩ := cells9 hx1
 have y0 := hx1.free 0
 have y1 := hx1.free 1
 have y2 := hx1.free 2
 have y3 := hx1.free 3
 have y7 := hx1.free 7
 have HX1 := Lib.hid hx1
 have HT1 := Lib.hid (hT1.mono (B' := w.heap.size + 2) (Nat.le_of_eq hs0.symm))
 clear hx1 hT1 hb1 m0q m1q m2q m3q m4q m5q m6q m7q m8q hm1 hm2
 have hx2 := (HX1.out.set_ 0 (.slice A1 m.t.bs.length c1)).set_ 1 (.slice A2 m.t.fs.length c2)
 have hb2 : Below w.heap.size w ((w1.setCell ⟨w.heap.size, 0, none⟩ (.slice A1 m.t.bs.length c1)).setCell ⟨w.heap.size, 1, none⟩ (.slice A2 m.t.fs.length c2)) := bS (bS HB1.out (by simp)) (by simp)
 have hT2 := (HT1.out.far (p := ⟨w.heap.size, 0, none⟩) (u := .slice A1 m.t.bs.length c1) (by show w.heap.size < w.heap.size + 2; omega)).far (p := ⟨w.heap.size, 1, none⟩) (u := .slice A2 m.t.fs.length c2) (by show w.heap.size < w.heap.size + 2; omega)
 have ho2 := (HO1.out.far (p := ⟨w.heap.size, 0, none⟩) (u := .slice A1 m.t.bs.length c1) (by simp)).far (p := ⟨w.heap.size, 1, none⟩) (u := .slice A2 m.t.fs.length c2) (by simp)
 have hs2 : w.heap.size + 2 ≤ ((w1.setCell ⟨w.heap.size, 0, none⟩ (.slice A1 m.t.bs.length c1)).setCell ⟨w.heap.size, 1, none⟩ (.slice A2 m.t.fs.length c2)).heap.size := by simpa using hs1
 generalize hW2 : (w1.setCell ⟨w.heap.size, 0, none⟩ (.slice A1 m.t.bs.length c1)).setCell ⟨w.heap.size, 1, none⟩ (.slice A2 m.t.fs.length c2) = w2 at hx2 hb2 hT2 ho2 hs2
 have hx2b : Own w2 w.heap.size 34 #[.slice A1 m.t.bs.length c1, .slice A2 m.t.fs.length c2, vl, .int .i64 m.c.hand, .int .i64 m.g.count, .int .i64 m.g.next, .int .i64 m.g.round, vo, .int .i64 m.sp] := by simpa using hx2
 have g2 := hx2b.cell_ 2 (v := vl) rfl
 have HX2 := Lib.hid hx2b
 have HB2 := Lib.hid hb2
 have HT2 := Lib.hid hT2
 have HO2 := Lib.hid ho2
 clear hx2 hx2b hb2 hT2 ho2 HX1 HT1 HO1
 go_wp2_with fail
 refine (cloneLine_any vl m.c.ls _ (HM.out.l.now HB2.out) h3).mono ?_
 rintro e w3 ⟨_, rfl, hL3, hb3⟩
 obtain ⟨A3, c3, rfl, hc3, hd3, hm3⟩ := hL3
 have HB3 := Lib.hid (bT HB2.out hb3)
 have HX3 := Lib.hid (HX2.out.below hb3)
 have HO3 := Lib.hid (HO2.out.below hb3)
 have HT3 := Lib.hid (HT2.out.now hb3)
 have hs3 : w.heap.size + 2 ≤ w3.heap.size := Nat.le_trans hs2 hb3.size
 have HL3 : Hid (SlM lnE 106 (w.heap.size + 2) w3 (.slice A3 m.c.ls.length m.c.ls.length) m.c.ls) := slm_of rfl (Nat.le_refl _) (by unfold maxLen; omega) (hm3.mono hs2)
 clear hb3 hm3 m0d m1d m2d m3d m4d m5d m6d m7d m8d y0 y1 y2 y3 y7
 have z7 := HX3.out.cell_ 7 (v := vo) rfl
 have z2 := HX3.out.cell_ 2 (v := vl) rfl
 have f2 := HX3.out.free 2
 go_wp2_with fail
 refine (clipLine_any A3 m.c.ls.length c3 _ hc3).mono ?_
 rintro e _ ⟨rfl, rfl⟩
 have hx4 := HX3.out.set_ 2 (.slice A3 m.c.ls.length m.c.ls.length)
 have hb4 : Below w.heap.size w (w3.setCell ⟨w.heap.size, 2, none⟩ (.slice A3 m.c.ls.length m.c.ls.length)) := bS HB3.out (by simp)
 have hT4 := HT3.out.far (p := ⟨w.heap.size, 2, none⟩) (u := .slice A3 m.c.ls.length m.c.ls.length) (by show w.heap.size < w.heap.size + 2; omega)
 have hL4 := HL3.out.far (p := ⟨w.heap.size, 2, none⟩) (u := .slice A3 m.c.ls.length m.c.ls.length) (by show w.heap.size < w.heap.size + 2; omega)
 have ho4 := HO3.out.far (p := ⟨w.heap.size, 2, none⟩) (u := .slice A3 m.c.ls.length m.c.ls.length) (by simp)
 have hs4 : w.heap.size + 2 ≤ (w3.setCell ⟨w.heap.size, 2, none⟩ (.slice A3 m.c.ls.length m.c.ls.length)).heap.size := by simpa using hs3
 generalize hW4 : w3.setCell ⟨w.heap.size, 2, none⟩ (.slice A3 m.c.ls.length m.c.ls.length) = w4 at hx4 hb4 hT4 hL4 ho4 hs4
 have hx4b : Own w4 w.heap.size 34 #[.slice A1 m.t.bs.length c1, .slice A2 m.t.fs.length c2, .slice A3 m.c.ls.length m.c.ls.length, .int .i64 m.c.hand, .int .i64 m.g.count, .int .i64 m.g.next, .int .i64 m.g.round, vo, .int .i64 m.sp] := by simpa using hx4
 have HX4 := Lib.hid hx4b
 have HB4 := Lib.hid hb4
 have HT4 := Lib.hid hT4
 have HL4 := Lib.hid hL4
 have HO4 := Lib.hid ho4
 clear hx4 hx4b hb4 hT4 hL4 ho4 HX3 HT3 HO3 HL3
 have v7 := HX4.out.cell_ 7 (v := vo) rfl
 go_wp2_with fail
 refine (cloneOwn_any vo m.g.os _ (HM.out.o.now HB4.out) h4).mono ?_
 rintro e w5 ⟨_, rfl, hO5, hb5⟩
 obtain ⟨A4, c4, rfl, hc4, hd4, hm4⟩ := hO5
 have HB5 := Lib.hid (bT HB4.out hb5)
 have hx5 := HX4.out.below hb5
 have ho5 := HO4.out.below hb5
 have HM5 : Hid (MaM (w.heap.size + 2) w5 (.slice A1 m.t.bs.length c1) (.slice A2 m.t.fs.length c2) (.slice A3 m.c.ls.length m.c.ls.length) (.slice A4 m.g.os.length m.g.os.length) m) := ⟨HT4.out.now hb5, HL4.out.now hb5, slm_of rfl (Nat.le_refl _) (by unfold maxLen; omega) (hm4.mono hs4)⟩
 clear hb5 hm4 z7 z2 f2 v7
 have u7 := hx5.cell_ 7 (v := vo) rfl
 have u0 := hx5.cell_ 0 (v := .slice A1 m.t.bs.length c1) rfl
 have u1 := hx5.cell_ 1 (v := .slice A2 m.t.fs.length c2) rfl
 have u2 := hx5.cell_ 2 (v := .slice A3 m.c.ls.length m.c.ls.length) rfl
 have u3 := hx5.cell_ 3 (v := .int .i64 m.c.hand) rfl
 have u4 := hx5.cell_ 4 (v := .int .i64 m.g.count) rfl
 have u5 := hx5.cell_ 5 (v := .int .i64 m.g.next) rfl
 have u6 := hx5.cell_ 6 (v := .int .i64 m.g.round) rfl
 have u8 := hx5.cell_ 8 (v := .int .i64 m.sp) rfl
 have f7 := hx5.free 7
 obtain ⟨r0x, r1x, r2x, r3x, r4x, r5x, r6x, r7x, r8x⟩ := cells9 ho5
 obtain ⟨z0x, z1x, z2x, z3x, z4x, z5x, z6x, z7x, z8x⟩ := free9 ho5
 have HO5 := Lib.hid ho5
 clear hx5 ho5
 go_wp2_with fail
 refine (clipOwn_any A4 m.g.os.length c4 _ hc4).mono ?_
 rintro e _ ⟨rfl, rfl⟩
 go_wp2
 have o3 := (((((((((HO5.out.far (p := ⟨w.heap.size, 7, none⟩) (u := .slice A4 m.g.os.length m.g.os.length) (by simp)).set_ 0 (.slice A1 m.t.bs.length c1)).set_ 1 (.slice A2 m.t.fs.length c2)).set_ 2 (.slice A3 m.c.ls.length m.c.ls.length)).set_ 3 (.int .i64 m.c.hand)).set_ 4 (.int .i64 m.g.count)).set_ 5 (.int .i64 m.g.next)).set_ 6 (.int .i64 m.g.round)).set_ 7 (.slice A4 m.g.os.length m.g.os.length)).set_ 8 (.int .i64 m.sp)
 have t0 := o3.cell_ 0 (v := .slice A1 m.t.bs.length c1) (by simp)
 have t1 := o3.cell_ 1 (v := .slice A2 m.t.fs.length c2) (by simp)
 have t2 := o3.cell_ 2 (v := .slice A3 m.c.ls.length m.c.ls.length) (by simp)
 have t3 := o3.cell_ 3 (v := .int .i64 m.c.hand) (by simp)
 have t4 := o3.cell_ 4 (v := .int .i64 m.g.count) (by simp)
 have t5 := o3.cell_ 5 (v := .int .i64 m.g.next) (by simp)
 have t6 := o3.cell_ 6 (v := .int .i64 m.g.round) (by simp)
 have t7 := o3.cell_ 7 (v := .slice A4 m.g.os.length m.g.os.length) (by simp)
 have t8 := o3.cell_ 8 (v := .int .i64 m.sp) (by simp)
 refine bodyPost_ret (v := .agg #[.slice A1 m.t.bs.length c1, .slice A2 m.t.fs.length c2, .slice A3 m.c.ls.length m.c.ls.length, .int .i64 m.c.hand, .int .i64 m.g.count, .int .i64 m.g.next, .int .i64 m.g.round, .slice A4 m.g.os.length m.g.os.length, .int .i64 m.sp]) (by simp [results, Tryz.results101, go_sem, t0, t1, t2, t3, t4, t5, t6, t7, t8]) rfl ⟨_, rfl, _, _, _, _, rfl, ?_, ?_⟩
 ·refine MaM.mono (B := w.heap.size + 2) ?_ (by omega)
  repeat (refine MaM.far ?_ (by simp))
  exact HM5.out
 ·repeat (refine bS ?_ (by simp))
  exact HB5.out
end Go.Proofs.YtnaagdmaggdbmaaGreatDoor
namespace Go.Proofs.YtnaagdmaggdbmaaGreatDoor
open Go.RowKit
set_option maxRecDepth 1000000
theorem putOK_false {m : Ma} {s p fr r : Int} (h : putOK m s p fr r = false) : putV m s p fr r = maz := by unfold putV; rw [h]; rfl
theorem mav_len {m : Ma} (h : mav m = true) : m.t.bs.length ≤ 1048576 ∧ m.t.fs.length ≤ 1048576 ∧ m.c.ls.length ≤ 1048576 ∧ m.g.os.length ≤ 1048576 := by
 obtain ⟨h1, h2, h3, _⟩ := mav_parts h
 have a := (tv_parts h1).1
 have b := cav_parts h2
 have c := tgv_parts h3
 have d := tok_len c.2 c.1.2.2.1
 omega
end Go.Proofs.YtnaagdmaggdbmaaGreatDoor
namespace Go.Proofs.YtnaagdmaggdbmaaGreatDoor
open Go.RowKit
set_option maxRecDepth 1000000
theorem eqInts_same (A B : Option Addr) (c d : Nat) (l : List Int) (w : World) (ha : Rs intE w.heap.size w A l) (hb : Rs intE w.heap.size w B l) (hl : l.length ≤ 9223372036854775807) :
  Calls Tryz.prog 122 #[.slice A l.length c, .slice B l.length d] w fun r w' => r = .returned (.bool true) ∧ Below w.heap.size w w' := by
 have HA := Lib.hid ha
 have HB := Lib.hid hb
 clear ha hb
 go_enter Tryz.func122, Tryz.ntmps122
 go_wp2
 go_loopw [13] (fun u wr => ∃ k : Nat, k ≤ l.length ∧ u = .int .i64 k ∧ Below w.heap.size w wr) (fun u _ => l.length - (intOf u).toNat)
 case atStart => exact ⟨0, by omega, rfl, bR⟩
 case round =>
  obtain ⟨k, hk, rfl, hbi⟩ := hrel
  have HBI := Lib.hid hbi
  by_cases hlt : k < l.length
  ·obtain ⟨x, ex⟩ : ∃ x, l[k]? = some x := ⟨_, List.getElem?_eq_getElem hlt⟩
   obtain ⟨b1, o1, rfl, _, d0⟩ := (HA.out.below hbi).i1 ex
   obtain ⟨b2, o2, rfl, _, e0⟩ := (HB.out.below hbi).i1 ex
   have hne : ∀ W : World, True := by
    intro W
    first | (have h := neq_fr x x W; simpa using h) | (have h := neq_ln x x W; simpa using h) | (have h := neq_ow x.1 x.2 x.1 x.2 W; simpa [keq] using h) | trivial
   clear ex hbi
   go_wp2
   go_quiet (fail)
   go_wp2
   go_roundw
   case rel => exact ⟨k + 1, by omega, by go_num, bDN HBI.out⟩
   case measure => simp [intOf]; omega
  ·obtain rfl : k = l.length := by omega
   go_wp2
   go_ret
   exact ⟨rfl, hbi⟩
theorem eqFrs_same (A B : Option Addr) (c d : Nat) (l : List Fr) (w : World) (ha : Rs frE w.heap.size w A l) (hb : Rs frE w.heap.size w B l) (hl : l.length ≤ 9223372036854775807) :
  Calls Tryz.prog 123 #[.slice A l.length c, .slice B l.length d] w fun r w' => r = .returned (.bool true) ∧ Below w.heap.size w w' := by
 have HA := Lib.hid ha
 have HB := Lib.hid hb
 clear ha hb
 go_enter Tryz.func123, Tryz.ntmps123
 go_wp2
 go_loopw [13] (fun u wr => ∃ k : Nat, k ≤ l.length ∧ u = .int .i64 k ∧ Below w.heap.size w wr) (fun u _ => l.length - (intOf u).toNat)
 case atStart => exact ⟨0, by omega, rfl, bR⟩
 case round =>
  obtain ⟨k, hk, rfl, hbi⟩ := hrel
  have HBI := Lib.hid hbi
  by_cases hlt : k < l.length
  ·obtain ⟨x, ex⟩ : ∃ x, l[k]? = some x := ⟨_, List.getElem?_eq_getElem hlt⟩
   obtain ⟨b1, o1, rfl, _, d0, d1, d2, d3, d4⟩ := (HA.out.below hbi).fr ex
   obtain ⟨b2, o2, rfl, _, e0, e1, e2, e3, e4⟩ := (HB.out.below hbi).fr ex
   have hne : ∀ W : World, (binOp .neq 48 (.agg #[.bool x.used, .int .i64 x.s, .int .i64 x.p, .int .i64 x.r, .int .i64 x.n]) (.agg #[.bool x.used, .int .i64 x.s, .int .i64 x.p, .int .i64 x.r, .int .i64 x.n])).run Tryz.prog W = .ok (.bool false) W := by
    intro W
    first | (have h := neq_fr x x W; simpa using h) | (have h := neq_ln x x W; simpa using h) | (have h := neq_ow x.1 x.2 x.1 x.2 W; simpa [keq] using h) | trivial
   clear ex hbi
   go_wp2
   go_quiet (fail)
   go_wp2
   go_roundw
   case rel => exact ⟨k + 1, by omega, by go_num, bDN HBI.out⟩
   case measure => simp [intOf]; omega
  ·obtain rfl : k = l.length := by omega
   go_wp2
   go_ret
   exact ⟨rfl, hbi⟩
theorem eqLns_same (A B : Option Addr) (c d : Nat) (l : List Ln) (w : World) (ha : Rs lnE w.heap.size w A l) (hb : Rs lnE w.heap.size w B l) (hl : l.length ≤ 9223372036854775807) :
  Calls Tryz.prog 124 #[.slice A l.length c, .slice B l.length d] w fun r w' => r = .returned (.bool true) ∧ Below w.heap.size w w' := by
 have HA := Lib.hid ha
 have HB := Lib.hid hb
 clear ha hb
 go_enter Tryz.func124, Tryz.ntmps124
 go_wp2
 go_loopw [13] (fun u wr => ∃ k : Nat, k ≤ l.length ∧ u = .int .i64 k ∧ Below w.heap.size w wr) (fun u _ => l.length - (intOf u).toNat)
 case atStart => exact ⟨0, by omega, rfl, bR⟩
 case round =>
  obtain ⟨k, hk, rfl, hbi⟩ := hrel
  have HBI := Lib.hid hbi
  by_cases hlt : k < l.length
  ·obtain ⟨x, ex⟩ : ∃ x, l[k]? = some x := ⟨_, List.getElem?_eq_getElem hlt⟩
   obtain ⟨b1, o1, rfl, _, d0, d1, d2, d3, d4, d5⟩ := (HA.out.below hbi).ln ex
   obtain ⟨b2, o2, rfl, _, e0, e1, e2, e3, e4, e5⟩ := (HB.out.below hbi).ln ex
   have hne : ∀ W : World, (binOp .neq 106 (.agg #[.bool x.v, .int .i64 x.t, .int .i64 x.p, .int .i64 x.f, .int .i64 x.r, .bool x.w]) (.agg #[.bool x.v, .int .i64 x.t, .int .i64 x.p, .int .i64 x.f, .int .i64 x.r, .bool x.w])).run Tryz.prog W = .ok (.bool false) W := by
    intro W
    first | (have h := neq_fr x x W; simpa using h) | (have h := neq_ln x x W; simpa using h) | (have h := neq_ow x.1 x.2 x.1 x.2 W; simpa [keq] using h) | trivial
   clear ex hbi
   go_wp2
   go_quiet (fail)
   go_wp2
   go_roundw
   case rel => exact ⟨k + 1, by omega, by go_num, bDN HBI.out⟩
   case measure => simp [intOf]; omega
  ·obtain rfl : k = l.length := by omega
   go_wp2
   go_ret
   exact ⟨rfl, hbi⟩
theorem eqOws_same (A B : Option Addr) (c d : Nat) (l : List (Int × Int)) (w : World) (ha : Rs owE w.heap.size w A l) (hb : Rs owE w.heap.size w B l) (hl : l.length ≤ 9223372036854775807) :
  Calls Tryz.prog 125 #[.slice A l.length c, .slice B l.length d] w fun r w' => r = .returned (.bool true) ∧ Below w.heap.size w w' := by
 have HA := Lib.hid ha
 have HB := Lib.hid hb
 clear ha hb
 go_enter Tryz.func125, Tryz.ntmps125
 go_wp2
 go_loopw [13] (fun u wr => ∃ k : Nat, k ≤ l.length ∧ u = .int .i64 k ∧ Below w.heap.size w wr) (fun u _ => l.length - (intOf u).toNat)
 case atStart => exact ⟨0, by omega, rfl, bR⟩
 case round =>
  obtain ⟨k, hk, rfl, hbi⟩ := hrel
  have HBI := Lib.hid hbi
  by_cases hlt : k < l.length
  ·obtain ⟨x, ex⟩ : ∃ x, l[k]? = some x := ⟨_, List.getElem?_eq_getElem hlt⟩
   obtain ⟨b1, o1, rfl, _, d0, d1⟩ := (HA.out.below hbi).ow ex
   obtain ⟨b2, o2, rfl, _, e0, e1⟩ := (HB.out.below hbi).ow ex
   have hne : ∀ W : World, (binOp .neq 155 (.agg #[.int .i64 x.1, .int .i64 x.2]) (.agg #[.int .i64 x.1, .int .i64 x.2])).run Tryz.prog W = .ok (.bool false) W := by
    intro W
    first | (have h := neq_fr x x W; simpa using h) | (have h := neq_ln x x W; simpa using h) | (have h := neq_ow x.1 x.2 x.1 x.2 W; simpa [keq] using h) | trivial
   clear ex hbi
   go_wp2
   go_quiet (fail)
   go_wp2
   go_roundw
   case rel => exact ⟨k + 1, by omega, by go_num, bDN HBI.out⟩
   case measure => simp [intOf]; omega
  ·obtain rfl : k = l.length := by omega
   go_wp2
   go_ret
   exact ⟨rfl, hbi⟩
theorem slr_len {α : Type} {E : Enc α} {w : World} {v : Value} {l : List α} (h : SlR E w v l) : l.length ≤ 9223372036854775807 := by
 obtain ⟨A, c, _, h1, h2, _⟩ := h
 simp only [maxLen] at h2
 omega
theorem TableSame_same (a1 a2 b1 b2 : Value) (t : Tab) (w : World) (ha : TaR w a1 a2 t) (hb : TaR w b1 b2 t) :
  Calls Tryz.prog 56 #[.agg #[a1, a2], .agg #[b1, b2]] w fun r w' => r = .returned (.bool true) ∧ Below w.heap.size w w' := by
 have l1 := slr_len ha.b
 have l2 := slr_len ha.f
 obtain ⟨A1, c1, rfl, _, _, h1⟩ := ha.b
 obtain ⟨A2, c2, rfl, _, _, h2⟩ := ha.f
 obtain ⟨B1, d1, rfl, _, _, k1⟩ := hb.b
 obtain ⟨B2, d2, rfl, _, _, k2⟩ := hb.f
 have hx := (Own.new_ w 26 #[.slice A1 t.bs.length c1, .slice A2 t.fs.length c2]).alloc (o := .cells #[.slice B1 t.bs.length d1, .slice B2 t.fs.length d2] 26)
 have hy := ownAt (W := w.alloc (.cells #[.slice A1 t.bs.length c1, .slice A2 t.fs.length c2] 26)) (g := w.heap.size + 1) (t := 26) (cs := #[.slice B1 t.bs.length d1, .slice B2 t.fs.length d2]) (by simp)
 have hb0 : Below w.heap.size w ((w.alloc (.cells #[.slice A1 t.bs.length c1, .slice A2 t.fs.length c2] 26)).alloc (.cells #[.slice B1 t.bs.length d1, .slice B2 t.fs.length d2] 26)) := bA (bA bR)
 generalize hW : (w.alloc (.cells #[.slice A1 t.bs.length c1, .slice A2 t.fs.length c2] 26)).alloc (.cells #[.slice B1 t.bs.length d1, .slice B2 t.fs.length d2] 26) = W0 at hx hy hb0
 have q0 := hx.cell_ 0 (v := .slice A1 t.bs.length c1) rfl
 have q1 := hy.cell_ 0 (v := .slice B1 t.bs.length d1) rfl
 have HX := Lib.hid hx
 have HY := Lib.hid hy
 have HB0 := Lib.hid hb0
 have H1 := Lib.hid h1
 have H2 := Lib.hid h2
 have K1 := Lib.hid k1
 have K2 := Lib.hid k2
 clear hx hy hb0 h1 h2 k1 k2 ha hb
 go_enter Tryz.func56, Tryz.ntmps56
 go_wp2_with fail
 refine (eqInts_same A1 B1 c1 d1 t.bs _ (H1.out.now (Nat.le_refl _) HB0.out) (K1.out.now (Nat.le_refl _) HB0.out) l1).mono ?_
 rintro e w1 ⟨rfl, hb1⟩
 have hx1 := HX.out.below hb1
 have hy1 := HY.out.below hb1
 have HB1 := Lib.hid (bT HB0.out hb1)
 clear q0 q1 hb1
 have q0 := hx1.cell_ 1 (v := .slice A2 t.fs.length c2) rfl
 have q1 := hy1.cell_ 1 (v := .slice B2 t.fs.length d2) rfl
 clear hx1 hy1
 go_wp2_with fail
 refine (eqFrs_same A2 B2 c2 d2 t.fs _ (H2.out.now (Nat.le_refl _) HB1.out) (K2.out.now (Nat.le_refl _) HB1.out) l2).mono ?_
 rintro e w2 ⟨rfl, hb2⟩
 have HB2 := Lib.hid (bT HB1.out hb2)
 clear q0 q1 hb2
 go_wp2
 go_ret
 exact ⟨rfl, HB2.out⟩
theorem CacheSame_same (a1 b1 : Value) (c : Ca) (w : World) (ha : SlR lnE w a1 c.ls) (hb : SlR lnE w b1 c.ls) :
  Calls Tryz.prog 57 #[.agg #[a1, .int .i64 c.hand], .agg #[b1, .int .i64 c.hand]] w fun r w' => r = .returned (.bool true) ∧ Below w.heap.size w w' := by
 have l1 := slr_len ha
 obtain ⟨A1, c1, rfl, _, _, h1⟩ := ha
 obtain ⟨B1, d1, rfl, _, _, k1⟩ := hb
 have H1 := Lib.hid h1
 have K1 := Lib.hid k1
 clear h1 k1
 go_enter Tryz.func57, Tryz.ntmps57
 go_wp2_with fail
 refine (eqLns_same A1 B1 c1 d1 c.ls _ (H1.out.now (Nat.le_refl _) (bA (bA bR))) (K1.out.now (Nat.le_refl _) (bA (bA bR))) l1).mono ?_
 rintro e w1 ⟨rfl, hb1⟩
 have HB1 := Lib.hid (bT (bA (bA bR)) hb1)
 clear hb1
 go_wp2
 go_ret
 exact ⟨rfl, HB1.out⟩
theorem TagsSame_same (a1 b1 : Value) (g : Tg) (w : World) (ha : SlR owE w a1 g.os) (hb : SlR owE w b1 g.os) :
  Calls Tryz.prog 58 #[.agg #[.int .i64 g.count, .int .i64 g.next, .int .i64 g.round, a1], .agg #[.int .i64 g.count, .int .i64 g.next, .int .i64 g.round, b1]] w fun r w' => r = .returned (.bool true) ∧ Below w.heap.size w w' := by
 have l1 := slr_len ha
 obtain ⟨A1, c1, rfl, _, _, h1⟩ := ha
 obtain ⟨B1, d1, rfl, _, _, k1⟩ := hb
 have H1 := Lib.hid h1
 have K1 := Lib.hid k1
 clear h1 k1
 go_enter Tryz.func58, Tryz.ntmps58
 go_wp2_with fail
 refine (eqOws_same A1 B1 c1 d1 g.os _ (H1.out.now (Nat.le_refl _) (bA (bA bR))) (K1.out.now (Nat.le_refl _) (bA (bA bR))) l1).mono ?_
 rintro e w1 ⟨rfl, hb1⟩
 have HB1 := Lib.hid (bT (bA (bA bR)) hb1)
 clear hb1
 go_wp2
 go_ret
 exact ⟨rfl, HB1.out⟩
set_option maxHeartbeats 1000000 in
theorem MachineSame_same (a1 a2 a3 a4 b1 b2 b3 b4 : Value) (m : Ma) (w : World) (ha : MaR w a1 a2 a3 a4 m) (hb : MaR w b1 b2 b3 b4 m) :
  Calls Tryz.prog 16 #[.agg #[a1, a2, a3, .int .i64 m.c.hand, .int .i64 m.g.count, .int .i64 m.g.next, .int .i64 m.g.round, a4, .int .i64 m.sp], .agg #[b1, b2, b3, .int .i64 m.c.hand, .int .i64 m.g.count, .int .i64 m.g.next, .int .i64 m.g.round, b4, .int .i64 m.sp]] w fun r w' => r = .returned (.bool true) ∧ Below w.heap.size w w' := by
 have hx := (Own.new_ w 34 #[a1, a2, a3, .int .i64 m.c.hand, .int .i64 m.g.count, .int .i64 m.g.next, .int .i64 m.g.round, a4, .int .i64 m.sp]).alloc (o := .cells #[b1, b2, b3, .int .i64 m.c.hand, .int .i64 m.g.count, .int .i64 m.g.next, .int .i64 m.g.round, b4, .int .i64 m.sp] 34)
 have hy := ownAt (W := w.alloc (.cells #[a1, a2, a3, .int .i64 m.c.hand, .int .i64 m.g.count, .int .i64 m.g.next, .int .i64 m.g.round, a4, .int .i64 m.sp] 34)) (g := w.heap.size + 1) (t := 34) (cs := #[b1, b2, b3, .int .i64 m.c.hand, .int .i64 m.g.count, .int .i64 m.g.next, .int .i64 m.g.round, b4, .int .i64 m.sp]) (by simp)
 have hb0 : Below w.heap.size w ((w.alloc (.cells #[a1, a2, a3, .int .i64 m.c.hand, .int .i64 m.g.count, .int .i64 m.g.next, .int .i64 m.g.round, a4, .int .i64 m.sp] 34)).alloc (.cells #[b1, b2, b3, .int .i64 m.c.hand, .int .i64 m.g.count, .int .i64 m.g.next, .int .i64 m.g.round, b4, .int .i64 m.sp] 34)) := bA (bA bR)
 obtain ⟨A1, c1, rfl, _⟩ := ha.t.b
 obtain ⟨A2, c2, rfl, _⟩ := ha.t.f
 obtain ⟨A3, c3, rfl, _⟩ := ha.l
 obtain ⟨A4, c4, rfl, _⟩ := ha.o
 obtain ⟨B1, d1, rfl, _⟩ := hb.t.b
 obtain ⟨B2, d2, rfl, _⟩ := hb.t.f
 obtain ⟨B3, d3, rfl, _⟩ := hb.l
 obtain ⟨B4, d4, rfl, _⟩ := hb.o
 generalize hW : (w.alloc (.cells #[.slice A1 m.t.bs.length c1, .slice A2 m.t.fs.length c2, .slice A3 m.c.ls.length c3, .int .i64 m.c.hand, .int .i64 m.g.count, .int .i64 m.g.next, .int .i64 m.g.round, .slice A4 m.g.os.length c4, .int .i64 m.sp] 34)).alloc (.cells #[.slice B1 m.t.bs.length d1, .slice B2 m.t.fs.length d2, .slice B3 m.c.ls.length d3, .int .i64 m.c.hand, .int .i64 m.g.count, .int .i64 m.g.next, .int .i64 m.g.round, .slice B4 m.g.os.length d4, .int .i64 m.sp] 34) = W0 at hx hy hb0
 obtain ⟨p0a, p1a, p2a, p3a, p4a, p5a, p6a, p7a, p8a⟩ := cells9 hx
 obtain ⟨p0b, p1b, p2b, p3b, p4b, p5b, p6b, p7b, p8b⟩ := cells9 hy
 have HX := Lib.hid hx
 have HY := Lib.hid hy
 have HA := Lib.hid ha
 have HB := Lib.hid hb
 have HB0 := Lib.hid hb0
 clear hx hy ha hb hb0
 go_enter Tryz.func16, Tryz.ntmps16
 go_wp2_with fail
 refine (TableSame_same _ _ _ _ m.t _ (HA.out.t.now HB0.out) (HB.out.t.now HB0.out)).mono ?_
 rintro e w1 ⟨rfl, hb1⟩
 clear p0a p1a p2a p3a p4a p5a p6a p7a p8a p0b p1b p2b p3b p4b p5b p6b p7b p8b
 have HX1 := Lib.hid (HX.out.below hb1)
 have HY1 := Lib.hid (HY.out.below hb1)
 have HB1 := Lib.hid (bT HB0.out hb1)
 clear hb1
 obtain ⟨p0a, p1a, p2a, p3a, p4a, p5a, p6a, p7a, p8a⟩ := cells9 HX1.out
 obtain ⟨p0b, p1b, p2b, p3b, p4b, p5b, p6b, p7b, p8b⟩ := cells9 HY1.out
 go_wp2_with fail
 refine (CacheSame_same _ _ m.c _ (HA.out.l.now HB1.out) (HB.out.l.now HB1.out)).mono ?_
 rintro e w2 ⟨rfl, hb2⟩
 clear p0a p1a p2a p3a p4a p5a p6a p7a p8a p0b p1b p2b p3b p4b p5b p6b p7b p8b
 have HX2 := Lib.hid (HX1.out.below hb2)
 have HY2 := Lib.hid (HY1.out.below hb2)
 have HB2 := Lib.hid (bT HB1.out hb2)
 clear hb2
 obtain ⟨p0a, p1a, p2a, p3a, p4a, p5a, p6a, p7a, p8a⟩ := cells9 HX2.out
 obtain ⟨p0b, p1b, p2b, p3b, p4b, p5b, p6b, p7b, p8b⟩ := cells9 HY2.out
 go_wp2_with fail
 refine (TagsSame_same _ _ m.g _ (HA.out.o.now HB2.out) (HB.out.o.now HB2.out)).mono ?_
 rintro e w3 ⟨rfl, hb3⟩
 clear p0a p1a p2a p3a p4a p5a p6a p7a p8a p0b p1b p2b p3b p4b p5b p6b p7b p8b
 have HX3 := Lib.hid (HX2.out.below hb3)
 have HY3 := Lib.hid (HY2.out.below hb3)
 have HB3 := Lib.hid (bT HB2.out hb3)
 clear hb3
 obtain ⟨p0a, p1a, p2a, p3a, p4a, p5a, p6a, p7a, p8a⟩ := cells9 HX3.out
 obtain ⟨p0b, p1b, p2b, p3b, p4b, p5b, p6b, p7b, p8b⟩ := cells9 HY3.out
 go_wp2
 go_ret
 exact ⟨rfl, HB3.out⟩
end Go.Proofs.YtnaagdmaggdbmaaGreatDoor
