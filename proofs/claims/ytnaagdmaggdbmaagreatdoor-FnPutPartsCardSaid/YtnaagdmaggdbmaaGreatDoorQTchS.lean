/- A part of the proofs of this seat: TchS. -/
import Derived.Test.YtnaagdmaggdbmaaGreatDoorQTchP
import Derived.Test.YtnaagdmaggdbmaaGreatDoorQFilS
import Derived.Test.YtnaagdmaggdbmaaGreatDoorQFgS
set_option linter.unusedVariables false
set_option linter.unusedSimpArgs false
namespace Go.Proofs.YtnaagdmaggdbmaaGreatDoor
open Go.RowKit
set_option maxRecDepth 1000000
set_option maxHeartbeats 4000000 in
theorem l6Fill_any (vb vf vl vo : Value) (m : Ma) (p : Int) (k : Nat) (w : World) (hM : MaR w vb vf vl vo m) (hm : mav m = true) (hk : k < m.t.fs.length) (hok : filOK m.c (tln m p k) = true) :
  Calls Tryz.prog 145 #[.agg #[vb, vf, vl, .int .i64 m.c.hand, .int .i64 m.g.count, .int .i64 m.g.next, .int .i64 m.g.round, vo, .int .i64 m.sp], .int .i64 p, .int .i64 k, .int .i64 (tagT m m.sp p)] w (Post2 fun v w' => ∃ v1 v2 v3 v4, v = .tuple #[.agg #[v1, v2, v3, .int .i64 ({ m with c := filC m.c (tln m p k) } : Ma).c.hand, .int .i64 ({ m with c := filC m.c (tln m p k) } : Ma).g.count, .int .i64 ({ m with c := filC m.c (tln m p k) } : Ma).g.next, .int .i64 ({ m with c := filC m.c (tln m p k) } : Ma).g.round, v4, .int .i64 ({ m with c := filC m.c (tln m p k) } : Ma).sp], .int .i64 (vic m.c)] ∧ MaM w.heap.size w' v1 v2 v3 v4 { m with c := filC m.c (tln m p k) } ∧ Below w.heap.size w w') := by
 obtain ⟨a1, a2, a3, a4⟩ := mav_len hm
 have hbx := (Own.new_ w 34 #[vb, vf, vl, .int .i64 m.c.hand, .int .i64 m.g.count, .int .i64 m.g.next, .int .i64 m.g.round, vo, .int .i64 m.sp]).alloc (o := .cells #[.slice none 0 0, .slice none 0 0, .slice none 0 0, .int .i64 0, .int .i64 0, .int .i64 0, .int .i64 0, .slice none 0 0, .int .i64 0] 34)
 have hbo := ownAt (W := w.alloc (.cells #[vb, vf, vl, .int .i64 m.c.hand, .int .i64 m.g.count, .int .i64 m.g.next, .int .i64 m.g.round, vo, .int .i64 m.sp] 34)) (g := w.heap.size + 1) (t := 34) (cs := #[.slice none 0 0, .slice none 0 0, .slice none 0 0, .int .i64 0, .int .i64 0, .int .i64 0, .int .i64 0, .slice none 0 0, .int .i64 0]) (by simp)
 have hb0 : Below w.heap.size w ((w.alloc (.cells #[vb, vf, vl, .int .i64 m.c.hand, .int .i64 m.g.count, .int .i64 m.g.next, .int .i64 m.g.round, vo, .int .i64 m.sp] 34)).alloc (.cells #[.slice none 0 0, .slice none 0 0, .slice none 0 0, .int .i64 0, .int .i64 0, .int .i64 0, .int .i64 0, .slice none 0 0, .int .i64 0] 34)) := bA (bA bR)
 have hs0 : ((w.alloc (.cells #[vb, vf, vl, .int .i64 m.c.hand, .int .i64 m.g.count, .int .i64 m.g.next, .int .i64 m.g.round, vo, .int .i64 m.sp] 34)).alloc (.cells #[.slice none 0 0, .slice none 0 0, .slice none 0 0, .int .i64 0, .int .i64 0, .int .i64 0, .int .i64 0, .slice none 0 0, .int .i64 0] 34)).heap.size = w.heap.size + 2 := by simp
 generalize hW : (w.alloc (.cells #[vb, vf, vl, .int .i64 m.c.hand, .int .i64 m.g.count, .int .i64 m.g.next, .int .i64 m.g.round, vo, .int .i64 m.sp] 34)).alloc (.cells #[.slice none 0 0, .slice none 0 0, .slice none 0 0, .int .i64 0, .int .i64 0, .int .i64 0, .int .i64 0, .slice none 0 0, .int .i64 0] 34) = W0 at hbx hbo hb0 hs0
 have m0q := hbx.cell_ 0 (v := vb) rfl
 have m1q := hbx.cell_ 1 (v := vf) rfl
 have m2q := hbx.cell_ 2 (v := vl) rfl
 have m3q := hbx.cell_ 3 (v := .int .i64 m.c.hand) rfl
 have m4q := hbx.cell_ 4 (v := .int .i64 m.g.count) rfl
 have m5q := hbx.cell_ 5 (v := .int .i64 m.g.next) rfl
 have m6q := hbx.cell_ 6 (v := .int .i64 m.g.round) rfl
 have m7q := hbx.cell_ 7 (v := vo) rfl
 have m8q := hbx.cell_ 8 (v := .int .i64 m.sp) rfl
 have HX0 := Lib.hid hbx
 have HO0 := Lib.hid hbo
 have HB0 := Lib.hid hb0
 have HM := Lib.hid hM
 clear hbx hbo hb0 hM
 clear m0q m1q m2q m3q m4q m5q m6q m7q m8q
 go_enter Tryz.func145, Tryz.ntmps145
 have m00 := HX0.out.cell_ 0 (v := vb) rfl
 have m10 := HX0.out.cell_ 1 (v := vf) rfl
 have m20 := HX0.out.cell_ 2 (v := vl) rfl
 have m30 := HX0.out.cell_ 3 (v := .int .i64 m.c.hand) rfl
 have m40 := HX0.out.cell_ 4 (v := .int .i64 m.g.count) rfl
 have m50 := HX0.out.cell_ 5 (v := .int .i64 m.g.next) rfl
 have m60 := HX0.out.cell_ 6 (v := .int .i64 m.g.round) rfl
 have m70 := HX0.out.cell_ 7 (v := vo) rfl
 have m80 := HX0.out.cell_ 8 (v := .int .i64 m.sp) rfl
 go_wp2_with fail
 refine (l6Copy_any vb vf vl vo m _ (HM.out.now HB0.out) a1 a2 a3 a4).mono ?_
 rintro e w3 ⟨_, rfl, q1, q2, q3, q4, rfl, hM3, hb3⟩
 have hM3' := hM3.mono (B' := w.heap.size + 2) (Nat.le_of_eq hs0.symm)
 have hs3 : w.heap.size + 2 ≤ w3.heap.size := Nat.le_trans (Nat.le_of_eq hs0.symm) hb3.size
 obtain ⟨B1, d1, rfl, _⟩ := hM3.t.b
 obtain ⟨B2, d2, rfl, _⟩ := hM3.t.f
 obtain ⟨B3, d3, rfl, _⟩ := hM3.l
 obtain ⟨B4, d4, rfl, _⟩ := hM3.o
 have HX3 := Lib.hid (HX0.out.below hb3)
 have HR3 := Lib.hid (HO0.out.below hb3)
 have HB3 := Lib.hid (bT HB0.out hb3)
 clear m00 m10 m20 m30 m40 m50 m60 m70 m80
 have ho4 := Own.new_ w3 34 #[.slice B1 m.t.bs.length d1, .slice B2 m.t.fs.length d2, .slice B3 m.c.ls.length d3, .int .i64 m.c.hand, .int .i64 m.g.count, .int .i64 m.g.next, .int .i64 m.g.round, .slice B4 m.g.os.length d4, .int .i64 m.sp]
 have hb4 : Below w3.heap.size w3 (w3.alloc (.cells #[.slice B1 m.t.bs.length d1, .slice B2 m.t.fs.length d2, .slice B3 m.c.ls.length d3, .int .i64 m.c.hand, .int .i64 m.g.count, .int .i64 m.g.next, .int .i64 m.g.round, .slice B4 m.g.os.length d4, .int .i64 m.sp] 34)) := bA bR
 generalize hW4 : w3.alloc (.cells #[.slice B1 m.t.bs.length d1, .slice B2 m.t.fs.length d2, .slice B3 m.c.ls.length d3, .int .i64 m.c.hand, .int .i64 m.g.count, .int .i64 m.g.next, .int .i64 m.g.round, .slice B4 m.g.os.length d4, .int .i64 m.sp] 34) = w4 at ho4 hb4
 have HM4 := Lib.hid (hM3'.now hb4)
 have HO4 := Lib.hid ho4
 have HX4 := Lib.hid (HX3.out.below hb4)
 have HR4 := Lib.hid (HR3.out.below hb4)
 have HB4 := Lib.hid (bT HB3.out hb4)
 have hs4 := hb4.size
 clear hM3 hM3' ho4 hb3 hb4
 obtain ⟨f, ef⟩ : ∃ f, m.t.fs[k]? = some f := ⟨_, List.getElem?_eq_getElem hk⟩
 have HTL : Hid (tln m p k = ⟨true, tagT m m.sp p, p, k, f.r, false⟩) := by show _ = _; unfold tln; rw [Int.toNat_natCast, getD_at ef]
 obtain ⟨Af, cf, rfl, hfc, hfm, hF⟩ := HM.out.t.f
 obtain ⟨bf, of, rfl, hbf, y0, y1, y2, y3, y4⟩ := (hF.now (Nat.le_refl _) HB4.out).fr ef
 have m04 := HX4.out.cell_ 0 (v := vb) rfl
 have m14 := HX4.out.cell_ 1 (v := .slice (some ⟨bf, of, none⟩) m.t.fs.length cf) rfl
 have m24 := HX4.out.cell_ 2 (v := vl) rfl
 have m34 := HX4.out.cell_ 3 (v := .int .i64 m.c.hand) rfl
 have hlx := HX4.out.lt
 have hlo := HO4.out.lt
 clear y0 y1 y2 y4 ef hF
 go_wp2_with fail
 have hox := Own.new_ w4 106 #[.bool true, .int .i64 (tagT m m.sp p), .int .i64 p, .int .i64 k, .int .i64 f.r, .bool false]
 have hb5 : Below w4.heap.size w4 (w4.alloc (.cells #[.bool true, .int .i64 (tagT m m.sp p), .int .i64 p, .int .i64 k, .int .i64 f.r, .bool false] 106)) := bA bR
 generalize hW5 : w4.alloc (.cells #[.bool true, .int .i64 (tagT m m.sp p), .int .i64 p, .int .i64 k, .int .i64 f.r, .bool false] 106) = w5 at hox hb5 ⊢
 have HM5 := Lib.hid (HM4.out.now hb5)
 have HO5 := Lib.hid (HO4.out.below hb5)
 have HX5 := Lib.hid (HX4.out.below hb5)
 have HR5 := Lib.hid (HR4.out.below hb5)
 have HB5 := Lib.hid (bT HB4.out hb5)
 have hs5 := hb5.size
 have HFL := Lib.hid (sFillLine_any vl m.c (tln m p k) w5 (HM.out.l.now HB5.out))
 rw [filOK_true hok, hok, show filA m.c (tln m p k) = vic m.c by unfold filA; rw [hok, if_pos rfl]] at HFL
 clear hb5 hox
 have HFL2 := HFL.out
 rw [show lnV (tln m p k) = .agg #[.bool true, .int .i64 (tagT m m.sp p), .int .i64 p, .int .i64 k, .int .i64 f.r, .bool false] by unfold lnV; rw [HTL.out]] at HFL2
 have HFL := Lib.hid HFL2
 clear HFL2
 generalize hVC : filC m.c (tln m p k) = V at *
 refine HFL.out.mono ?_
 rintro e w6 ⟨_, rfl, v1, rfl, hL6, hb6⟩
 obtain ⟨B5, d5, rfl, hx5, hy5, hz5⟩ := hL6
 have ho7 := Own.new_ w6 29 #[.slice B5 V.ls.length d5, .int .i64 V.hand]
 have hb7 : Below w6.heap.size w6 (w6.alloc (.cells #[.slice B5 V.ls.length d5, .int .i64 V.hand] 29)) := bA bR
 have HL6 : Hid (SlM lnE 106 w5.heap.size w6 (.slice B5 V.ls.length d5) V.ls) := ⟨B5, d5, rfl, hx5, hy5, hz5⟩
 generalize hW7 : w6.alloc (.cells #[.slice B5 V.ls.length d5, .int .i64 V.hand] 29) = w7 at ho7 hb7
 have HM7 := Lib.hid (HM5.out.now (bT hb6 hb7))
 have HO7 := Lib.hid (HO5.out.below (bT hb6 hb7))
 have HR7 := Lib.hid (HR5.out.below (bT hb6 hb7))
 have HB7 := Lib.hid (bT HB5.out (bT hb6 hb7))
 have HL7 := Lib.hid ((HL6.out.now hb7).mono (show w.heap.size + 2 ≤ w5.heap.size by omega))
 have HC7 := Lib.hid ho7
 clear ho7 HL6 hb6 hb7 m04 m14 m24 m34 y3 HFL
 have c0 := HC7.out.cell_ 0 (v := .slice B5 V.ls.length d5) rfl
 have c1 := HC7.out.cell_ 1 (v := .int .i64 V.hand) rfl
 have hlc := HC7.out.lt
 have r0x := HR7.out.cell_ 0 (v := .slice none 0 0) rfl
 have r1x := HR7.out.cell_ 1 (v := .slice none 0 0) rfl
 have r2x := HR7.out.cell_ 2 (v := .slice none 0 0) rfl
 have r3x := HR7.out.cell_ 3 (v := .int .i64 0) rfl
 have r4x := HR7.out.cell_ 4 (v := .int .i64 0) rfl
 have r5x := HR7.out.cell_ 5 (v := .int .i64 0) rfl
 have r6x := HR7.out.cell_ 6 (v := .int .i64 0) rfl
 have r7x := HR7.out.cell_ 7 (v := .slice none 0 0) rfl
 have r8x := HR7.out.cell_ 8 (v := .int .i64 0) rfl
 have z0x := HR7.out.free 0
 have z1x := HR7.out.free 1
 have z2x := HR7.out.free 2
 have z3x := HR7.out.free 3
 have z4x := HR7.out.free 4
 have z5x := HR7.out.free 5
 have z6x := HR7.out.free 6
 have z7x := HR7.out.free 7
 have z8x := HR7.out.free 8
 have p0o := HO7.out.cell_ 0 (v := .slice B1 m.t.bs.length d1) rfl
 have p1o := HO7.out.cell_ 1 (v := .slice B2 m.t.fs.length d2) rfl
 have p2o := HO7.out.cell_ 2 (v := .slice B3 m.c.ls.length d3) rfl
 have p3o := HO7.out.cell_ 3 (v := .int .i64 m.c.hand) rfl
 have p4o := HO7.out.cell_ 4 (v := .int .i64 m.g.count) rfl
 have p5o := HO7.out.cell_ 5 (v := .int .i64 m.g.next) rfl
 have p6o := HO7.out.cell_ 6 (v := .int .i64 m.g.round) rfl
 have p7o := HO7.out.cell_ 7 (v := .slice B4 m.g.os.length d4) rfl
 have p8o := HO7.out.cell_ 8 (v := .int .i64 m.sp) rfl
 have g2 := HO7.out.free 2
 have g3 := HO7.out.free 3
 have hlr := HR7.out.lt
 have hlo7 := HO7.out.lt
 have hrn : w.heap.size + 1 ≠ w3.heap.size := by omega
 have hrm : w3.heap.size ≠ w.heap.size + 1 := by omega
 have hcn : w6.heap.size ≠ w3.heap.size := HC7.out.ne HO7.out (by decide)
 have hcm : w3.heap.size ≠ w6.heap.size := fun h => hcn h.symm
 go_wp2
 have g1 := (HR7.out.far (p := ⟨w3.heap.size, 2, none⟩) (u := .slice B5 V.ls.length d5) hrn).far (p := ⟨w3.heap.size, 3, none⟩) (u := .int .i64 V.hand) hrn
 have hmm : MaM (w.heap.size + 2) w7 (.slice B1 m.t.bs.length d1) (.slice B2 m.t.fs.length d2) (.slice B5 V.ls.length d5) (.slice B4 m.g.os.length d4) { m with c := V } := ⟨HM7.out.t, HL7.out, HM7.out.o⟩
 have hmm2 := (hmm.farT (u := .slice B5 V.ls.length d5) (i := 2) HO7.out).farT (u := .int .i64 V.hand) (i := 3) (HO7.out.set_ 2 (.slice B5 V.ls.length d5))
 have o3 := g1.set9 (.slice B1 m.t.bs.length d1) (.slice B2 m.t.fs.length d2) (.slice B5 V.ls.length d5) (.int .i64 V.hand) (.int .i64 m.g.count) (.int .i64 m.g.next) (.int .i64 m.g.round) (.slice B4 m.g.os.length d4) (.int .i64 m.sp)
 have p0t := o3.cell_ 0 (v := .slice B1 m.t.bs.length d1) rfl
 have p1t := o3.cell_ 1 (v := .slice B2 m.t.fs.length d2) rfl
 have p2t := o3.cell_ 2 (v := .slice B5 V.ls.length d5) rfl
 have p3t := o3.cell_ 3 (v := .int .i64 ({ m with c := V } : Ma).c.hand) rfl
 have p4t := o3.cell_ 4 (v := .int .i64 ({ m with c := V } : Ma).g.count) rfl
 have p5t := o3.cell_ 5 (v := .int .i64 ({ m with c := V } : Ma).g.next) rfl
 have p6t := o3.cell_ 6 (v := .int .i64 ({ m with c := V } : Ma).g.round) rfl
 have p7t := o3.cell_ 7 (v := .slice B4 m.g.os.length d4) rfl
 have p8t := o3.cell_ 8 (v := .int .i64 ({ m with c := V } : Ma).sp) rfl
 refine bodyPost_ret (v := .tuple #[.agg #[.slice B1 m.t.bs.length d1, .slice B2 m.t.fs.length d2, .slice B5 V.ls.length d5, .int .i64 ({ m with c := V } : Ma).c.hand, .int .i64 ({ m with c := V } : Ma).g.count, .int .i64 ({ m with c := V } : Ma).g.next, .int .i64 ({ m with c := V } : Ma).g.round, .slice B4 m.g.os.length d4, .int .i64 ({ m with c := V } : Ma).sp], .int .i64 (vic m.c)]) (by simp [results, Tryz.results145, go_sem, p0t, p1t, p2t, p3t, p4t, p5t, p6t, p7t, p8t]) rfl ⟨_, rfl, _, _, _, _, by rw [hVC], ?_, ?_⟩
 ·rw [hVC]
  exact (hmm2.far9 g1 _ _ _ _ _ _ _ _ _).mono (by omega)
 ·repeat (refine bS ?_ (by simp <;> omega))
  exact HB7.out
end Go.Proofs.YtnaagdmaggdbmaaGreatDoor
