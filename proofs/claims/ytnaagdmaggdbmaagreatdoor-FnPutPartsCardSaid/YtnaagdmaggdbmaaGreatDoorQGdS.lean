/- A part of the proofs of this seat: GdS, TkS. -/
import Derived.Test.YtnaagdmaggdbmaaGreatDoorQMapI
import Derived.Test.YtnaagdmaggdbmaaGreatDoorQProtI
import Derived.Test.YtnaagdmaggdbmaaGreatDoorQPpI
import Derived.Test.YtnaagdmaggdbmaaGreatDoorQPrI
import Derived.Test.YtnaagdmaggdbmaaGreatDoorQDrpI
import Derived.Test.YtnaagdmaggdbmaaGreatDoorQFgS
import Derived.Test.YtnaagdmaggdbmaaGreatDoorQUnmS
set_option linter.unusedVariables false
set_option linter.unusedSimpArgs false
namespace Go.Proofs.YtnaagdmaggdbmaaGreatDoor
open Go.RowKit
set_option maxRecDepth 1000000
theorem fOK_page {t : Tab} {s p : Int} (h : fOK t s p = true) : inR p 256 = true := by
 unfold fOK kval at h
 simp only [Bool.and_eq_true] at h
 exact h.1.2.2
end Go.Proofs.YtnaagdmaggdbmaaGreatDoor
namespace Go.Proofs.YtnaagdmaggdbmaaGreatDoor
open Go.RowKit
set_option maxRecDepth 1000000
set_option maxHeartbeats 4000000 in
theorem sTakePage_any (vb vf vl vo : Value) (m : Ma) (s p  : Int) (w : World) (hM : MaR w vb vf vl vo m) :
  Calls Tryz.prog 72 #[.agg #[vb, vf, vl, .int .i64 m.c.hand, .int .i64 m.g.count, .int .i64 m.g.next, .int .i64 m.g.round, vo, .int .i64 m.sp], .agg #[.int .i64 s, .int .i64 p]] w (Post2 fun v w' => ∃ v1 v2 v3 v4, v = .tuple #[.agg #[v1, v2, v3, .int .i64 (takV m s p).c.hand, .int .i64 (takV m s p).g.count, .int .i64 (takV m s p).g.next, .int .i64 (takV m s p).g.round, v4, .int .i64 (takV m s p).sp], .bool (takO m s p)] ∧ MaM w.heap.size w' v1 v2 v3 v4 (takV m s p) ∧ Below w.heap.size w w') := by
 have hbx := ((Own.new_ w 34 #[vb, vf, vl, .int .i64 m.c.hand, .int .i64 m.g.count, .int .i64 m.g.next, .int .i64 m.g.round, vo, .int .i64 m.sp]).alloc (o := .cells #[.int .i64 s, .int .i64 p] 36)).alloc (o := .cells #[.slice none 0 0, .slice none 0 0, .slice none 0 0, .int .i64 0, .int .i64 0, .int .i64 0, .int .i64 0, .slice none 0 0, .int .i64 0] 34)
 have hbk := (ownAt (W := w.alloc (.cells #[vb, vf, vl, .int .i64 m.c.hand, .int .i64 m.g.count, .int .i64 m.g.next, .int .i64 m.g.round, vo, .int .i64 m.sp] 34)) (g := w.heap.size + 1) (t := 36) (cs := #[.int .i64 s, .int .i64 p]) (by simp)).alloc (o := .cells #[.slice none 0 0, .slice none 0 0, .slice none 0 0, .int .i64 0, .int .i64 0, .int .i64 0, .int .i64 0, .slice none 0 0, .int .i64 0] 34)
 have hbo := ownAt (W := (w.alloc (.cells #[vb, vf, vl, .int .i64 m.c.hand, .int .i64 m.g.count, .int .i64 m.g.next, .int .i64 m.g.round, vo, .int .i64 m.sp] 34)).alloc (.cells #[.int .i64 s, .int .i64 p] 36)) (g := w.heap.size + 1 + 1) (t := 34) (cs := #[.slice none 0 0, .slice none 0 0, .slice none 0 0, .int .i64 0, .int .i64 0, .int .i64 0, .int .i64 0, .slice none 0 0, .int .i64 0]) (by simp)
 have hb0 : Below w.heap.size w (((w.alloc (.cells #[vb, vf, vl, .int .i64 m.c.hand, .int .i64 m.g.count, .int .i64 m.g.next, .int .i64 m.g.round, vo, .int .i64 m.sp] 34)).alloc (.cells #[.int .i64 s, .int .i64 p] 36)).alloc (.cells #[.slice none 0 0, .slice none 0 0, .slice none 0 0, .int .i64 0, .int .i64 0, .int .i64 0, .int .i64 0, .slice none 0 0, .int .i64 0] 34)) := bA (bA (bA bR))
 have hs0 : (((w.alloc (.cells #[vb, vf, vl, .int .i64 m.c.hand, .int .i64 m.g.count, .int .i64 m.g.next, .int .i64 m.g.round, vo, .int .i64 m.sp] 34)).alloc (.cells #[.int .i64 s, .int .i64 p] 36)).alloc (.cells #[.slice none 0 0, .slice none 0 0, .slice none 0 0, .int .i64 0, .int .i64 0, .int .i64 0, .int .i64 0, .slice none 0 0, .int .i64 0] 34)).heap.size = w.heap.size + 3 := by simp
 generalize hW : ((w.alloc (.cells #[vb, vf, vl, .int .i64 m.c.hand, .int .i64 m.g.count, .int .i64 m.g.next, .int .i64 m.g.round, vo, .int .i64 m.sp] 34)).alloc (.cells #[.int .i64 s, .int .i64 p] 36)).alloc (.cells #[.slice none 0 0, .slice none 0 0, .slice none 0 0, .int .i64 0, .int .i64 0, .int .i64 0, .int .i64 0, .slice none 0 0, .int .i64 0] 34) = W0 at hbx hbk hbo hb0 hs0
 have HX0 := Lib.hid hbx
 have HK0 := Lib.hid hbk
 have HR0 := Lib.hid hbo
 have HB0 := Lib.hid hb0
 have HS0 : Hid (w.heap.size + 3 ≤ W0.heap.size) := Nat.le_of_eq hs0.symm
 clear hbx hbk hbo hb0
 have HM := Lib.hid hM
 clear hM
 have m00 := HX0.out.cell_ 0 (v := vb) rfl
 have m10 := HX0.out.cell_ 1 (v := vf) rfl
 have m20 := HX0.out.cell_ 2 (v := vl) rfl
 have m30 := HX0.out.cell_ 3 (v := .int .i64 m.c.hand) rfl
 have m40 := HX0.out.cell_ 4 (v := .int .i64 m.g.count) rfl
 have m50 := HX0.out.cell_ 5 (v := .int .i64 m.g.next) rfl
 have m60 := HX0.out.cell_ 6 (v := .int .i64 m.g.round) rfl
 have m70 := HX0.out.cell_ 7 (v := vo) rfl
 have m80 := HX0.out.cell_ 8 (v := .int .i64 m.sp) rfl
 go_enter Tryz.func72, Tryz.ntmps72
 go_wp2_with fail
 refine (sMachineValid_any vb vf vl vo m _ (HM.out.now HB0.out)).mono ?_
 rintro e w1 ⟨rfl, hb1⟩
 have HX1 := Lib.hid (HX0.out.below hb1)
 have HK1 := Lib.hid (HK0.out.below hb1)
 have HR1 := Lib.hid (HR0.out.below hb1)
 have HB1 := Lib.hid (bT HB0.out hb1)
 have HS1 := Lib.hid (Nat.le_trans HS0.out hb1.size)
 clear hb1
 clear m00 m10 m20 m30 m40 m50 m60 m70 m80
 cases h1 : mav m with
 | false =>
  have HA : Hid (takO m s p = false) := by show _ = _; unfold takO; rw [h1]; rfl
  have HV := Lib.hid (takO_false HA.out)
  have r0x := HR1.out.cell_ 0 (v := .slice none 0 0) rfl
  have r1x := HR1.out.cell_ 1 (v := .slice none 0 0) rfl
  have r2x := HR1.out.cell_ 2 (v := .slice none 0 0) rfl
  have r3x := HR1.out.cell_ 3 (v := .int .i64 0) rfl
  have r4x := HR1.out.cell_ 4 (v := .int .i64 0) rfl
  have r5x := HR1.out.cell_ 5 (v := .int .i64 0) rfl
  have r6x := HR1.out.cell_ 6 (v := .int .i64 0) rfl
  have r7x := HR1.out.cell_ 7 (v := .slice none 0 0) rfl
  have r8x := HR1.out.cell_ 8 (v := .int .i64 0) rfl
  have z0x := HR1.out.free 0
  have z1x := HR1.out.free 1
  have z2x := HR1.out.free 2
  have z3x := HR1.out.free 3
  have z4x := HR1.out.free 4
  have z5x := HR1.out.free 5
  have z6x := HR1.out.free 6
  have z7x := HR1.out.free 7
  have z8x := HR1.out.free 8
  go_wp2
  have o3 := ((((((((HR1.out.set_ 0 (.slice none 0 0)).set_ 1 (.slice none 0 0)).set_ 2 (.slice none 0 0)).set_ 3 (.int .i64 0)).set_ 4 (.int .i64 0)).set_ 5 (.int .i64 0)).set_ 6 (.int .i64 0)).set_ 7 (.slice none 0 0)).set_ 8 (.int .i64 0)
  have t0 := o3.cell_ 0 (v := .slice none 0 0) (by simp)
  have t1 := o3.cell_ 1 (v := .slice none 0 0) (by simp)
  have t2 := o3.cell_ 2 (v := .slice none 0 0) (by simp)
  have t3 := o3.cell_ 3 (v := .int .i64 0) (by simp)
  have t4 := o3.cell_ 4 (v := .int .i64 0) (by simp)
  have t5 := o3.cell_ 5 (v := .int .i64 0) (by simp)
  have t6 := o3.cell_ 6 (v := .int .i64 0) (by simp)
  have t7 := o3.cell_ 7 (v := .slice none 0 0) (by simp)
  have t8 := o3.cell_ 8 (v := .int .i64 0) (by simp)
  refine bodyPost_ret (v := .tuple #[.agg #[.slice none 0 0, .slice none 0 0, .slice none 0 0, .int .i64 0, .int .i64 0, .int .i64 0, .int .i64 0, .slice none 0 0, .int .i64 0], .bool false]) (by simp [results, Tryz.results72, go_sem, t0, t1, t2, t3, t4, t5, t6, t7, t8]) rfl ⟨_, rfl, _, _, _, _, by rw [HA.out, HV.out]; rfl, by rw [HV.out]; exact mam_z, ?_⟩
  repeat (refine bS ?_ (by simp <;> omega))
  exact HB1.out
 | true =>
  have m01 := HX1.out.cell_ 0 (v := vb) rfl
  have m11 := HX1.out.cell_ 1 (v := vf) rfl
  have m21 := HX1.out.cell_ 2 (v := vl) rfl
  have m31 := HX1.out.cell_ 3 (v := .int .i64 m.c.hand) rfl
  have m41 := HX1.out.cell_ 4 (v := .int .i64 m.g.count) rfl
  have m51 := HX1.out.cell_ 5 (v := .int .i64 m.g.next) rfl
  have m61 := HX1.out.cell_ 6 (v := .int .i64 m.g.round) rfl
  have m71 := HX1.out.cell_ 7 (v := vo) rfl
  have m81 := HX1.out.cell_ 8 (v := .int .i64 m.sp) rfl
  have k01 := HK1.out.cell_ 0 (v := .int .i64 s) rfl
  have k11 := HK1.out.cell_ 1 (v := .int .i64 p) rfl
  go_wp2_with fail
  refine (sUnmapPage_any vb vf m.t s p _ (HM.out.t.now HB1.out)).mono ?_
  rintro e w2 ⟨_, rfl, v1, v2, rfl, hT2, hb2⟩
  obtain ⟨A1, c1, rfl, _⟩ := hT2.b
  obtain ⟨A2, c2, rfl, _⟩ := hT2.f
  have hs1 := HS1.out
  have HX2 := Lib.hid (HX1.out.below hb2)
  have HK2 := Lib.hid (HK1.out.below hb2)
  have HR2 := Lib.hid (HR1.out.below hb2)
  have HB2 := Lib.hid (bT HB1.out hb2)
  have HS2 := Lib.hid (Nat.le_trans HS1.out hb2.size)
  clear hb2
  clear m01 m11 m21 m31 m41 m51 m61 m71 m81
  clear k01 k11
  have ho5 := Own.new_ w2 26 #[.slice A1 (unmV m.t s p).bs.length c1, .slice A2 (unmV m.t s p).fs.length c2]
  have hb5 : Below w2.heap.size w2 (w2.alloc (.cells #[.slice A1 (unmV m.t s p).bs.length c1, .slice A2 (unmV m.t s p).fs.length c2] 26)) := bA bR
  generalize hW5 : w2.alloc (.cells #[.slice A1 (unmV m.t s p).bs.length c1, .slice A2 (unmV m.t s p).fs.length c2] 26) = w5 at ho5 hb5
  have HT5 := Lib.hid ((hT2.now hb5).mono hs1)
  have HY5 := Lib.hid ho5
  clear hT2 ho5
  have HX5 := Lib.hid (HX2.out.below hb5)
  have HK5 := Lib.hid (HK2.out.below hb5)
  have HR5 := Lib.hid (HR2.out.below hb5)
  have HB5 := Lib.hid (bT HB2.out hb5)
  have HS5 := Lib.hid (Nat.le_trans HS2.out hb5.size)
  clear hb5
  cases h3 : fOK m.t s p with
  | false =>
   have HA : Hid (takO m s p = false) := by show _ = _; unfold takO; rw [h3, Bool.and_false]
   have HV := Lib.hid (takO_false HA.out)
   have r0x := HR5.out.cell_ 0 (v := .slice none 0 0) rfl
   have r1x := HR5.out.cell_ 1 (v := .slice none 0 0) rfl
   have r2x := HR5.out.cell_ 2 (v := .slice none 0 0) rfl
   have r3x := HR5.out.cell_ 3 (v := .int .i64 0) rfl
   have r4x := HR5.out.cell_ 4 (v := .int .i64 0) rfl
   have r5x := HR5.out.cell_ 5 (v := .int .i64 0) rfl
   have r6x := HR5.out.cell_ 6 (v := .int .i64 0) rfl
   have r7x := HR5.out.cell_ 7 (v := .slice none 0 0) rfl
   have r8x := HR5.out.cell_ 8 (v := .int .i64 0) rfl
   have z0x := HR5.out.free 0
   have z1x := HR5.out.free 1
   have z2x := HR5.out.free 2
   have z3x := HR5.out.free 3
   have z4x := HR5.out.free 4
   have z5x := HR5.out.free 5
   have z6x := HR5.out.free 6
   have z7x := HR5.out.free 7
   have z8x := HR5.out.free 8
   go_wp2
   have o3 := ((((((((HR5.out.set_ 0 (.slice none 0 0)).set_ 1 (.slice none 0 0)).set_ 2 (.slice none 0 0)).set_ 3 (.int .i64 0)).set_ 4 (.int .i64 0)).set_ 5 (.int .i64 0)).set_ 6 (.int .i64 0)).set_ 7 (.slice none 0 0)).set_ 8 (.int .i64 0)
   have t0 := o3.cell_ 0 (v := .slice none 0 0) (by simp)
   have t1 := o3.cell_ 1 (v := .slice none 0 0) (by simp)
   have t2 := o3.cell_ 2 (v := .slice none 0 0) (by simp)
   have t3 := o3.cell_ 3 (v := .int .i64 0) (by simp)
   have t4 := o3.cell_ 4 (v := .int .i64 0) (by simp)
   have t5 := o3.cell_ 5 (v := .int .i64 0) (by simp)
   have t6 := o3.cell_ 6 (v := .int .i64 0) (by simp)
   have t7 := o3.cell_ 7 (v := .slice none 0 0) (by simp)
   have t8 := o3.cell_ 8 (v := .int .i64 0) (by simp)
   refine bodyPost_ret (v := .tuple #[.agg #[.slice none 0 0, .slice none 0 0, .slice none 0 0, .int .i64 0, .int .i64 0, .int .i64 0, .int .i64 0, .slice none 0 0, .int .i64 0], .bool false]) (by simp [results, Tryz.results72, go_sem, t0, t1, t2, t3, t4, t5, t6, t7, t8]) rfl ⟨_, rfl, _, _, _, _, by rw [HA.out, HV.out]; rfl, by rw [HV.out]; exact mam_z, ?_⟩
   repeat (refine bS ?_ (by simp <;> omega))
   exact HB5.out
  | true =>
   have HA : Hid (takO m s p = true) := by show _ = _; unfold takO; rw [h1, h3]; rfl
   have HV : Hid (takV m s p = drpM m (unmV m.t s p) s p) := by show _ = _; unfold takV; rw [HA.out]; rfl
   have m05 := HX5.out.cell_ 0 (v := vb) rfl
   have m15 := HX5.out.cell_ 1 (v := vf) rfl
   have m25 := HX5.out.cell_ 2 (v := vl) rfl
   have m35 := HX5.out.cell_ 3 (v := .int .i64 m.c.hand) rfl
   have m45 := HX5.out.cell_ 4 (v := .int .i64 m.g.count) rfl
   have m55 := HX5.out.cell_ 5 (v := .int .i64 m.g.next) rfl
   have m65 := HX5.out.cell_ 6 (v := .int .i64 m.g.round) rfl
   have m75 := HX5.out.cell_ 7 (v := vo) rfl
   have m85 := HX5.out.cell_ 8 (v := .int .i64 m.sp) rfl
   have k05 := HK5.out.cell_ 0 (v := .int .i64 s) rfl
   have k15 := HK5.out.cell_ 1 (v := .int .i64 p) rfl
   have hs5 := HS5.out
   go_wp2_with fail
   refine (l6Forget_any vb vf vl vo m s p _ (HM.out.now HB5.out) h1 (fOK_page h3)).mono ?_
   rintro e w3 ⟨_, rfl, q1, q2, q3, q4, rfl, hM3, hb3⟩
   have HT3 := Lib.hid (HT5.out.now hb3)
   have hy3 := HY5.out.below hb3
   have u0 := hy3.cell_ 0 (v := .slice A1 (unmV m.t s p).bs.length c1) rfl
   have u1 := hy3.cell_ 1 (v := .slice A2 (unmV m.t s p).fs.length c2) rfl
   have hly := hy3.lt
   have HX3 := Lib.hid (HX5.out.below hb3)
   have HK3 := Lib.hid (HK5.out.below hb3)
   have HR3 := Lib.hid (HR5.out.below hb3)
   have HB3 := Lib.hid (bT HB5.out hb3)
   have HS3 := Lib.hid (Nat.le_trans HS5.out hb3.size)
   clear hb3
   clear m05 m15 m25 m35 m45 m55 m65 m75 m85
   clear k05 k15
   have r0x := HR3.out.cell_ 0 (v := .slice none 0 0) rfl
   have r1x := HR3.out.cell_ 1 (v := .slice none 0 0) rfl
   have r2x := HR3.out.cell_ 2 (v := .slice none 0 0) rfl
   have r3x := HR3.out.cell_ 3 (v := .int .i64 0) rfl
   have r4x := HR3.out.cell_ 4 (v := .int .i64 0) rfl
   have r5x := HR3.out.cell_ 5 (v := .int .i64 0) rfl
   have r6x := HR3.out.cell_ 6 (v := .int .i64 0) rfl
   have r7x := HR3.out.cell_ 7 (v := .slice none 0 0) rfl
   have r8x := HR3.out.cell_ 8 (v := .int .i64 0) rfl
   have z0x := HR3.out.free 0
   have z1x := HR3.out.free 1
   have z2x := HR3.out.free 2
   have z3x := HR3.out.free 3
   have z4x := HR3.out.free 4
   have z5x := HR3.out.free 5
   have z6x := HR3.out.free 6
   have z7x := HR3.out.free 7
   have z8x := HR3.out.free 8
   have HM3 := Lib.hid (hM3.mono hs5)
   obtain ⟨B1, d1, rfl, _⟩ := hM3.t.b
   obtain ⟨B2, d2, rfl, _⟩ := hM3.t.f
   obtain ⟨B3, d3, rfl, _⟩ := hM3.l
   obtain ⟨B4, d4, rfl, _⟩ := hM3.o
   clear hM3
   have hl3 := HR3.out.lt
   go_wp2
   have o3 := (HR3.out.set9 (.slice A1 (unmV m.t s p).bs.length c1) (.slice A2 (unmV m.t s p).fs.length c2) (.slice B3 (drpM m m.t s p).c.ls.length d3) (.int .i64 (drpM m m.t s p).c.hand) (.int .i64 (drpM m m.t s p).g.count) (.int .i64 (drpM m m.t s p).g.next) (.int .i64 (drpM m m.t s p).g.round) (.slice B4 (drpM m m.t s p).g.os.length d4) (.int .i64 (drpM m m.t s p).sp)).alloc (o := .cells #[.slice A1 (unmV m.t s p).bs.length c1, .slice A2 (unmV m.t s p).fs.length c2, .slice B3 (drpM m m.t s p).c.ls.length d3, .int .i64 (drpM m m.t s p).c.hand, .int .i64 (drpM m m.t s p).g.count, .int .i64 (drpM m m.t s p).g.next, .int .i64 (drpM m m.t s p).g.round, .slice B4 (drpM m m.t s p).g.os.length d4, .int .i64 (drpM m m.t s p).sp] 34)
   have p0t := o3.cell_ 0 (v := .slice A1 (unmV m.t s p).bs.length c1) rfl
   have p1t := o3.cell_ 1 (v := .slice A2 (unmV m.t s p).fs.length c2) rfl
   have p2t := o3.cell_ 2 (v := .slice B3 (drpM m m.t s p).c.ls.length d3) rfl
   have p3t := o3.cell_ 3 (v := .int .i64 (drpM m m.t s p).c.hand) rfl
   have p4t := o3.cell_ 4 (v := .int .i64 (drpM m m.t s p).g.count) rfl
   have p5t := o3.cell_ 5 (v := .int .i64 (drpM m m.t s p).g.next) rfl
   have p6t := o3.cell_ 6 (v := .int .i64 (drpM m m.t s p).g.round) rfl
   have p7t := o3.cell_ 7 (v := .slice B4 (drpM m m.t s p).g.os.length d4) rfl
   have p8t := o3.cell_ 8 (v := .int .i64 (drpM m m.t s p).sp) rfl
   have hmm : MaM (w.heap.size + 3) w3 (.slice A1 (unmV m.t s p).bs.length c1) (.slice A2 (unmV m.t s p).fs.length c2) (.slice B3 (drpM m m.t s p).c.ls.length d3) (.slice B4 (drpM m m.t s p).g.os.length d4) (drpM m (unmV m.t s p) s p) := ⟨HT3.out, HM3.out.l, HM3.out.o⟩
   refine bodyPost_ret (v := .tuple #[.agg #[.slice A1 (unmV m.t s p).bs.length c1, .slice A2 (unmV m.t s p).fs.length c2, .slice B3 (drpM m m.t s p).c.ls.length d3, .int .i64 (drpM m m.t s p).c.hand, .int .i64 (drpM m m.t s p).g.count, .int .i64 (drpM m m.t s p).g.next, .int .i64 (drpM m m.t s p).g.round, .slice B4 (drpM m m.t s p).g.os.length d4, .int .i64 (drpM m m.t s p).sp], .bool true]) (by simp [results, Tryz.results72, go_sem, p0t, p1t, p2t, p3t, p4t, p5t, p6t, p7t, p8t]) rfl ⟨_, rfl, _, _, _, _, by rw [HA.out, HV.out]; rfl, ?_, ?_⟩
   ·rw [HV.out]
    exact ((hmm.far9 HR3.out _ _ _ _ _ _ _ _ _).now (bA bR)).mono (by omega)
   ·refine bA ?_
    repeat (refine bS ?_ (by simp <;> omega))
    exact HB3.out
end Go.Proofs.YtnaagdmaggdbmaaGreatDoor
