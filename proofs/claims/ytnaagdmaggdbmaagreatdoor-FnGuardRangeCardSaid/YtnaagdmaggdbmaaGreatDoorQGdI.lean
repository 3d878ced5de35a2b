/- A part of the proofs of this seat: GdI, GdS, Gr1. -/
import Derived.Test.YtnaagdmaggdbmaaGreatDoorQProtI
import Derived.Test.YtnaagdmaggdbmaaGreatDoorQCp6
import Derived.Test.YtnaagdmaggdbmaaGreatDoorQPrI
import Derived.Test.YtnaagdmaggdbmaaGreatDoorQDrpI
import Derived.Test.YtnaagdmaggdbmaaGreatDoorQProtS
set_option linter.unusedVariables false
set_option linter.unusedSimpArgs false
namespace Go.Proofs.YtnaagdmaggdbmaaGreatDoor
open Go.RowKit
set_option maxRecDepth 1000000
set_option maxHeartbeats 4000000 in
theorem GuardPage_any (vb vf vl vo : Value) (m : Ma) (s p r : Int) (w : World) (hM : MaR w vb vf vl vo m) (hfree : Free w) :
  Calls Tryz.prog 20 #[.agg #[vb, vf, vl, .int .i64 m.c.hand, .int .i64 m.g.count, .int .i64 m.g.next, .int .i64 m.g.round, vo, .int .i64 m.sp], .agg #[.int .i64 s, .int .i64 p], .int .i64 r] w (Post2 fun v w' => ∃ v1 v2 v3 v4, v = .tuple #[.agg #[v1, v2, v3, .int .i64 (grdV m s p r).c.hand, .int .i64 (grdV m s p r).g.count, .int .i64 (grdV m s p r).g.next, .int .i64 (grdV m s p r).g.round, v4, .int .i64 (grdV m s p r).sp], .bool (grdO m s p r)] ∧ MaM w.heap.size w' v1 v2 v3 v4 (grdV m s p r) ∧ Below w.heap.size w w') := by
 obtain ⟨W0, hW, hbx, hbk, hbo, hb0, hs0⟩ := box3 w #[vb, vf, vl, .int .i64 m.c.hand, .int .i64 m.g.count, .int .i64 m.g.next, .int .i64 m.g.round, vo, .int .i64 m.sp] 34 #[.int .i64 s, .int .i64 p] 36 #[.slice none 0 0, .slice none 0 0, .slice none 0 0, .int .i64 0, .int .i64 0, .int .i64 0, .int .i64 0, .slice none 0 0, .int .i64 0] 34
 have HX0 := Lib.hid hbx
 have HK0 := Lib.hid hbk
 have HR0 := Lib.hid hbo
 have HB0 := Lib.hid hb0
 have HS0 : Hid (w.heap.size + 3 ≤ W0.heap.size) := Nat.le_of_eq hs0.symm
 clear hbx hbk hbo hb0
 have HM := Lib.hid hM
 have HF := Lib.hid hfree
 clear hM hfree
 obtain ⟨m00, m10, m20, m30, m40, m50, m60, m70, m80⟩ := cells9 HX0.out
 go_enter Tryz.func20, Tryz.ntmps20
 go_wp2_with fail
 refine (MachineValid_any vb vf vl vo m _ (HM.out.now HB0.out) (HF.out.now HB0.out)).mono ?_
 rintro e w1 ⟨rfl, hb1⟩
 have HX1 := Lib.hid (HX0.out.below hb1)
 have HK1 := Lib.hid (HK0.out.below hb1)
 have HR1 := Lib.hid (HR0.out.below hb1)
 have HB1 := Lib.hid (bT HB0.out hb1)
 have HS1 := Lib.hid (Nat.le_trans HS0.out hb1.size)
 clear hb1
 clear m00 m10 m20 m30 m40 m50 m60 m70 m80
 cases h1 : mav m with
 | false =>
  have HA : Hid (grdO m s p r = false) := by show _ = _; unfold grdO; rw [h1]; rfl
  have HV := Lib.hid (grdO_false HA.out)
  obtain ⟨r0x, r1x, r2x, r3x, r4x, r5x, r6x, r7x, r8x⟩ := cells9 HR1.out
  obtain ⟨z0x, z1x, z2x, z3x, z4x, z5x, z6x, z7x, z8x⟩ := free9 HR1.out
  go_wp2
  obtain ⟨t0, t1, t2, t3, t4, t5, t6, t7, t8⟩ := cells9 (set9z HR1.out)
  refine bodyPost_ret (v := .tuple #[.agg #[.slice none 0 0, .slice none 0 0, .slice none 0 0, .int .i64 0, .int .i64 0, .int .i64 0, .int .i64 0, .slice none 0 0, .int .i64 0], .bool false]) (by simp [results, Tryz.results20, go_sem, t0, t1, t2, t3, t4, t5, t6, t7, t8]) rfl ⟨_, rfl, _, _, _, _, by rw [HA.out, HV.out]; rfl, by rw [HV.out]; exact mam_z, ?_⟩
  repeat (refine bS ?_ (by simp <;> omega))
  exact HB1.out
 | true =>
  obtain ⟨a1, a2, a3, a4⟩ := mav_len h1
  obtain ⟨m01, m11, m21, m31, m41, m51, m61, m71, m81⟩ := cells9 HX1.out
  have k01 := HK1.out.cell_ 0 (v := .int .i64 s) rfl
  have k11 := HK1.out.cell_ 1 (v := .int .i64 p) rfl
  go_wp2_with fail
  refine (ProtectPage_any vb vf m.t s p r _ (HM.out.t.now HB1.out) (HF.out.now HB1.out)).mono ?_
  rintro e w2 ⟨_, rfl, v1, v2, rfl, hT2, hb2⟩
  obtain ⟨A1, c1, rfl, _⟩ := hT2.b
  obtain ⟨A2, c2, rfl, _⟩ := hT2.f
  have hs1 := HS1.out
  have HX2 := Lib.hid (HX1.out.below hb2)
  have HK2 := Lib.hid (HK1.out.below hb2)
  have HR2 := Lib.hid (HR1.out.below hb2)
  have HB2 := Lib.hid (bT HB1.out hb2)
  have HS2 := Lib.hid (Nat.le_trans HS1.out hb2.size)
  clear hb2
  clear m01 m11 m21 m31 m41 m51 m61 m71 m81
  clear k01 k11
  have ho5 := Own.new_ w2 26 #[.slice A1 (prV m.t s p r).bs.length c1, .slice A2 (prV m.t s p r).fs.length c2]
  have hb5 : Below w2.heap.size w2 (w2.alloc (.cells #[.slice A1 (prV m.t s p r).bs.length c1, .slice A2 (prV m.t s p r).fs.length c2] 26)) := bA bR
  generalize hW5 : w2.alloc (.cells #[.slice A1 (prV m.t s p r).bs.length c1, .slice A2 (prV m.t s p r).fs.length c2] 26) = w5 at ho5 hb5
  have HT5 := Lib.hid ((hT2.now hb5).mono hs1)
  clear hT2
  have HX5 := Lib.hid (HX2.out.below hb5)
  have HK5 := Lib.hid (HK2.out.below hb5)
  have HR5 := Lib.hid (HR2.out.below hb5)
  have HB5 := Lib.hid (bT HB2.out hb5)
  have HS5 := Lib.hid (Nat.le_trans HS2.out hb5.size)
  clear hb5
  cases h3 : prOK m.t s p r with
  | false =>
   have HA : Hid (grdO m s p r = false) := by show _ = _; unfold grdO; rw [h3, Bool.and_false]
   have HV := Lib.hid (grdO_false HA.out)
   clear ho5
   obtain ⟨r0x, r1x, r2x, r3x, r4x, r5x, r6x, r7x, r8x⟩ := cells9 HR5.out
   obtain ⟨z0x, z1x, z2x, z3x, z4x, z5x, z6x, z7x, z8x⟩ := free9 HR5.out
   go_wp2
   obtain ⟨t0, t1, t2, t3, t4, t5, t6, t7, t8⟩ := cells9 (set9z HR5.out)
   refine bodyPost_ret (v := .tuple #[.agg #[.slice none 0 0, .slice none 0 0, .slice none 0 0, .int .i64 0, .int .i64 0, .int .i64 0, .int .i64 0, .slice none 0 0, .int .i64 0], .bool false]) (by simp [results, Tryz.results20, go_sem, t0, t1, t2, t3, t4, t5, t6, t7, t8]) rfl ⟨_, rfl, _, _, _, _, by rw [HA.out, HV.out]; rfl, by rw [HV.out]; exact mam_z, ?_⟩
   repeat (refine bS ?_ (by simp <;> omega))
   exact HB5.out
  | true =>
   have HA : Hid (grdO m s p r = true) := by show _ = _; unfold grdO; rw [h1, h3]; rfl
   have HV : Hid (grdV m s p r = drpM m (prV m.t s p r) s p) := by show _ = _; unfold grdV; rw [HA.out]; rfl
   obtain ⟨m05, m15, m25, m35, m45, m55, m65, m75, m85⟩ := cells9 HX5.out
   have k05 := HK5.out.cell_ 0 (v := .int .i64 s) rfl
   have k15 := HK5.out.cell_ 1 (v := .int .i64 p) rfl
   have u0 := ho5.cell_ 0 (v := .slice A1 (prV m.t s p r).bs.length c1) rfl
   have u1 := ho5.cell_ 1 (v := .slice A2 (prV m.t s p r).fs.length c2) rfl
   have hs5 := HS5.out
   clear ho5
   go_wp2_with fail
   refine (dropped_any vb vf vl vo _ _ m (prV m.t s p r) s p (w.heap.size + 3) _ (HM.out.now HB5.out) hs5 HT5.out a1 a2 a3 a4).mono ?_
   rintro e w3 ⟨_, rfl, q1, q2, q3, q4, rfl, hM3, hb3⟩
   have HX3 := Lib.hid (HX5.out.below hb3)
   have HK3 := Lib.hid (HK5.out.below hb3)
   have HR3 := Lib.hid (HR5.out.below hb3)
   have HB3 := Lib.hid (bT HB5.out hb3)
   have HS3 := Lib.hid (Nat.le_trans HS5.out hb3.size)
   clear hb3
   clear m05 m15 m25 m35 m45 m55 m65 m75 m85
   clear k05 k15 u0 u1
   obtain ⟨r0x, r1x, r2x, r3x, r4x, r5x, r6x, r7x, r8x⟩ := cells9 HR3.out
   obtain ⟨z0x, z1x, z2x, z3x, z4x, z5x, z6x, z7x, z8x⟩ := free9 HR3.out
   have HM3 := Lib.hid hM3
   obtain ⟨B1, d1, rfl, _⟩ := hM3.t.b
   obtain ⟨B2, d2, rfl, _⟩ := hM3.t.f
   obtain ⟨B3, d3, rfl, _⟩ := hM3.l
   obtain ⟨B4, d4, rfl, _⟩ := hM3.o
   clear hM3
   have hl3 := HR3.out.lt
   go_wp2
   have o3 := HR3.out.set9 (.slice B1 (drpM m (prV m.t s p r) s p).t.bs.length d1) (.slice B2 (drpM m (prV m.t s p r) s p).t.fs.length d2) (.slice B3 (drpM m (prV m.t s p r) s p).c.ls.length d3) (.int .i64 (drpM m (prV m.t s p r) s p).c.hand) (.int .i64 (drpM m (prV m.t s p r) s p).g.count) (.int .i64 (drpM m (prV m.t s p r) s p).g.next) (.int .i64 (drpM m (prV m.t s p r) s p).g.round) (.slice B4 (drpM m (prV m.t s p r) s p).g.os.length d4) (.int .i64 (drpM m (prV m.t s p r) s p).sp)
   obtain ⟨p0t, p1t, p2t, p3t, p4t, p5t, p6t, p7t, p8t⟩ := cells9 o3
   refine bodyPost_ret (v := .tuple #[.agg #[.slice B1 (drpM m (prV m.t s p r) s p).t.bs.length d1, .slice B2 (drpM m (prV m.t s p r) s p).t.fs.length d2, .slice B3 (drpM m (prV m.t s p r) s p).c.ls.length d3, .int .i64 (drpM m (prV m.t s p r) s p).c.hand, .int .i64 (drpM m (prV m.t s p r) s p).g.count, .int .i64 (drpM m (prV m.t s p r) s p).g.next, .int .i64 (drpM m (prV m.t s p r) s p).g.round, .slice B4 (drpM m (prV m.t s p r) s p).g.os.length d4, .int .i64 (drpM m (prV m.t s p r) s p).sp], .bool true]) (by simp [results, Tryz.results20, go_sem, p0t, p1t, p2t, p3t, p4t, p5t, p6t, p7t, p8t]) rfl ⟨_, rfl, _, _, _, _, by rw [HA.out, HV.out], ?_, ?_⟩
   ·rw [HV.out]
    exact (HM3.out.far9 HR3.out _ _ _ _ _ _ _ _ _).mono (by omega)
   ·repeat (refine bS ?_ (by simp <;> omega))
    exact HB3.out
end Go.Proofs.YtnaagdmaggdbmaaGreatDoor
namespace Go.Proofs.YtnaagdmaggdbmaaGreatDoor
open Go.RowKit
set_option maxRecDepth 1000000
theorem fOK_page {t : Tab} {s p : Int} (h : fOK t s p = true) : inR p 256 = true := by
 unfold fOK kval at h
 simp only [Bool.and_eq_true] at h
 exact h.1.2.2
theorem prOK_page {t : Tab} {s p r : Int} (h : prOK t s p r = true) : inR p 256 = true := by
 unfold prOK at h
 rw [Bool.and_eq_true] at h
 exact fOK_page h.1
set_option maxHeartbeats 4000000 in
theorem sGuardPage_any (vb vf vl vo : Value) (m : Ma) (s p r : Int) (w : World) (hM : MaR w vb vf vl vo m) :
  Calls Tryz.prog 60 #[.agg #[vb, vf, vl, .int .i64 m.c.hand, .int .i64 m.g.count, .int .i64 m.g.next, .int .i64 m.g.round, vo, .int .i64 m.sp], .agg #[.int .i64 s, .int .i64 p], .int .i64 r] w (Post2 fun v w' => ∃ v1 v2 v3 v4, v = .tuple #[.agg #[v1, v2, v3, .int .i64 (grdV m s p r).c.hand, .int .i64 (grdV m s p r).g.count, .int .i64 (grdV m s p r).g.next, .int .i64 (grdV m s p r).g.round, v4, .int .i64 (grdV m s p r).sp], .bool (grdO m s p r)] ∧ MaM w.heap.size w' v1 v2 v3 v4 (grdV m s p r) ∧ Below w.heap.size w w') := by
 obtain ⟨W0, hW, hbx, hbk, hbo, hb0, hs0⟩ := box3 w #[vb, vf, vl, .int .i64 m.c.hand, .int .i64 m.g.count, .int .i64 m.g.next, .int .i64 m.g.round, vo, .int .i64 m.sp] 34 #[.int .i64 s, .int .i64 p] 36 #[.slice none 0 0, .slice none 0 0, .slice none 0 0, .int .i64 0, .int .i64 0, .int .i64 0, .int .i64 0, .slice none 0 0, .int .i64 0] 34
 have HX0 := Lib.hid hbx
 have HK0 := Lib.hid hbk
 have HR0 := Lib.hid hbo
 have HB0 := Lib.hid hb0
 have HS0 : Hid (w.heap.size + 3 ≤ W0.heap.size) := Nat.le_of_eq hs0.symm
 clear hbx hbk hbo hb0
 have HM := Lib.hid hM
 clear hM
 obtain ⟨m00, m10, m20, m30, m40, m50, m60, m70, m80⟩ := cells9 HX0.out
 go_enter Tryz.func60, Tryz.ntmps60
 go_wp2_with fail
 refine (sMachineValid_any vb vf vl vo m _ (HM.out.now HB0.out)).mono ?_
 rintro e w1 ⟨rfl, hb1⟩
 have HX1 := Lib.hid (HX0.out.below hb1)
 have HK1 := Lib.hid (HK0.out.below hb1)
 have HR1 := Lib.hid (HR0.out.below hb1)
 have HB1 := Lib.hid (bT HB0.out hb1)
 have HS1 := Lib.hid (Nat.le_trans HS0.out hb1.size)
 clear hb1
 clear m00 m10 m20 m30 m40 m50 m60 m70 m80
 cases h1 : mav m with
 | false =>
  have HA : Hid (grdO m s p r = false) := by show _ = _; unfold grdO; rw [h1]; rfl
  have HV := Lib.hid (grdO_false HA.out)
  obtain ⟨r0x, r1x, r2x, r3x, r4x, r5x, r6x, r7x, r8x⟩ := cells9 HR1.out
  obtain ⟨z0x, z1x, z2x, z3x, z4x, z5x, z6x, z7x, z8x⟩ := free9 HR1.out
  go_wp2
  obtain ⟨t0, t1, t2, t3, t4, t5, t6, t7, t8⟩ := cells9 (set9z HR1.out)
  refine bodyPost_ret (v := .tuple #[.agg #[.slice none 0 0, .slice none 0 0, .slice none 0 0, .int .i64 0, .int .i64 0, .int .i64 0, .int .i64 0, .slice none 0 0, .int .i64 0], .bool false]) (by simp [results, Tryz.results60, go_sem, t0, t1, t2, t3, t4, t5, t6, t7, t8]) rfl ⟨_, rfl, _, _, _, _, by rw [HA.out, HV.out]; rfl, by rw [HV.out]; exact mam_z, ?_⟩
  repeat (refine bS ?_ (by simp <;> omega))
  exact HB1.out
 | true =>
  obtain ⟨m01, m11, m21, m31, m41, m51, m61, m71, m81⟩ := cells9 HX1.out
  have k01 := HK1.out.cell_ 0 (v := .int .i64 s) rfl
  have k11 := HK1.out.cell_ 1 (v := .int .i64 p) rfl
  go_wp2_with fail
  refine (sProtectPage_any vb vf m.t s p r _ (HM.out.t.now HB1.out)).mono ?_
  rintro e w2 ⟨_, rfl, v1, v2, rfl, hT2, hb2⟩
  obtain ⟨A1, c1, rfl, _⟩ := hT2.b
  obtain ⟨A2, c2, rfl, _⟩ := hT2.f
  have hs1 := HS1.out
  have HX2 := Lib.hid (HX1.out.below hb2)
  have HK2 := Lib.hid (HK1.out.below hb2)
  have HR2 := Lib.hid (HR1.out.below hb2)
  have HB2 := Lib.hid (bT HB1.out hb2)
  have HS2 := Lib.hid (Nat.le_trans HS1.out hb2.size)
  clear hb2
  clear m01 m11 m21 m31 m41 m51 m61 m71 m81
  clear k01 k11
  have ho5 := Own.new_ w2 26 #[.slice A1 (prV m.t s p r).bs.length c1, .slice A2 (prV m.t s p r).fs.length c2]
  have hb5 : Below w2.heap.size w2 (w2.alloc (.cells #[.slice A1 (prV m.t s p r).bs.length c1, .slice A2 (prV m.t s p r).fs.length c2] 26)) := bA bR
  generalize hW5 : w2.alloc (.cells #[.slice A1 (prV m.t s p r).bs.length c1, .slice A2 (prV m.t s p r).fs.length c2] 26) = w5 at ho5 hb5
  have HT5 := Lib.hid ((hT2.now hb5).mono hs1)
  have HY5 := Lib.hid ho5
  clear hT2 ho5
  have HX5 := Lib.hid (HX2.out.below hb5)
  have HK5 := Lib.hid (HK2.out.below hb5)
  have HR5 := Lib.hid (HR2.out.below hb5)
  have HB5 := Lib.hid (bT HB2.out hb5)
  have HS5 := Lib.hid (Nat.le_trans HS2.out hb5.size)
  clear hb5
  cases h3 : prOK m.t s p r with
  | false =>
   have HA : Hid (grdO m s p r = false) := by show _ = _; unfold grdO; rw [h3, Bool.and_false]
   have HV := Lib.hid (grdO_false HA.out)
   obtain ⟨r0x, r1x, r2x, r3x, r4x, r5x, r6x, r7x, r8x⟩ := cells9 HR5.out
   obtain ⟨z0x, z1x, z2x, z3x, z4x, z5x, z6x, z7x, z8x⟩ := free9 HR5.out
   go_wp2
   obtain ⟨t0, t1, t2, t3, t4, t5, t6, t7, t8⟩ := cells9 (set9z HR5.out)
   refine bodyPost_ret (v := .tuple #[.agg #[.slice none 0 0, .slice none 0 0, .slice none 0 0, .int .i64 0, .int .i64 0, .int .i64 0, .int .i64 0, .slice none 0 0, .int .i64 0], .bool false]) (by simp [results, Tryz.results60, go_sem, t0, t1, t2, t3, t4, t5, t6, t7, t8]) rfl ⟨_, rfl, _, _, _, _, by rw [HA.out, HV.out]; rfl, by rw [HV.out]; exact mam_z, ?_⟩
   repeat (refine bS ?_ (by simp <;> omega))
   exact HB5.out
  | true =>
   have HA : Hid (grdO m s p r = true) := by show _ = _; unfold grdO; rw [h1, h3]; rfl
   have HV : Hid (grdV m s p r = drpM m (prV m.t s p r) s p) := by show _ = _; unfold grdV; rw [HA.out]; rfl
   obtain ⟨m05, m15, m25, m35, m45, m55, m65, m75, m85⟩ := cells9 HX5.out
   have k05 := HK5.out.cell_ 0 (v := .int .i64 s) rfl
   have k15 := HK5.out.cell_ 1 (v := .int .i64 p) rfl
   have hs5 := HS5.out
   go_wp2_with fail
   refine (l6Forget_any vb vf vl vo m s p _ (HM.out.now HB5.out) h1 (prOK_page h3)).mono ?_
   rintro e w3 ⟨_, rfl, q1, q2, q3, q4, rfl, hM3, hb3⟩
   have HT3 := Lib.hid (HT5.out.now hb3)
   have hy3 := HY5.out.below hb3
   have u0 := hy3.cell_ 0 (v := .slice A1 (prV m.t s p r).bs.length c1) rfl
   have u1 := hy3.cell_ 1 (v := .slice A2 (prV m.t s p r).fs.length c2) rfl
   have hly := hy3.lt
   have HX3 := Lib.hid (HX5.out.below hb3)
   have HK3 := Lib.hid (HK5.out.below hb3)
   have HR3 := Lib.hid (HR5.out.below hb3)
   have HB3 := Lib.hid (bT HB5.out hb3)
   have HS3 := Lib.hid (Nat.le_trans HS5.out hb3.size)
   clear hb3
   clear m05 m15 m25 m35 m45 m55 m65 m75 m85
   clear k05 k15
   obtain ⟨r0x, r1x, r2x, r3x, r4x, r5x, r6x, r7x, r8x⟩ := cells9 HR3.out
   obtain ⟨z0x, z1x, z2x, z3x, z4x, z5x, z6x, z7x, z8x⟩ := free9 HR3.out
   have HM3 := Lib.hid (hM3.mono hs5)
   obtain ⟨B1, d1, rfl, _⟩ := hM3.t.b
   obtain ⟨B2, d2, rfl, _⟩ := hM3.t.f
   obtain ⟨B3, d3, rfl, _⟩ := hM3.l
   obtain ⟨B4, d4, rfl, _⟩ := hM3.o
   clear hM3
   have hl3 := HR3.out.lt
   go_wp2
   have o3 := (HR3.out.set9 (.slice A1 (prV m.t s p r).bs.length c1) (.slice A2 (prV m.t s p r).fs.length c2) (.slice B3 (drpM m m.t s p).c.ls.length d3) (.int .i64 (drpM m m.t s p).c.hand) (.int .i64 (drpM m m.t s p).g.count) (.int .i64 (drpM m m.t s p).g.next) (.int .i64 (drpM m m.t s p).g.round) (.slice B4 (drpM m m.t s p).g.os.length d4) (.int .i64 (drpM m m.t s p).sp)).alloc (o := .cells #[.slice A1 (prV m.t s p r).bs.length c1, .slice A2 (prV m.t s p r).fs.length c2, .slice B3 (drpM m m.t s p).c.ls.length d3, .int .i64 (drpM m m.t s p).c.hand, .int .i64 (drpM m m.t s p).g.count, .int .i64 (drpM m m.t s p).g.next, .int .i64 (drpM m m.t s p).g.round, .slice B4 (drpM m m.t s p).g.os.length d4, .int .i64 (drpM m m.t s p).sp] 34)
   obtain ⟨p0t, p1t, p2t, p3t, p4t, p5t, p6t, p7t, p8t⟩ := cells9 o3
   have hmm : MaM (w.heap.size + 3) w3 (.slice A1 (prV m.t s p r).bs.length c1) (.slice A2 (prV m.t s p r).fs.length c2) (.slice B3 (drpM m m.t s p).c.ls.length d3) (.slice B4 (drpM m m.t s p).g.os.length d4) (drpM m (prV m.t s p r) s p) := ⟨HT3.out, HM3.out.l, HM3.out.o⟩
   refine bodyPost_ret (v := .tuple #[.agg #[.slice A1 (prV m.t s p r).bs.length c1, .slice A2 (prV m.t s p r).fs.length c2, .slice B3 (drpM m m.t s p).c.ls.length d3, .int .i64 (drpM m m.t s p).c.hand, .int .i64 (drpM m m.t s p).g.count, .int .i64 (drpM m m.t s p).g.next, .int .i64 (drpM m m.t s p).g.round, .slice B4 (drpM m m.t s p).g.os.length d4, .int .i64 (drpM m m.t s p).sp], .bool true]) (by simp [results, Tryz.results60, go_sem, p0t, p1t, p2t, p3t, p4t, p5t, p6t, p7t, p8t]) rfl ⟨_, rfl, _, _, _, _, by rw [HA.out, HV.out]; rfl, ?_, ?_⟩
   ·rw [HV.out]
    exact ((hmm.far9 HR3.out _ _ _ _ _ _ _ _ _).now (bA bR)).mono (by omega)
   ·refine bA ?_
    repeat (refine bS ?_ (by simp <;> omega))
    exact HB3.out
end Go.Proofs.YtnaagdmaggdbmaaGreatDoor
namespace Go.Proofs.YtnaagdmaggdbmaaGreatDoor
open Go.RowKit
set_option maxRecDepth 1000000
theorem fOK_kval {t : Tab} {s p : Int} (h : fOK t s p = true) : kval (s, p) = true := by
 unfold fOK at h
 simp only [Bool.and_eq_true] at h
 exact h.1.2
theorem grdO_kval {m : Ma} {s p r : Int} (h : grdO m s (p + (0 : Nat)) r = true) : kval (s, p) = true := by
 unfold grdO prOK at h
 simp only [Bool.and_eq_true] at h
 have := fOK_kval h.2.1
 simpa using this
set_option maxHeartbeats 2000000 in
theorem GuardRange1_any (vb vf vl vo : Value) (m : Ma) (i s p r : Int) (gr : Nat) (w : World) (hM : MaR w vb vf vl vo m) (hfree : Free w) (hgr : gr < w.heap.size) (hcr : w.cell? ⟨gr, 0, none⟩ = some (.int .i64 r)) :
  Calls Tryz.prog 59 #[.agg #[vb, vf, vl, .int .i64 m.c.hand, .int .i64 m.g.count, .int .i64 m.g.next, .int .i64 m.g.round, vo, .int .i64 m.sp], .int .i64 i, .agg #[.int .i64 s, .int .i64 p], .pointer (some ⟨gr, 0, none⟩)] w (Post2 fun v w' => ∃ v1 v2 v3 v4, v = .tuple #[.agg #[v1, v2, v3, .int .i64 (grdV m s p r).c.hand, .int .i64 (grdV m s p r).g.count, .int .i64 (grdV m s p r).g.next, .int .i64 (grdV m s p r).g.round, v4, .int .i64 (grdV m s p r).sp], .bool (grdO m s p r)] ∧ MaM w.heap.size w' v1 v2 v3 v4 (grdV m s p r) ∧ Below w.heap.size w w') := by
 obtain ⟨W0, hW, hbx, hbk, hbo, hb0, hs0⟩ := box3 w #[vb, vf, vl, .int .i64 m.c.hand, .int .i64 m.g.count, .int .i64 m.g.next, .int .i64 m.g.round, vo, .int .i64 m.sp] 34 #[.int .i64 s, .int .i64 p] 36 #[.slice none 0 0, .slice none 0 0, .slice none 0 0, .int .i64 0, .int .i64 0, .int .i64 0, .int .i64 0, .slice none 0 0, .int .i64 0] 34
 have HX0 := Lib.hid hbx
 have HK0 := Lib.hid hbk
 have HR0 := Lib.hid hbo
 have HB0 := Lib.hid hb0
 have HS0 : Hid (w.heap.size + 3 ≤ W0.heap.size) := Nat.le_of_eq hs0.symm
 clear hbx hbk hbo hb0
 have HM := Lib.hid hM
 have HF := Lib.hid hfree
 have y2 := (HB0.out.cell (p := ⟨gr, 0, none⟩) hgr).trans hcr
 obtain ⟨m00, m10, m20, m30, m40, m50, m60, m70, m80⟩ := cells9 HX0.out
 have k00 := HK0.out.cell_ 0 (v := .int .i64 s) rfl
 have k10 := HK0.out.cell_ 1 (v := .int .i64 p) rfl
 have HMV := Lib.hid (fun W (h : MaR W vb vf vl vo m) (hf : Free W) => GuardPage_any vb vf vl vo m s p r W h hf)
 clear hM hfree
 go_enter Tryz.func59, Tryz.ntmps59
 go_wp2_with fail
 refine (HMV.out _ (HM.out.now HB0.out) (HF.out.now HB0.out)).mono ?_
 rintro e w1 ⟨_, rfl, e1, e2, e3, e4, rfl, hM1, hb1⟩
 have HX1 := Lib.hid (HX0.out.below hb1)
 have HK1 := Lib.hid (HK0.out.below hb1)
 have HR1 := Lib.hid (HR0.out.below hb1)
 have HB1 := Lib.hid (bT HB0.out hb1)
 have HS1 := Lib.hid (Nat.le_trans HS0.out hb1.size)
 clear hb1
 have HM1 := Lib.hid (hM1.mono (B' := w.heap.size + 3) (Nat.le_of_eq hs0.symm))
 obtain ⟨r0x, r1x, r2x, r3x, r4x, r5x, r6x, r7x, r8x⟩ := cells9 HR1.out
 obtain ⟨z0x, z1x, z2x, z3x, z4x, z5x, z6x, z7x, z8x⟩ := free9 HR1.out
 obtain ⟨E1, n1, rfl, _⟩ := HM1.out.t.b
 obtain ⟨E2, n2, rfl, _⟩ := HM1.out.t.f
 obtain ⟨E3, n3, rfl, _⟩ := HM1.out.l
 obtain ⟨E4, n4, rfl, _⟩ := HM1.out.o
 clear hM1 m00 m10 m20 m30 m40 m50 m60 m70 m80 k00 k10 y2
 go_wp2
 have o3 := HR1.out.set9 (.slice E1 (grdV m s p r).t.bs.length n1) (.slice E2 (grdV m s p r).t.fs.length n2) (.slice E3 (grdV m s p r).c.ls.length n3) (.int .i64 (grdV m s p r).c.hand) (.int .i64 (grdV m s p r).g.count) (.int .i64 (grdV m s p r).g.next) (.int .i64 (grdV m s p r).g.round) (.slice E4 (grdV m s p r).g.os.length n4) (.int .i64 (grdV m s p r).sp)
 obtain ⟨p0t, p1t, p2t, p3t, p4t, p5t, p6t, p7t, p8t⟩ := cells9 o3
 refine bodyPost_ret (v := .tuple #[.agg #[.slice E1 (grdV m s p r).t.bs.length n1, .slice E2 (grdV m s p r).t.fs.length n2, .slice E3 (grdV m s p r).c.ls.length n3, .int .i64 (grdV m s p r).c.hand, .int .i64 (grdV m s p r).g.count, .int .i64 (grdV m s p r).g.next, .int .i64 (grdV m s p r).g.round, .slice E4 (grdV m s p r).g.os.length n4, .int .i64 (grdV m s p r).sp], .bool (grdO m s p r)]) (by simp [results, Tryz.results59, go_sem, p0t, p1t, p2t, p3t, p4t, p5t, p6t, p7t, p8t]) rfl ⟨_, rfl, _, _, _, _, by first | rfl | rw [hV, hO], ?_, ?_⟩
 ·first | exact (HM1.out.far9 HR1.out _ _ _ _ _ _ _ _ _).mono (by omega) | (rw [hV]; exact (HM1.out.far9 HR1.out _ _ _ _ _ _ _ _ _).mono (by omega))
 ·repeat (refine bS ?_ (by simp <;> omega))
  exact HB1.out
set_option maxHeartbeats 2000000 in
theorem GuardRange_any (vb vf vl vo : Value) (m : Ma) (s p c r : Int) (w : World) (hM : MaR w vb vf vl vo m) (hfree : Free w) :
  Calls Tryz.prog 18 #[.agg #[vb, vf, vl, .int .i64 m.c.hand, .int .i64 m.g.count, .int .i64 m.g.next, .int .i64 m.g.round, vo, .int .i64 m.sp], .agg #[.int .i64 s, .int .i64 p], .int .i64 c, .int .i64 r] w (Post2 fun v w' => ∃ v1 v2 v3 v4, v = .tuple #[.agg #[v1, v2, v3, .int .i64 (rgV (fun m' k => grdO m' s (p + k) r) (fun m' k => grdV m' s (p + k) r) m c).c.hand, .int .i64 (rgV (fun m' k => grdO m' s (p + k) r) (fun m' k => grdV m' s (p + k) r) m c).g.count, .int .i64 (rgV (fun m' k => grdO m' s (p + k) r) (fun m' k => grdV m' s (p + k) r) m c).g.next, .int .i64 (rgV (fun m' k => grdO m' s (p + k) r) (fun m' k => grdV m' s (p + k) r) m c).g.round, v4, .int .i64 (rgV (fun m' k => grdO m' s (p + k) r) (fun m' k => grdV m' s (p + k) r) m c).sp], .bool ((rgO (fun m' k => grdO m' s (p + k) r) (fun m' k => grdV m' s (p + k) r) m c).isSome)] ∧ MaM w.heap.size w' v1 v2 v3 v4 (rgV (fun m' k => grdO m' s (p + k) r) (fun m' k => grdV m' s (p + k) r) m c) ∧ Below w.heap.size w w') := by
 have hri := (ownAt (W := (w.alloc (.cells #[vb, vf, vl, .int .i64 m.c.hand, .int .i64 m.g.count, .int .i64 m.g.next, .int .i64 m.g.round, vo, .int .i64 m.sp] 34)).alloc (.cells #[.int .i64 s, .int .i64 p] 36)) (g := w.heap.size + 1 + 1) (t := 3) (cs := #[.int .i64 r]) (by simp)).alloc (o := .cells #[.slice none 0 0, .slice none 0 0, .slice none 0 0, .int .i64 0, .int .i64 0, .int .i64 0, .int .i64 0, .slice none 0 0, .int .i64 0] 34)
 have hro := ownAt (W := ((w.alloc (.cells #[vb, vf, vl, .int .i64 m.c.hand, .int .i64 m.g.count, .int .i64 m.g.next, .int .i64 m.g.round, vo, .int .i64 m.sp] 34)).alloc (.cells #[.int .i64 s, .int .i64 p] 36)).alloc (.cells #[.int .i64 r] 3)) (g := w.heap.size + 1 + 1 + 1) (t := 34) (cs := #[.slice none 0 0, .slice none 0 0, .slice none 0 0, .int .i64 0, .int .i64 0, .int .i64 0, .int .i64 0, .slice none 0 0, .int .i64 0]) (by simp)
 have hb0 : Below w.heap.size w ((((w.alloc (.cells #[vb, vf, vl, .int .i64 m.c.hand, .int .i64 m.g.count, .int .i64 m.g.next, .int .i64 m.g.round, vo, .int .i64 m.sp] 34)).alloc (.cells #[.int .i64 s, .int .i64 p] 36)).alloc (.cells #[.int .i64 r] 3)).alloc (.cells #[.slice none 0 0, .slice none 0 0, .slice none 0 0, .int .i64 0, .int .i64 0, .int .i64 0, .int .i64 0, .slice none 0 0, .int .i64 0] 34)) := bA (bA (bA (bA bR)))
 have hs0 : ((((w.alloc (.cells #[vb, vf, vl, .int .i64 m.c.hand, .int .i64 m.g.count, .int .i64 m.g.next, .int .i64 m.g.round, vo, .int .i64 m.sp] 34)).alloc (.cells #[.int .i64 s, .int .i64 p] 36)).alloc (.cells #[.int .i64 r] 3)).alloc (.cells #[.slice none 0 0, .slice none 0 0, .slice none 0 0, .int .i64 0, .int .i64 0, .int .i64 0, .int .i64 0, .slice none 0 0, .int .i64 0] 34)).heap.size = w.heap.size + 4 := by simp
 have hkk := ((ownAt (W := w.alloc (.cells #[vb, vf, vl, .int .i64 m.c.hand, .int .i64 m.g.count, .int .i64 m.g.next, .int .i64 m.g.round, vo, .int .i64 m.sp] 34)) (g := w.heap.size + 1) (t := 36) (cs := #[.int .i64 s, .int .i64 p]) (by simp)).alloc (o := .cells #[.int .i64 r] 3)).alloc (o := .cells #[.slice none 0 0, .slice none 0 0, .slice none 0 0, .int .i64 0, .int .i64 0, .int .i64 0, .int .i64 0, .slice none 0 0, .int .i64 0] 34)
 have hmb := (((Own.new_ w 34 #[vb, vf, vl, .int .i64 m.c.hand, .int .i64 m.g.count, .int .i64 m.g.next, .int .i64 m.g.round, vo, .int .i64 m.sp]).alloc (o := .cells #[.int .i64 s, .int .i64 p] 36)).alloc (o := .cells #[.int .i64 r] 3)).alloc (o := .cells #[.slice none 0 0, .slice none 0 0, .slice none 0 0, .int .i64 0, .int .i64 0, .int .i64 0, .int .i64 0, .slice none 0 0, .int .i64 0] 34)
 generalize hW : (((w.alloc (.cells #[vb, vf, vl, .int .i64 m.c.hand, .int .i64 m.g.count, .int .i64 m.g.next, .int .i64 m.g.round, vo, .int .i64 m.sp] 34)).alloc (.cells #[.int .i64 s, .int .i64 p] 36)).alloc (.cells #[.int .i64 r] 3)).alloc (.cells #[.slice none 0 0, .slice none 0 0, .slice none 0 0, .int .i64 0, .int .i64 0, .int .i64 0, .int .i64 0, .slice none 0 0, .int .i64 0] 34) = W0 at hri hro hb0 hs0 hkk hmb
 have HR0 := Lib.hid hro
 have HB0 := Lib.hid hb0
 have HC := Lib.hid (guardRanged_any vb vf vl vo m s p c (w.heap.size + 1 + 1) (fun m' k => grdO m' s (p + k) r) (fun m' k => grdV m' s (p + k) r) W0 (hM.now hb0) (hfree.now hb0) (fun m' h => grdO_kval h) (fun c1 c2 c3 c4 mk k W hk hbw hmk => GuardRange1_any c1 c2 c3 c4 mk k s (p + k) r (w.heap.size + 1 + 1) W hmk (hfree.now (bT hb0 hbw)) (Nat.lt_of_lt_of_le hri.lt hbw.size) ((hri.below hbw).cell_ 0 rfl)))
 obtain ⟨x0, x1, x2, x3, x4, x5, x6, x7, x8⟩ := cells9 hmb
 have k0 := hkk.cell_ 0 (v := .int .i64 s) rfl
 have k1 := hkk.cell_ 1 (v := .int .i64 p) rfl
 clear hro hb0 hri hM hfree hkk hmb
 go_enter Tryz.func18, Tryz.ntmps18
 go_wp2_with fail
 refine HC.out.mono ?_
 rintro e w1 ⟨_, rfl, e1, e2, e3, e4, rfl, hM1, hb1⟩
 clear x0 x1 x2 x3 x4 x5 x6 x7 x8 k0 k1 HC
 have HB1 := Lib.hid (bT HB0.out hb1)
 have HR1 := Lib.hid (HR0.out.below hb1)
 have HM1 := Lib.hid (hM1.mono (B' := w.heap.size + 4) (Nat.le_of_eq hs0.symm))
 obtain ⟨r0x, r1x, r2x, r3x, r4x, r5x, r6x, r7x, r8x⟩ := cells9 HR1.out
 obtain ⟨z0x, z1x, z2x, z3x, z4x, z5x, z6x, z7x, z8x⟩ := free9 HR1.out
 generalize hV : rgV (fun m' k => grdO m' s (p + k) r) (fun m' k => grdV m' s (p + k) r) m c = V at *
 generalize hO : (rgO (fun m' k => grdO m' s (p + k) r) (fun m' k => grdV m' s (p + k) r) m c).isSome = O at *
 obtain ⟨E1, n1, rfl, _⟩ := HM1.out.t.b
 obtain ⟨E2, n2, rfl, _⟩ := HM1.out.t.f
 obtain ⟨E3, n3, rfl, _⟩ := HM1.out.l
 obtain ⟨E4, n4, rfl, _⟩ := HM1.out.o
 clear hM1 hb1
 go_wp2
 have o3 := HR1.out.set9 (.slice E1 (V).t.bs.length n1) (.slice E2 (V).t.fs.length n2) (.slice E3 (V).c.ls.length n3) (.int .i64 (V).c.hand) (.int .i64 (V).g.count) (.int .i64 (V).g.next) (.int .i64 (V).g.round) (.slice E4 (V).g.os.length n4) (.int .i64 (V).sp)
 obtain ⟨p0t, p1t, p2t, p3t, p4t, p5t, p6t, p7t, p8t⟩ := cells9 o3
 refine bodyPost_ret (v := .tuple #[.agg #[.slice E1 (V).t.bs.length n1, .slice E2 (V).t.fs.length n2, .slice E3 (V).c.ls.length n3, .int .i64 (V).c.hand, .int .i64 (V).g.count, .int .i64 (V).g.next, .int .i64 (V).g.round, .slice E4 (V).g.os.length n4, .int .i64 (V).sp], .bool (O)]) (by simp [results, Tryz.results18, go_sem, p0t, p1t, p2t, p3t, p4t, p5t, p6t, p7t, p8t]) rfl ⟨_, rfl, _, _, _, _, by first | rfl | rw [hV, hO], ?_, ?_⟩
 ·first | exact (HM1.out.far9 HR1.out _ _ _ _ _ _ _ _ _).mono (by omega) | (rw [hV]; exact (HM1.out.far9 HR1.out _ _ _ _ _ _ _ _ _).mono (by omega))
 ·repeat (refine bS ?_ (by simp <;> omega))
  exact HB1.out
end Go.Proofs.YtnaagdmaggdbmaaGreatDoor
