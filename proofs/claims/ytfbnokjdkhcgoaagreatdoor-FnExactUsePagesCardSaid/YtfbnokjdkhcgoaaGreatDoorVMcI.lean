/- A part of the proofs of this seat: McI, PpI. -/
import Derived.Deep.RegionHeldLaw
import Derived.Test.YtfbnokjdkhcgoaaGreatDoorVMaI
set_option linter.unusedVariables false
set_option linter.unusedSimpArgs false
set_option maxRecDepth 1000000
namespace Go.Proofs.YtfbnokjdkhcgoaaGreatDoor
open Go.RowKit
set_option maxHeartbeats 1000000 in
theorem mclone_any (vb vf vl vo : Value) (m : Ma) (w : World) (hM : MaR w vb vf vl vo m) (h1 : m.t.bs.length ≤ 1048576) (h2 : m.t.fs.length ≤ 1048576) (h3 : m.c.ls.length ≤ 1048576) (h4 : m.g.os.length ≤ 1048576) :
  Calls Tryz.prog 77 #[.agg #[vb, vf, vl, .int .i64 m.c.hand, .int .i64 m.g.count, .int .i64 m.g.next, .int .i64 m.g.round, vo, .int .i64 m.sp]] w (Post2 fun v w' => ∃ v1 v2 v3 v4, v = .agg #[v1, v2, v3, .int .i64 m.c.hand, .int .i64 m.g.count, .int .i64 m.g.next, .int .i64 m.g.round, v4, .int .i64 m.sp] ∧ MaM w.heap.size w' v1 v2 v3 v4 m ∧ Below w.heap.size w w') := by
 obtain ⟨W0, hW, hbx, hbo, hb0, hs0⟩ := box2 w #[vb, vf, vl, .int .i64 m.c.hand, .int .i64 m.g.count, .int .i64 m.g.next, .int .i64 m.g.round, vo, .int .i64 m.sp] 34 #[.slice none 0 0, .slice none 0 0, .slice none 0 0, .int .i64 0, .int .i64 0, .int .i64 0, .int .i64 0, .slice none 0 0, .int .i64 0] 34
 obtain ⟨m0q, m1q, m2q, m3q, m4q, m5q, m6q, m7q, m8q⟩ := cells9 hbx
 have HX0 := Hd hbx
 have HO0 := Hd hbo
 have HB0 := Hd hb0
 have HM := Hd hM
 clear hbx hbo hb0 hM
 go_enter Tryz.func77, Tryz.ntmps77
 go_wp2_with fail
 refine (tclone_any vb vf m.t _ (HM.out.t.now HB0.out) h1 h2).mono ?_
 rintro e w1 ⟨a1, a2, rfl, hT1, hb1⟩
 obtain ⟨A1, c1, rfl, hc1, hd1, hm1⟩ := hT1.b
 obtain ⟨A2, c2, rfl, hc2, hd2, hm2⟩ := hT1.f
 have HB1 := Hd (bT HB0.out hb1)
 have hx1 := HX0.out.below hb1
 have HO1 := Hd (HO0.out.below hb1)
 have hs1 : w.heap.size + 2 ≤ w1.heap.size := Nat.le_trans (Nat.le_of_eq hs0.symm) hb1.size
 obtain ⟨m0d, m1d, m2d, m3d, m4d, m5d, m6d, m7d, m8d⟩ := cells9 hx1
 have y0 := hx1.free 0
 have y1 := hx1.free 1
 have y2 := hx1.free 2
 have y3 := hx1.free 3
 have y7 := hx1.free 7
 have HX1 := Hd hx1
 have HT1 := Hd (hT1.mono (B' := w.heap.size + 2) (Nat.le_of_eq hs0.symm))
 clear hx1 hT1 hb1 m0q m1q m2q m3q m4q m5q m6q m7q m8q hm1 hm2
 have hx2 := (HX1.out.set_ 0 (.slice A1 m.t.bs.length c1)).set_ 1 (.slice A2 m.t.fs.length c2)
 have hb2 : Below w.heap.size w ((w1.setCell ⟨w.heap.size, 0, none⟩ (.slice A1 m.t.bs.length c1)).setCell ⟨w.heap.size, 1, none⟩ (.slice A2 m.t.fs.length c2)) := bS (bS HB1.out (by simp)) (by simp)
 have hT2 := (HT1.out.far (p := ⟨w.heap.size, 0, none⟩) (u := .slice A1 m.t.bs.length c1) (by show w.heap.size < w.heap.size + 2; omega)).far (p := ⟨w.heap.size, 1, none⟩) (u := .slice A2 m.t.fs.length c2) (by show w.heap.size < w.heap.size + 2; omega)
 have ho2 := (HO1.out.far (p := ⟨w.heap.size, 0, none⟩) (u := .slice A1 m.t.bs.length c1) (by simp)).far (p := ⟨w.heap.size, 1, none⟩) (u := .slice A2 m.t.fs.length c2) (by simp)
 have hs2 : w.heap.size + 2 ≤ ((w1.setCell ⟨w.heap.size, 0, none⟩ (.slice A1 m.t.bs.length c1)).setCell ⟨w.heap.size, 1, none⟩ (.slice A2 m.t.fs.length c2)).heap.size := by simpa using hs1
 generalize hW2 : (w1.setCell ⟨w.heap.size, 0, none⟩ (.slice A1 m.t.bs.length c1)).setCell ⟨w.heap.size, 1, none⟩ (.slice A2 m.t.fs.length c2) = w2 at hx2 hb2 hT2 ho2 hs2
 have hx2b : Own w2 w.heap.size 34 #[.slice A1 m.t.bs.length c1, .slice A2 m.t.fs.length c2, vl, .int .i64 m.c.hand, .int .i64 m.g.count, .int .i64 m.g.next, .int .i64 m.g.round, vo, .int .i64 m.sp] := by simpa using hx2
 have g2 := hx2b.cell_ 2 (v := vl) rfl
 have HX2 := Hd hx2b
 have HB2 := Hd hb2
 have HT2 := Hd hT2
 have HO2 := Hd ho2
 clear hx2 hx2b hb2 hT2 ho2 HX1 HT1 HO1
 go_wp2_with fail
 refine (cloneLine_any vl m.c.ls _ (HM.out.l.now HB2.out) h3).mono ?_
 rintro e w3 ⟨_, rfl, hL3, hb3⟩
 obtain ⟨A3, c3, rfl, hc3, hd3, hm3⟩ := hL3
 have HB3 := Hd (bT HB2.out hb3)
 have HX3 := Hd (HX2.out.below hb3)
 have HO3 := Hd (HO2.out.below hb3)
 have HT3 := Hd (HT2.out.now hb3)
 have hs3 : w.heap.size + 2 ≤ w3.heap.size := Nat.le_trans hs2 hb3.size
 have HL3 : Hid (SlM lnE 50 (w.heap.size + 2) w3 (.slice A3 m.c.ls.length m.c.ls.length) m.c.ls) := slm_of rfl (Nat.le_refl _) (by unfold maxLen; omega) (hm3.mono hs2)
 clear hb3 hm3 m0d m1d m2d m3d m4d m5d m6d m7d m8d y0 y1 y2 y3 y7
 have z7 := HX3.out.cell_ 7 (v := vo) rfl
 have z2 := HX3.out.cell_ 2 (v := vl) rfl
 have f2 := HX3.out.free 2
 go_wp2_with fail
 refine (clipLine_any A3 m.c.ls.length c3 _ hc3).mono ?_
 rintro e _ ⟨rfl, rfl⟩
 have hx4 := HX3.out.set_ 2 (.slice A3 m.c.ls.length m.c.ls.length)
 have hb4 : Below w.heap.size w (w3.setCell ⟨w.heap.size, 2, none⟩ (.slice A3 m.c.ls.length m.c.ls.length)) := bS HB3.out (by simp)
 have hT4 := HT3.out.far (p := ⟨w.heap.size, 2, none⟩) (u := .slice A3 m.c.ls.length m.c.ls.length) (by show w.heap.size < w.heap.size + 2; omega)
 have hL4 := HL3.out.far (p := ⟨w.heap.size, 2, none⟩) (u := .slice A3 m.c.ls.length m.c.ls.length) (by show w.heap.size < w.heap.size + 2; omega)
 have ho4 := HO3.out.far (p := ⟨w.heap.size, 2, none⟩) (u := .slice A3 m.c.ls.length m.c.ls.length) (by simp)
 have hs4 : w.heap.size + 2 ≤ (w3.setCell ⟨w.heap.size, 2, none⟩ (.slice A3 m.c.ls.length m.c.ls.length)).heap.size := by simpa using hs3
 generalize hW4 : w3.setCell ⟨w.heap.size, 2, none⟩ (.slice A3 m.c.ls.length m.c.ls.length) = w4 at hx4 hb4 hT4 hL4 ho4 hs4
 have hx4b : Own w4 w.heap.size 34 #[.slice A1 m.t.bs.length c1, .slice A2 m.t.fs.length c2, .slice A3 m.c.ls.length m.c.ls.length, .int .i64 m.c.hand, .int .i64 m.g.count, .int .i64 m.g.next, .int .i64 m.g.round, vo, .int .i64 m.sp] := by simpa using hx4
 have HX4 := Hd hx4b
 have HB4 := Hd hb4
 have HT4 := Hd hT4
 have HL4 := Hd hL4
 have HO4 := Hd ho4
 clear hx4 hx4b hb4 hT4 hL4 ho4 HX3 HT3 HO3 HL3
 have v7 := HX4.out.cell_ 7 (v := vo) rfl
 go_wp2_with fail
 refine (cloneOwn_any vo m.g.os _ (HM.out.o.now HB4.out) h4).mono ?_
 rintro e w5 ⟨_, rfl, hO5, hb5⟩
 obtain ⟨A4, c4, rfl, hc4, hd4, hm4⟩ := hO5
 have HB5 := Hd (bT HB4.out hb5)
 have hx5 := HX4.out.below hb5
 have ho5 := HO4.out.below hb5
 have HM5 : Hid (MaM (w.heap.size + 2) w5 (.slice A1 m.t.bs.length c1) (.slice A2 m.t.fs.length c2) (.slice A3 m.c.ls.length m.c.ls.length) (.slice A4 m.g.os.length m.g.os.length) m) := ⟨HT4.out.now hb5, HL4.out.now hb5, slm_of rfl (Nat.le_refl _) (by unfold maxLen; omega) (hm4.mono hs4)⟩
 clear hb5 hm4 z7 z2 f2 v7
 have u7 := hx5.cell_ 7 (v := vo) rfl
 have u0 := hx5.cell_ 0 (v := .slice A1 m.t.bs.length c1) rfl
 have u1 := hx5.cell_ 1 (v := .slice A2 m.t.fs.length c2) rfl
 have u2 := hx5.cell_ 2 (v := .slice A3 m.c.ls.length m.c.ls.length) rfl
 have u3 := hx5.cell_ 3 (v := .int .i64 m.c.hand) rfl
 have u4 := hx5.cell_ 4 (v := .int .i64 m.g.count) rfl
 have u5 := hx5.cell_ 5 (v := .int .i64 m.g.next) rfl
 have u6 := hx5.cell_ 6 (v := .int .i64 m.g.round) rfl
 have u8 := hx5.cell_ 8 (v := .int .i64 m.sp) rfl
 have f7 := hx5.free 7
 obtain ⟨r0x, r1x, r2x, r3x, r4x, r5x, r6x, r7x, r8x⟩ := cells9 ho5
 obtain ⟨z0x, z1x, z2x, z3x, z4x, z5x, z6x, z7x, z8x⟩ := free9 ho5
 have HO5 := Hd ho5
 clear hx5 ho5
 go_wp2_with fail
 refine (clipOwn_any A4 m.g.os.length c4 _ hc4).mono ?_
 rintro e _ ⟨rfl, rfl⟩
 go_wp2
 have o3 := (((((((((HO5.out.far (p := ⟨w.heap.size, 7, none⟩) (u := .slice A4 m.g.os.length m.g.os.length) (by simp)).set_ 0 (.slice A1 m.t.bs.length c1)).set_ 1 (.slice A2 m.t.fs.length c2)).set_ 2 (.slice A3 m.c.ls.length m.c.ls.length)).set_ 3 (.int .i64 m.c.hand)).set_ 4 (.int .i64 m.g.count)).set_ 5 (.int .i64 m.g.next)).set_ 6 (.int .i64 m.g.round)).set_ 7 (.slice A4 m.g.os.length m.g.os.length)).set_ 8 (.int .i64 m.sp)
 have t0 := o3.cell_ 0 (v := .slice A1 m.t.bs.length c1) (by simp)
 have t1 := o3.cell_ 1 (v := .slice A2 m.t.fs.length c2) (by simp)
 have t2 := o3.cell_ 2 (v := .slice A3 m.c.ls.length m.c.ls.length) (by simp)
 have t3 := o3.cell_ 3 (v := .int .i64 m.c.hand) (by simp)
 have t4 := o3.cell_ 4 (v := .int .i64 m.g.count) (by simp)
 have t5 := o3.cell_ 5 (v := .int .i64 m.g.next) (by simp)
 have t6 := o3.cell_ 6 (v := .int .i64 m.g.round) (by simp)
 have t7 := o3.cell_ 7 (v := .slice A4 m.g.os.length m.g.os.length) (by simp)
 have t8 := o3.cell_ 8 (v := .int .i64 m.sp) (by simp)
 refine bodyPost_ret (v := .agg #[.slice A1 m.t.bs.length c1, .slice A2 m.t.fs.length c2, .slice A3 m.c.ls.length m.c.ls.length, .int .i64 m.c.hand, .int .i64 m.g.count, .int .i64 m.g.next, .int .i64 m.g.round, .slice A4 m.g.os.length m.g.os.length, .int .i64 m.sp]) (by simp [results, Tryz.results77, go_sem, t0, t1, t2, t3, t4, t5, t6, t7, t8]) rfl ⟨_, rfl, _, _, _, _, rfl, ?_, ?_⟩
 ·refine MaM.mono (B := w.heap.size + 2) ?_ (by omega)
  repeat (refine MaM.far ?_ (by simp))
  exact HM5.out
 ·repeat (refine bS ?_ (by simp))
  exact HB5.out
theorem putOK_false {m : Ma} {s p fr r : Int} (h : putOK m s p fr r = false) : putV m s p fr r = maz := by unfold putV; rw [h]; rfl
theorem mav_len {m : Ma} (h : mav m = true) : m.t.bs.length ≤ 1048576 ∧ m.t.fs.length ≤ 1048576 ∧ m.c.ls.length ≤ 1048576 ∧ m.g.os.length ≤ 1048576 := by
 obtain ⟨h1, h2, h3, _⟩ := mav_parts h
 have a := (tv_parts h1).1
 have b := cav_parts h2
 have c := tgv_parts h3
 have d := tok_len c.2 c.1.2.2.1
 omega
set_option maxHeartbeats 2000000 in
theorem PutPage_any (vb vf vl vo : Value) (m : Ma) (s p fr r : Int) (w : World) (hM : MaR w vb vf vl vo m) (hfree : Free w) :
  Calls Tryz.prog 44 #[.agg #[vb, vf, vl, .int .i64 m.c.hand, .int .i64 m.g.count, .int .i64 m.g.next, .int .i64 m.g.round, vo, .int .i64 m.sp], .agg #[.int .i64 s, .int .i64 p], .int .i64 fr, .int .i64 r] w (Post2 fun v w' => ∃ v1 v2 v3 v4, v = .tuple #[.agg #[v1, v2, v3, .int .i64 (putV m s p fr r).c.hand, .int .i64 (putV m s p fr r).g.count, .int .i64 (putV m s p fr r).g.next, .int .i64 (putV m s p fr r).g.round, v4, .int .i64 (putV m s p fr r).sp], .bool (putOK m s p fr r)] ∧ MaM w.heap.size w' v1 v2 v3 v4 (putV m s p fr r) ∧ Below w.heap.size w w') := by
 obtain ⟨W0, hW, hbx, hbk, hbo, hb0, hs0⟩ := box3 w #[vb, vf, vl, .int .i64 m.c.hand, .int .i64 m.g.count, .int .i64 m.g.next, .int .i64 m.g.round, vo, .int .i64 m.sp] 34 #[.int .i64 s, .int .i64 p] 54 #[.slice none 0 0, .slice none 0 0, .slice none 0 0, .int .i64 0, .int .i64 0, .int .i64 0, .int .i64 0, .slice none 0 0, .int .i64 0] 34
 have HX0 := Hd hbx
 have HK0 := Hd hbk
 have HR0 := Hd hbo
 have HB0 := Hd hb0
 have HS0 : Hid (w.heap.size + 3 ≤ W0.heap.size) := Nat.le_of_eq hs0.symm
 clear hbx hbk hbo hb0
 have HM := Hd hM
 have HF := Hd hfree
 clear hM hfree
 have HMV := Hd (fun W (h : MaR W vb vf vl vo m) (hf : Free W) => MachineValid_any vb vf vl vo m W h hf)
 have HKF := Hd (KeyFor_any s p)
 have x0 := xcell (HX0.out.cell_ 0 (v := vb) rfl) HX0.out.lt
 have x1 := xcell (HX0.out.cell_ 1 (v := vf) rfl) HX0.out.lt
 have x2 := xcell (HX0.out.cell_ 2 (v := vl) rfl) HX0.out.lt
 have x3 := xcell (HX0.out.cell_ 3 (v := .int .i64 m.c.hand) rfl) HX0.out.lt
 have x4 := xcell (HX0.out.cell_ 4 (v := .int .i64 m.g.count) rfl) HX0.out.lt
 have x5 := xcell (HX0.out.cell_ 5 (v := .int .i64 m.g.next) rfl) HX0.out.lt
 have x6 := xcell (HX0.out.cell_ 6 (v := .int .i64 m.g.round) rfl) HX0.out.lt
 have x7 := xcell (HX0.out.cell_ 7 (v := vo) rfl) HX0.out.lt
 have x8 := xcell (HX0.out.cell_ 8 (v := .int .i64 m.sp) rfl) HX0.out.lt
 have y0 := xcell (HK0.out.cell_ 0 (v := .int .i64 s) rfl) HK0.out.lt
 have y1 := xcell (HK0.out.cell_ 1 (v := .int .i64 p) rfl) HK0.out.lt
 have hne := fun W => neq_of (t := 54) (fun e w => eqIn_key (e + 1) s p (keyI s p) p w) W
 cases h1 : mav m with
 | false =>
  rw [h1] at HMV
  have HA : Hid (putOK m s p fr r = false) := by show _ = _; unfold putOK; rw [h1]; rfl
  have HV := Hd (putOK_false HA.out)
  go_enter Tryz.func44, Tryz.ntmps44
  go_wp2
  refine wp_region_ext (by kernel_rfl) (by kernel_rfl) ?_
  repeat (go_big_quiet_step ((first | (go_at_call 72; exact ext_call (HMV.out _ (HM.out.now (bT HB0.out (Ext.ok _))) (HF.out.now (bT HB0.out (Ext.ok _))))) | (go_at_call 40; exact ext_call (HKF.out _)))))
  refine wpQuiet_nil ?_
  intro _ hw'
  obtain ⟨⟨wq, hq⟩, hw''⟩ := hw'
  subst hw''
  try dsimp only
  have hb1 := hq
  clear x0 x1 x2 x3 x4 x5 x6 x7 x8 y0 y1
  have HX1 := Hd (HX0.out.below hb1)
  have HK1 := Hd (HK0.out.below hb1)
  have HR1 := Hd (HR0.out.below hb1)
  have HB1 := Hd (bT HB0.out hb1)
  have HS1 := Hd (Nat.le_trans HS0.out hb1.size)
  clear hb1
  obtain ⟨r0x, r1x, r2x, r3x, r4x, r5x, r6x, r7x, r8x⟩ := cells9 HR1.out
  obtain ⟨z0x, z1x, z2x, z3x, z4x, z5x, z6x, z7x, z8x⟩ := free9 HR1.out
  go_wp2
  obtain ⟨t0, t1, t2, t3, t4, t5, t6, t7, t8⟩ := cells9 (set9z HR1.out)
  refine bodyPost_ret (v := .tuple #[.agg #[.slice none 0 0, .slice none 0 0, .slice none 0 0, .int .i64 0, .int .i64 0, .int .i64 0, .int .i64 0, .slice none 0 0, .int .i64 0], .bool false]) (by simp [results, Tryz.results44, go_sem, t0, t1, t2, t3, t4, t5, t6, t7, t8]) rfl ⟨_, rfl, _, _, _, _, by rw [HA.out, HV.out]; rfl, by rw [HV.out]; exact mam_z, ?_⟩
  repeat (refine bS ?_ (by simp <;> omega))
  exact HB1.out
 | true =>
  rw [h1] at HMV
  by_cases h2 : keyI s p = s
  case neg =>
   have HA : Hid (putOK m s p fr r = false) := by show _ = _; unfold putOK; rw [decide_eq_false h2]; simp
   have HV := Hd (putOK_false HA.out)
   have hkq : keq s p (keyI s p) p = false := by unfold keq; simp; exact fun h => h2 h.symm
   rw [hkq] at hne
   generalize keyI s p = ks at *
   go_enter Tryz.func44, Tryz.ntmps44
   go_wp2
   refine wp_region_ext (by kernel_rfl) (by kernel_rfl) ?_
   repeat (go_big_quiet_step ((first | (go_at_call 72; exact ext_call (HMV.out _ (HM.out.now (bT HB0.out (Ext.ok _))) (HF.out.now (bT HB0.out (Ext.ok _))))) | (go_at_call 40; exact ext_call (HKF.out _)))))
   refine wpQuiet_nil ?_
   intro _ hw'
   obtain ⟨⟨wq, hq⟩, hw''⟩ := hw'
   subst hw''
   try dsimp only
   have hb1 := hq
   clear x0 x1 x2 x3 x4 x5 x6 x7 x8 y0 y1
   have HX1 := Hd (HX0.out.below hb1)
   have HK1 := Hd (HK0.out.below hb1)
   have HR1 := Hd (HR0.out.below hb1)
   have HB1 := Hd (bT HB0.out hb1)
   have HS1 := Hd (Nat.le_trans HS0.out hb1.size)
   clear hb1
   obtain ⟨r0x, r1x, r2x, r3x, r4x, r5x, r6x, r7x, r8x⟩ := cells9 HR1.out
   obtain ⟨z0x, z1x, z2x, z3x, z4x, z5x, z6x, z7x, z8x⟩ := free9 HR1.out
   go_wp2
   obtain ⟨t0, t1, t2, t3, t4, t5, t6, t7, t8⟩ := cells9 (set9z HR1.out)
   refine bodyPost_ret (v := .tuple #[.agg #[.slice none 0 0, .slice none 0 0, .slice none 0 0, .int .i64 0, .int .i64 0, .int .i64 0, .int .i64 0, .slice none 0 0, .int .i64 0], .bool false]) (by simp [results, Tryz.results44, go_sem, t0, t1, t2, t3, t4, t5, t6, t7, t8]) rfl ⟨_, rfl, _, _, _, _, by rw [HA.out, HV.out]; rfl, by rw [HV.out]; exact mam_z, ?_⟩
   repeat (refine bS ?_ (by simp <;> omega))
   exact HB1.out
  case pos =>
   have hkq : keq s p (keyI s p) p = true := by unfold keq; rw [h2]; simp
   rw [hkq] at hne
   rw [h2] at hne HKF
   obtain ⟨a1, a2, a3, a4⟩ := mav_len h1
   go_enter Tryz.func44, Tryz.ntmps44
   go_wp2
   refine wp_region_ext (by kernel_rfl) (by kernel_rfl) ?_
   repeat (go_big_quiet_step ((first | (go_at_call 72; exact ext_call (HMV.out _ (HM.out.now (bT HB0.out (Ext.ok _))) (HF.out.now (bT HB0.out (Ext.ok _))))) | (go_at_call 40; exact ext_call (HKF.out _)))))
   refine wpQuiet_nil ?_
   intro _ hw'
   obtain ⟨⟨wq, hq⟩, hw''⟩ := hw'
   subst hw''
   try dsimp only
   have hb1 := hq
   clear x0 x1 x2 x3 x4 x5 x6 x7 x8 y0 y1
   have HX1 := Hd (HX0.out.below hb1)
   have HK1 := Hd (HK0.out.below hb1)
   have HR1 := Hd (HR0.out.below hb1)
   have HB1 := Hd (bT HB0.out hb1)
   have HS1 := Hd (Nat.le_trans HS0.out hb1.size)
   clear hb1
   obtain ⟨m01, m11, m21, m31, m41, m51, m61, m71, m81⟩ := cells9 HX1.out
   have k01 := HK1.out.cell_ 0 (v := .int .i64 s) rfl
   have k11 := HK1.out.cell_ 1 (v := .int .i64 p) rfl
   go_wp2_with fail
   refine (MapPage_any vb vf m.t s p fr r _ (HM.out.t.now HB1.out) (HF.out.now HB1.out)).mono ?_
   rintro e w2 ⟨_, rfl, v1, v2, rfl, hT2, hb2⟩
   obtain ⟨A1, c1, rfl, _⟩ := hT2.b
   obtain ⟨A2, c2, rfl, _⟩ := hT2.f
   have hs1 := HS1.out
   have HX2 := Hd (HX1.out.below hb2)
   have HK2 := Hd (HK1.out.below hb2)
   have HR2 := Hd (HR1.out.below hb2)
   have HB2 := Hd (bT HB1.out hb2)
   have HS2 := Hd (Nat.le_trans HS1.out hb2.size)
   clear hb2
   clear m01 m11 m21 m31 m41 m51 m61 m71 m81
   clear k01 k11
   have ho5 := Own.new_ w2 26 #[.slice A1 (mapV m.t s p fr r).bs.length c1, .slice A2 (mapV m.t s p fr r).fs.length c2]
   have hb5 : Below w2.heap.size w2 (w2.alloc (.cells #[.slice A1 (mapV m.t s p fr r).bs.length c1, .slice A2 (mapV m.t s p fr r).fs.length c2] 26)) := bA bR
   generalize hW5 : w2.alloc (.cells #[.slice A1 (mapV m.t s p fr r).bs.length c1, .slice A2 (mapV m.t s p fr r).fs.length c2] 26) = w5 at ho5 hb5
   have HT5 := Hd ((hT2.now hb5).mono hs1)
   clear hT2
   have HX5 := Hd (HX2.out.below hb5)
   have HK5 := Hd (HK2.out.below hb5)
   have HR5 := Hd (HR2.out.below hb5)
   have HB5 := Hd (bT HB2.out hb5)
   have HS5 := Hd (Nat.le_trans HS2.out hb5.size)
   clear hb5
   cases h3 : mapOK m.t s p fr r with
   | false =>
    have HA : Hid (putOK m s p fr r = false) := by show _ = _; unfold putOK; rw [h3]; simp
    have HV := Hd (putOK_false HA.out)
    clear ho5
    obtain ⟨r0x, r1x, r2x, r3x, r4x, r5x, r6x, r7x, r8x⟩ := cells9 HR5.out
    obtain ⟨z0x, z1x, z2x, z3x, z4x, z5x, z6x, z7x, z8x⟩ := free9 HR5.out
    go_wp2
    obtain ⟨t0, t1, t2, t3, t4, t5, t6, t7, t8⟩ := cells9 (set9z HR5.out)
    refine bodyPost_ret (v := .tuple #[.agg #[.slice none 0 0, .slice none 0 0, .slice none 0 0, .int .i64 0, .int .i64 0, .int .i64 0, .int .i64 0, .slice none 0 0, .int .i64 0], .bool false]) (by simp [results, Tryz.results44, go_sem, t0, t1, t2, t3, t4, t5, t6, t7, t8]) rfl ⟨_, rfl, _, _, _, _, by rw [HA.out, HV.out]; rfl, by rw [HV.out]; exact mam_z, ?_⟩
    repeat (refine bS ?_ (by simp <;> omega))
    exact HB5.out
   | true =>
    have HA : Hid (putOK m s p fr r = true) := by show _ = _; unfold putOK; rw [h1, h3, decide_eq_true h2]; rfl
    have HV : Hid (putV m s p fr r = { m with t := mapV m.t s p fr r }) := by show _ = _; unfold putV; rw [HA.out]; rfl
    obtain ⟨m05, m15, m25, m35, m45, m55, m65, m75, m85⟩ := cells9 HX5.out
    go_wp2_with fail
    refine (mclone_any vb vf vl vo m _ (HM.out.now HB5.out) a1 a2 a3 a4).mono ?_
    rintro e w3 ⟨_, rfl, q1, q2, q3, q4, rfl, hM3, hb3⟩
    have hs2 := HS5.out
    have HT3 := Hd (HT5.out.now hb3)
    have HM3 := Hd (hM3.mono hs2)
    have ho3 := ho5.below hb3
    have u0 := ho3.cell_ 0 (v := .slice A1 (mapV m.t s p fr r).bs.length c1) rfl
    have u1 := ho3.cell_ 1 (v := .slice A2 (mapV m.t s p fr r).fs.length c2) rfl
    have hl5 := ho3.lt
    obtain ⟨B1, d1, rfl, _⟩ := HM3.out.t.b
    obtain ⟨B2, d2, rfl, _⟩ := HM3.out.t.f
    obtain ⟨B3, d3, rfl, _⟩ := HM3.out.l
    obtain ⟨B4, d4, rfl, _⟩ := HM3.out.o
    clear hM3 ho3 ho5
    have HX3 := Hd (HX5.out.below hb3)
    have HK3 := Hd (HK5.out.below hb3)
    have HR3 := Hd (HR5.out.below hb3)
    have HB3 := Hd (bT HB5.out hb3)
    have HS3 := Hd (Nat.le_trans HS5.out hb3.size)
    clear hb3
    clear m05 m15 m25 m35 m45 m55 m65 m75 m85
    obtain ⟨r0x, r1x, r2x, r3x, r4x, r5x, r6x, r7x, r8x⟩ := cells9 HR3.out
    obtain ⟨z0x, z1x, z2x, z3x, z4x, z5x, z6x, z7x, z8x⟩ := free9 HR3.out
    have hl3 := HR3.out.lt
    go_wp2
    have o3 := (((((((((HR3.out.set_ 0 (.slice A1 (mapV m.t s p fr r).bs.length c1)).set_ 1 (.slice A2 (mapV m.t s p fr r).fs.length c2)).set_ 2 (.slice B3 m.c.ls.length d3)).set_ 3 (.int .i64 m.c.hand)).set_ 4 (.int .i64 m.g.count)).set_ 5 (.int .i64 m.g.next)).set_ 6 (.int .i64 m.g.round)).set_ 7 (.slice B4 m.g.os.length d4)).set_ 8 (.int .i64 m.sp))
    have o4 := o3.alloc (o := .cells #[.slice A1 (mapV m.t s p fr r).bs.length c1, .slice A2 (mapV m.t s p fr r).fs.length c2, .slice B3 m.c.ls.length d3, .int .i64 m.c.hand, .int .i64 m.g.count, .int .i64 m.g.next, .int .i64 m.g.round, .slice B4 m.g.os.length d4, .int .i64 m.sp] 34)
    have v0 := o4.cell_ 0 (v := .slice A1 (mapV m.t s p fr r).bs.length c1) (by simp)
    have v1 := o4.cell_ 1 (v := .slice A2 (mapV m.t s p fr r).fs.length c2) (by simp)
    have v2 := o4.cell_ 2 (v := .slice B3 m.c.ls.length d3) (by simp)
    have v3 := o4.cell_ 3 (v := .int .i64 m.c.hand) (by simp)
    have v4 := o4.cell_ 4 (v := .int .i64 m.g.count) (by simp)
    have v5 := o4.cell_ 5 (v := .int .i64 m.g.next) (by simp)
    have v6 := o4.cell_ 6 (v := .int .i64 m.g.round) (by simp)
    have v7 := o4.cell_ 7 (v := .slice B4 m.g.os.length d4) (by simp)
    have v8 := o4.cell_ 8 (v := .int .i64 m.sp) (by simp)
    refine bodyPost_ret (v := .tuple #[.agg #[.slice A1 (mapV m.t s p fr r).bs.length c1, .slice A2 (mapV m.t s p fr r).fs.length c2, .slice B3 m.c.ls.length d3, .int .i64 m.c.hand, .int .i64 m.g.count, .int .i64 m.g.next, .int .i64 m.g.round, .slice B4 m.g.os.length d4, .int .i64 m.sp], .bool true]) (by simp [results, Tryz.results44, go_sem, v0, v1, v2, v3, v4, v5, v6, v7, v8]) rfl ⟨_, rfl, _, _, _, _, by rw [HA.out, HV.out], ?_, ?_⟩
    ·rw [HV.out]
     have hmm : MaM (w.heap.size + 3) w3 (.slice A1 (mapV m.t s p fr r).bs.length c1) (.slice A2 (mapV m.t s p fr r).fs.length c2) (.slice B3 m.c.ls.length d3) (.slice B4 m.g.os.length d4) { m with t := mapV m.t s p fr r } := ⟨HT3.out, HM3.out.l, HM3.out.o⟩
     refine MaM.mono (B := w.heap.size + 3) (MaM.now ?_ (bA bR)) (by omega)
     repeat (refine MaM.far ?_ (by show w.heap.size + 1 + 1 < w.heap.size + 3; omega))
     exact hmm
    ·refine bA ?_
     repeat (refine bS ?_ (by simp <;> omega))
     exact HB3.out
end Go.Proofs.YtfbnokjdkhcgoaaGreatDoor
