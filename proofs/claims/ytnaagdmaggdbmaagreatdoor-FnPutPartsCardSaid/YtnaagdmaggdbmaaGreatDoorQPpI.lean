/- A part of the proofs of this seat: PpI. -/
import Derived.Deep.RegionHeldLaw
import Derived.Test.YtnaagdmaggdbmaaGreatDoorQEq
import Derived.Test.YtnaagdmaggdbmaaGreatDoorQCpS
import Derived.Test.YtnaagdmaggdbmaaGreatDoorQCp6
set_option linter.unusedVariables false
set_option linter.unusedSimpArgs false
namespace Go.Proofs.YtnaagdmaggdbmaaGreatDoor
open Go.RowKit
set_option maxRecDepth 1000000
theorem putOK_false {m : Ma} {s p fr r : Int} (h : putOK m s p fr r = false) : putV m s p fr r = maz := by unfold putV; rw [h]; rfl
theorem mav_len {m : Ma} (h : mav m = true) : m.t.bs.length ≤ 1048576 ∧ m.t.fs.length ≤ 1048576 ∧ m.c.ls.length ≤ 1048576 ∧ m.g.os.length ≤ 1048576 := by
 obtain ⟨h1, h2, h3, _⟩ := mav_parts h
 have a := (tv_parts h1).1
 have b := cav_parts h2
 have c := tgv_parts h3
 have d := tok_len c.2 c.1.2.2.1
 omega
set_option maxHeartbeats 2000000 in
theorem PutPage_any (vb vf vl vo : Value) (m : Ma) (s p fr r : Int) (w : World) (hM : MaR w vb vf vl vo m) (hfree : Free w) :
  Calls Tryz.prog 52 #[.agg #[vb, vf, vl, .int .i64 m.c.hand, .int .i64 m.g.count, .int .i64 m.g.next, .int .i64 m.g.round, vo, .int .i64 m.sp], .agg #[.int .i64 s, .int .i64 p], .int .i64 fr, .int .i64 r] w (Post2 fun v w' => ∃ v1 v2 v3 v4, v = .tuple #[.agg #[v1, v2, v3, .int .i64 (putV m s p fr r).c.hand, .int .i64 (putV m s p fr r).g.count, .int .i64 (putV m s p fr r).g.next, .int .i64 (putV m s p fr r).g.round, v4, .int .i64 (putV m s p fr r).sp], .bool (putOK m s p fr r)] ∧ MaM w.heap.size w' v1 v2 v3 v4 (putV m s p fr r) ∧ Below w.heap.size w w') := by
 have hbx := ((Own.new_ w 34 #[vb, vf, vl, .int .i64 m.c.hand, .int .i64 m.g.count, .int .i64 m.g.next, .int .i64 m.g.round, vo, .int .i64 m.sp]).alloc (o := .cells #[.int .i64 s, .int .i64 p] 36)).alloc (o := .cells #[.slice none 0 0, .slice none 0 0, .slice none 0 0, .int .i64 0, .int .i64 0, .int .i64 0, .int .i64 0, .slice none 0 0, .int .i64 0] 34)
 have hbk := (ownAt (W := w.alloc (.cells #[vb, vf, vl, .int .i64 m.c.hand, .int .i64 m.g.count, .int .i64 m.g.next, .int .i64 m.g.round, vo, .int .i64 m.sp] 34)) (g := w.heap.size + 1) (t := 36) (cs := #[.int .i64 s, .int .i64 p]) (by simp)).alloc (o := .cells #[.slice none 0 0, .slice none 0 0, .slice none 0 0, .int .i64 0, .int .i64 0, .int .i64 0, .int .i64 0, .slice none 0 0, .int .i64 0] 34)
 have hbo := ownAt (W := (w.alloc (.cells #[vb, vf, vl, .int .i64 m.c.hand, .int .i64 m.g.count, .int .i64 m.g.next, .int .i64 m.g.round, vo, .int .i64 m.sp] 34)).alloc (.cells #[.int .i64 s, .int .i64 p] 36)) (g := w.heap.size + 1 + 1) (t := 34) (cs := #[.slice none 0 0, .slice none 0 0, .slice none 0 0, .int .i64 0, .int .i64 0, .int .i64 0, .int .i64 0, .slice none 0 0, .int .i64 0]) (by simp)
 have hb0 : Below w.heap.size w (((w.alloc (.cells #[vb, vf, vl, .int .i64 m.c.hand, .int .i64 m.g.count, .int .i64 m.g.next, .int .i64 m.g.round, vo, .int .i64 m.sp] 34)).alloc (.cells #[.int .i64 s, .int .i64 p] 36)).alloc (.cells #[.slice none 0 0, .slice none 0 0, .slice none 0 0, .int .i64 0, .int .i64 0, .int .i64 0, .int .i64 0, .slice none 0 0, .int .i64 0] 34)) := bA (bA (bA bR))
 have hs0 : (((w.alloc (.cells #[vb, vf, vl, .int .i64 m.c.hand, .int .i64 m.g.count, .int .i64 m.g.next, .int .i64 m.g.round, vo, .int .i64 m.sp] 34)).alloc (.cells #[.int .i64 s, .int .i64 p] 36)).alloc (.cells #[.slice none 0 0, .slice none 0 0, .slice none 0 0, .int .i64 0, .int .i64 0, .int .i64 0, .int .i64 0, .slice none 0 0, .int .i64 0] 34)).heap.size = w.heap.size + 3 := by simp
 generalize hW : ((w.alloc (.cells #[vb, vf, vl, .int .i64 m.c.hand, .int .i64 m.g.count, .int .i64 m.g.next, .int .i64 m.g.round, vo, .int .i64 m.sp] 34)).alloc (.cells #[.int .i64 s, .int .i64 p] 36)).alloc (.cells #[.slice none 0 0, .slice none 0 0, .slice none 0 0, .int .i64 0, .int .i64 0, .int .i64 0, .int .i64 0, .slice none 0 0, .int .i64 0] 34) = W0 at hbx hbk hbo hb0 hs0
 have HX0 := Lib.hid hbx
 have HK0 := Lib.hid hbk
 have HR0 := Lib.hid hbo
 have HB0 := Lib.hid hb0
 have HS0 : Hid (w.heap.size + 3 ≤ W0.heap.size) := Nat.le_of_eq hs0.symm
 clear hbx hbk hbo hb0
 have HM := Lib.hid hM
 have HF := Lib.hid hfree
 clear hM hfree
 have HMV := Lib.hid (fun W (h : MaR W vb vf vl vo m) (hf : Free W) => MachineValid_any vb vf vl vo m W h hf)
 have HKF := Lib.hid (KeyFor_any s p)
 have x0 := xcell (HX0.out.cell_ 0 (v := vb) rfl) HX0.out.lt
 have x1 := xcell (HX0.out.cell_ 1 (v := vf) rfl) HX0.out.lt
 have x2 := xcell (HX0.out.cell_ 2 (v := vl) rfl) HX0.out.lt
 have x3 := xcell (HX0.out.cell_ 3 (v := .int .i64 m.c.hand) rfl) HX0.out.lt
 have x4 := xcell (HX0.out.cell_ 4 (v := .int .i64 m.g.count) rfl) HX0.out.lt
 have x5 := xcell (HX0.out.cell_ 5 (v := .int .i64 m.g.next) rfl) HX0.out.lt
 have x6 := xcell (HX0.out.cell_ 6 (v := .int .i64 m.g.round) rfl) HX0.out.lt
 have x7 := xcell (HX0.out.cell_ 7 (v := vo) rfl) HX0.out.lt
 have x8 := xcell (HX0.out.cell_ 8 (v := .int .i64 m.sp) rfl) HX0.out.lt
 have y0 := xcell (HK0.out.cell_ 0 (v := .int .i64 s) rfl) HK0.out.lt
 have y1 := xcell (HK0.out.cell_ 1 (v := .int .i64 p) rfl) HK0.out.lt
 have hne := fun W => neq_of (t := 36) (fun e w => eqIn_key (e + 1) s p (keyI s p) p w) W
 cases h1 : mav m with
 | false =>
  rw [h1] at HMV
  have HA : Hid (putOK m s p fr r = false) := by show _ = _; unfold putOK; rw [h1]; rfl
  have HV := Lib.hid (putOK_false HA.out)
  go_enter Tryz.func52, Tryz.ntmps52
  go_wp2
  refine wp_region_ext (by kernel_rfl) (by kernel_rfl) ?_
  repeat (go_big_quiet_step ((first | (go_at_call 21; exact ext_call (HMV.out _ (HM.out.now (bT HB0.out (Ext.ok _))) (HF.out.now (bT HB0.out (Ext.ok _))))) | (go_at_call 29; exact ext_call (HKF.out _)))))
  refine wpQuiet_nil ?_
  intro _ hw'
  obtain ⟨⟨wq, hq⟩, hw''⟩ := hw'
  subst hw''
  try dsimp only
  have hb1 := hq
  clear x0 x1 x2 x3 x4 x5 x6 x7 x8 y0 y1
  have HX1 := Lib.hid (HX0.out.below hb1)
  have HK1 := Lib.hid (HK0.out.below hb1)
  have HR1 := Lib.hid (HR0.out.below hb1)
  have HB1 := Lib.hid (bT HB0.out hb1)
  have HS1 := Lib.hid (Nat.le_trans HS0.out hb1.size)
  clear hb1
  have r0x := HR1.out.cell_ 0 (v := .slice none 0 0) rfl
  have r1x := HR1.out.cell_ 1 (v := .slice none 0 0) rfl
  have r2x := HR1.out.cell_ 2 (v := .slice none 0 0) rfl
  have r3x := HR1.out.cell_ 3 (v := .int .i64 0) rfl
  have r4x := HR1.out.cell_ 4 (v := .int .i64 0) rfl
  have r5x := HR1.out.cell_ 5 (v := .int .i64 0) rfl
  have r6x := HR1.out.cell_ 6 (v := .int .i64 0) rfl
  have r7x := HR1.out.cell_ 7 (v := .slice none 0 0) rfl
  have r8x := HR1.out.cell_ 8 (v := .int .i64 0) rfl
  have z0x := HR1.out.free 0
  have z1x := HR1.out.free 1
  have z2x := HR1.out.free 2
  have z3x := HR1.out.free 3
  have z4x := HR1.out.free 4
  have z5x := HR1.out.free 5
  have z6x := HR1.out.free 6
  have z7x := HR1.out.free 7
  have z8x := HR1.out.free 8
  go_wp2
  have o3 := ((((((((HR1.out.set_ 0 (.slice none 0 0)).set_ 1 (.slice none 0 0)).set_ 2 (.slice none 0 0)).set_ 3 (.int .i64 0)).set_ 4 (.int .i64 0)).set_ 5 (.int .i64 0)).set_ 6 (.int .i64 0)).set_ 7 (.slice none 0 0)).set_ 8 (.int .i64 0)
  have t0 := o3.cell_ 0 (v := .slice none 0 0) (by simp)
  have t1 := o3.cell_ 1 (v := .slice none 0 0) (by simp)
  have t2 := o3.cell_ 2 (v := .slice none 0 0) (by simp)
  have t3 := o3.cell_ 3 (v := .int .i64 0) (by simp)
  have t4 := o3.cell_ 4 (v := .int .i64 0) (by simp)
  have t5 := o3.cell_ 5 (v := .int .i64 0) (by simp)
  have t6 := o3.cell_ 6 (v := .int .i64 0) (by simp)
  have t7 := o3.cell_ 7 (v := .slice none 0 0) (by simp)
  have t8 := o3.cell_ 8 (v := .int .i64 0) (by simp)
  refine bodyPost_ret (v := .tuple #[.agg #[.slice none 0 0, .slice none 0 0, .slice none 0 0, .int .i64 0, .int .i64 0, .int .i64 0, .int .i64 0, .slice none 0 0, .int .i64 0], .bool false]) (by simp [results, Tryz.results52, go_sem, t0, t1, t2, t3, t4, t5, t6, t7, t8]) rfl ⟨_, rfl, _, _, _, _, by rw [HA.out, HV.out]; rfl, by rw [HV.out]; exact mam_z, ?_⟩
  repeat (refine bS ?_ (by simp <;> omega))
  exact HB1.out
 | true =>
  rw [h1] at HMV
  by_cases h2 : keyI s p = s
  case neg =>
   have HA : Hid (putOK m s p fr r = false) := by show _ = _; unfold putOK; rw [decide_eq_false h2]; simp
   have HV := Lib.hid (putOK_false HA.out)
   have hkq : keq s p (keyI s p) p = false := by unfold keq; simp; exact fun h => h2 h.symm
   rw [hkq] at hne
   generalize keyI s p = ks at *
   go_enter Tryz.func52, Tryz.ntmps52
   go_wp2
   refine wp_region_ext (by kernel_rfl) (by kernel_rfl) ?_
   repeat (go_big_quiet_step ((first | (go_at_call 21; exact ext_call (HMV.out _ (HM.out.now (bT HB0.out (Ext.ok _))) (HF.out.now (bT HB0.out (Ext.ok _))))) | (go_at_call 29; exact ext_call (HKF.out _)))))
   refine wpQuiet_nil ?_
   intro _ hw'
   obtain ⟨⟨wq, hq⟩, hw''⟩ := hw'
   subst hw''
   try dsimp only
   have hb1 := hq
   clear x0 x1 x2 x3 x4 x5 x6 x7 x8 y0 y1
   have HX1 := Lib.hid (HX0.out.below hb1)
   have HK1 := Lib.hid (HK0.out.below hb1)
   have HR1 := Lib.hid (HR0.out.below hb1)
   have HB1 := Lib.hid (bT HB0.out hb1)
   have HS1 := Lib.hid (Nat.le_trans HS0.out hb1.size)
   clear hb1
   have r0x := HR1.out.cell_ 0 (v := .slice none 0 0) rfl
   have r1x := HR1.out.cell_ 1 (v := .slice none 0 0) rfl
   have r2x := HR1.out.cell_ 2 (v := .slice none 0 0) rfl
   have r3x := HR1.out.cell_ 3 (v := .int .i64 0) rfl
   have r4x := HR1.out.cell_ 4 (v := .int .i64 0) rfl
   have r5x := HR1.out.cell_ 5 (v := .int .i64 0) rfl
   have r6x := HR1.out.cell_ 6 (v := .int .i64 0) rfl
   have r7x := HR1.out.cell_ 7 (v := .slice none 0 0) rfl
   have r8x := HR1.out.cell_ 8 (v := .int .i64 0) rfl
   have z0x := HR1.out.free 0
   have z1x := HR1.out.free 1
   have z2x := HR1.out.free 2
   have z3x := HR1.out.free 3
   have z4x := HR1.out.free 4
   have z5x := HR1.out.free 5
   have z6x := HR1.out.free 6
   have z7x := HR1.out.free 7
   have z8x := HR1.out.free 8
   go_wp2
   have o3 := ((((((((HR1.out.set_ 0 (.slice none 0 0)).set_ 1 (.slice none 0 0)).set_ 2 (.slice none 0 0)).set_ 3 (.int .i64 0)).set_ 4 (.int .i64 0)).set_ 5 (.int .i64 0)).set_ 6 (.int .i64 0)).set_ 7 (.slice none 0 0)).set_ 8 (.int .i64 0)
   have t0 := o3.cell_ 0 (v := .slice none 0 0) (by simp)
   have t1 := o3.cell_ 1 (v := .slice none 0 0) (by simp)
   have t2 := o3.cell_ 2 (v := .slice none 0 0) (by simp)
   have t3 := o3.cell_ 3 (v := .int .i64 0) (by simp)
   have t4 := o3.cell_ 4 (v := .int .i64 0) (by simp)
   have t5 := o3.cell_ 5 (v := .int .i64 0) (by simp)
   have t6 := o3.cell_ 6 (v := .int .i64 0) (by simp)
   have t7 := o3.cell_ 7 (v := .slice none 0 0) (by simp)
   have t8 := o3.cell_ 8 (v := .int .i64 0) (by simp)
   refine bodyPost_ret (v := .tuple #[.agg #[.slice none 0 0, .slice none 0 0, .slice none 0 0, .int .i64 0, .int .i64 0, .int .i64 0, .int .i64 0, .slice none 0 0, .int .i64 0], .bool false]) (by simp [results, Tryz.results52, go_sem, t0, t1, t2, t3, t4, t5, t6, t7, t8]) rfl ⟨_, rfl, _, _, _, _, by rw [HA.out, HV.out]; rfl, by rw [HV.out]; exact mam_z, ?_⟩
   repeat (refine bS ?_ (by simp <;> omega))
   exact HB1.out
  case pos =>
   have hkq : keq s p (keyI s p) p = true := by unfold keq; rw [h2]; simp
   rw [hkq] at hne
   rw [h2] at hne HKF
   obtain ⟨a1, a2, a3, a4⟩ := mav_len h1
   go_enter Tryz.func52, Tryz.ntmps52
   go_wp2
   refine wp_region_ext (by kernel_rfl) (by kernel_rfl) ?_
   repeat (go_big_quiet_step ((first | (go_at_call 21; exact ext_call (HMV.out _ (HM.out.now (bT HB0.out (Ext.ok _))) (HF.out.now (bT HB0.out (Ext.ok _))))) | (go_at_call 29; exact ext_call (HKF.out _)))))
   refine wpQuiet_nil ?_
   intro _ hw'
   obtain ⟨⟨wq, hq⟩, hw''⟩ := hw'
   subst hw''
   try dsimp only
   have hb1 := hq
   clear x0 x1 x2 x3 x4 x5 x6 x7 x8 y0 y1
   have HX1 := Lib.hid (HX0.out.below hb1)
   have HK1 := Lib.hid (HK0.out.below hb1)
   have HR1 := Lib.hid (HR0.out.below hb1)
   have HB1 := Lib.hid (bT HB0.out hb1)
   have HS1 := Lib.hid (Nat.le_trans HS0.out hb1.size)
   clear hb1
   have m01 := HX1.out.cell_ 0 (v := vb) rfl
   have m11 := HX1.out.cell_ 1 (v := vf) rfl
   have m21 := HX1.out.cell_ 2 (v := vl) rfl
   have m31 := HX1.out.cell_ 3 (v := .int .i64 m.c.hand) rfl
   have m41 := HX1.out.cell_ 4 (v := .int .i64 m.g.count) rfl
   have m51 := HX1.out.cell_ 5 (v := .int .i64 m.g.next) rfl
   have m61 := HX1.out.cell_ 6 (v := .int .i64 m.g.round) rfl
   have m71 := HX1.out.cell_ 7 (v := vo) rfl
   have m81 := HX1.out.cell_ 8 (v := .int .i64 m.sp) rfl
   have k01 := HK1.out.cell_ 0 (v := .int .i64 s) rfl
   have k11 := HK1.out.cell_ 1 (v := .int .i64 p) rfl
   go_wp2_with fail
   refine (MapPage_any vb vf m.t s p fr r _ (HM.out.t.now HB1.out) (HF.out.now HB1.out)).mono ?_
   rintro e w2 ⟨_, rfl, v1, v2, rfl, hT2, hb2⟩
   obtain ⟨A1, c1, rfl, _⟩ := hT2.b
   obtain ⟨A2, c2, rfl, _⟩ := hT2.f
   have hs1 := HS1.out
   have HX2 := Lib.hid (HX1.out.below hb2)
   have HK2 := Lib.hid (HK1.out.below hb2)
   have HR2 := Lib.hid (HR1.out.below hb2)
   have HB2 := Lib.hid (bT HB1.out hb2)
   have HS2 := Lib.hid (Nat.le_trans HS1.out hb2.size)
   clear hb2
   clear m01 m11 m21 m31 m41 m51 m61 m71 m81
   clear k01 k11
   have ho5 := Own.new_ w2 26 #[.slice A1 (mapV m.t s p fr r).bs.length c1, .slice A2 (mapV m.t s p fr r).fs.length c2]
   have hb5 : Below w2.heap.size w2 (w2.alloc (.cells #[.slice A1 (mapV m.t s p fr r).bs.length c1, .slice A2 (mapV m.t s p fr r).fs.length c2] 26)) := bA bR
   generalize hW5 : w2.alloc (.cells #[.slice A1 (mapV m.t s p fr r).bs.length c1, .slice A2 (mapV m.t s p fr r).fs.length c2] 26) = w5 at ho5 hb5
   have HT5 := Lib.hid ((hT2.now hb5).mono hs1)
   clear hT2
   have HX5 := Lib.hid (HX2.out.below hb5)
   have HK5 := Lib.hid (HK2.out.below hb5)
   have HR5 := Lib.hid (HR2.out.below hb5)
   have HB5 := Lib.hid (bT HB2.out hb5)
   have HS5 := Lib.hid (Nat.le_trans HS2.out hb5.size)
   clear hb5
   cases h3 : mapOK m.t s p fr r with
   | false =>
    have HA : Hid (putOK m s p fr r = false) := by show _ = _; unfold putOK; rw [h3]; simp
    have HV := Lib.hid (putOK_false HA.out)
    clear ho5
    have r0x := HR5.out.cell_ 0 (v := .slice none 0 0) rfl
    have r1x := HR5.out.cell_ 1 (v := .slice none 0 0) rfl
    have r2x := HR5.out.cell_ 2 (v := .slice none 0 0) rfl
    have r3x := HR5.out.cell_ 3 (v := .int .i64 0) rfl
    have r4x := HR5.out.cell_ 4 (v := .int .i64 0) rfl
    have r5x := HR5.out.cell_ 5 (v := .int .i64 0) rfl
    have r6x := HR5.out.cell_ 6 (v := .int .i64 0) rfl
    have r7x := HR5.out.cell_ 7 (v := .slice none 0 0) rfl
    have r8x := HR5.out.cell_ 8 (v := .int .i64 0) rfl
    have z0x := HR5.out.free 0
    have z1x := HR5.out.free 1
    have z2x := HR5.out.free 2
    have z3x := HR5.out.free 3
    have z4x := HR5.out.free 4
    have z5x := HR5.out.free 5
    have z6x := HR5.out.free 6
    have z7x := HR5.out.free 7
    have z8x := HR5.out.free 8
    go_wp2
    have o3 := ((((((((HR5.out.set_ 0 (.slice none 0 0)).set_ 1 (.slice none 0 0)).set_ 2 (.slice none 0 0)).set_ 3 (.int .i64 0)).set_ 4 (.int .i64 0)).set_ 5 (.int .i64 0)).set_ 6 (.int .i64 0)).set_ 7 (.slice none 0 0)).set_ 8 (.int .i64 0)
    have t0 := o3.cell_ 0 (v := .slice none 0 0) (by simp)
    have t1 := o3.cell_ 1 (v := .slice none 0 0) (by simp)
    have t2 := o3.cell_ 2 (v := .slice none 0 0) (by simp)
    have t3 := o3.cell_ 3 (v := .int .i64 0) (by simp)
    have t4 := o3.cell_ 4 (v := .int .i64 0) (by simp)
    have t5 := o3.cell_ 5 (v := .int .i64 0) (by simp)
    have t6 := o3.cell_ 6 (v := .int .i64 0) (by simp)
    have t7 := o3.cell_ 7 (v := .slice none 0 0) (by simp)
    have t8 := o3.cell_ 8 (v := .int .i64 0) (by simp)
    refine bodyPost_ret (v := .tuple #[.agg #[.slice none 0 0, .slice none 0 0, .slice none 0 0, .int .i64 0, .int .i64 0, .int .i64 0, .int .i64 0, .slice none 0 0, .int .i64 0], .bool false]) (by simp [results, Tryz.results52, go_sem, t0, t1, t2, t3, t4, t5, t6, t7, t8]) rfl ⟨_, rfl, _, _, _, _, by rw [HA.out, HV.out]; rfl, by rw [HV.out]; exact mam_z, ?_⟩
    repeat (refine bS ?_ (by simp <;> omega))
    exact HB5.out
   | true =>
    have HA : Hid (putOK m s p fr r = true) := by show _ = _; unfold putOK; rw [h1, h3, decide_eq_true h2]; rfl
    have HV : Hid (putV m s p fr r = { m with t := mapV m.t s p fr r }) := by show _ = _; unfold putV; rw [HA.out]; rfl
    have m05 := HX5.out.cell_ 0 (v := vb) rfl
    have m15 := HX5.out.cell_ 1 (v := vf) rfl
    have m25 := HX5.out.cell_ 2 (v := vl) rfl
    have m35 := HX5.out.cell_ 3 (v := .int .i64 m.c.hand) rfl
    have m45 := HX5.out.cell_ 4 (v := .int .i64 m.g.count) rfl
    have m55 := HX5.out.cell_ 5 (v := .int .i64 m.g.next) rfl
    have m65 := HX5.out.cell_ 6 (v := .int .i64 m.g.round) rfl
    have m75 := HX5.out.cell_ 7 (v := vo) rfl
    have m85 := HX5.out.cell_ 8 (v := .int .i64 m.sp) rfl
    go_wp2_with fail
    refine (mclone_any vb vf vl vo m _ (HM.out.now HB5.out) a1 a2 a3 a4).mono ?_
    rintro e w3 ⟨_, rfl, q1, q2, q3, q4, rfl, hM3, hb3⟩
    have hs2 := HS5.out
    have HT3 := Lib.hid (HT5.out.now hb3)
    have HM3 := Lib.hid (hM3.mono hs2)
    have ho3 := ho5.below hb3
    have u0 := ho3.cell_ 0 (v := .slice A1 (mapV m.t s p fr r).bs.length c1) rfl
    have u1 := ho3.cell_ 1 (v := .slice A2 (mapV m.t s p fr r).fs.length c2) rfl
    have hl5 := ho3.lt
    obtain ⟨B1, d1, rfl, _⟩ := HM3.out.t.b
    obtain ⟨B2, d2, rfl, _⟩ := HM3.out.t.f
    obtain ⟨B3, d3, rfl, _⟩ := HM3.out.l
    obtain ⟨B4, d4, rfl, _⟩ := HM3.out.o
    clear hM3 ho3 ho5
    have HX3 := Lib.hid (HX5.out.below hb3)
    have HK3 := Lib.hid (HK5.out.below hb3)
    have HR3 := Lib.hid (HR5.out.below hb3)
    have HB3 := Lib.hid (bT HB5.out hb3)
    have HS3 := Lib.hid (Nat.le_trans HS5.out hb3.size)
    clear hb3
    clear m05 m15 m25 m35 m45 m55 m65 m75 m85
    have r0x := HR3.out.cell_ 0 (v := .slice none 0 0) rfl
    have r1x := HR3.out.cell_ 1 (v := .slice none 0 0) rfl
    have r2x := HR3.out.cell_ 2 (v := .slice none 0 0) rfl
    have r3x := HR3.out.cell_ 3 (v := .int .i64 0) rfl
    have r4x := HR3.out.cell_ 4 (v := .int .i64 0) rfl
    have r5x := HR3.out.cell_ 5 (v := .int .i64 0) rfl
    have r6x := HR3.out.cell_ 6 (v := .int .i64 0) rfl
    have r7x := HR3.out.cell_ 7 (v := .slice none 0 0) rfl
    have r8x := HR3.out.cell_ 8 (v := .int .i64 0) rfl
    have z0x := HR3.out.free 0
    have z1x := HR3.out.free 1
    have z2x := HR3.out.free 2
    have z3x := HR3.out.free 3
    have z4x := HR3.out.free 4
    have z5x := HR3.out.free 5
    have z6x := HR3.out.free 6
    have z7x := HR3.out.free 7
    have z8x := HR3.out.free 8
    have hl3 := HR3.out.lt
    go_wp2
    have o3 := (((((((((HR3.out.set_ 0 (.slice A1 (mapV m.t s p fr r).bs.length c1)).set_ 1 (.slice A2 (mapV m.t s p fr r).fs.length c2)).set_ 2 (.slice B3 m.c.ls.length d3)).set_ 3 (.int .i64 m.c.hand)).set_ 4 (.int .i64 m.g.count)).set_ 5 (.int .i64 m.g.next)).set_ 6 (.int .i64 m.g.round)).set_ 7 (.slice B4 m.g.os.length d4)).set_ 8 (.int .i64 m.sp))
    have o4 := o3.alloc (o := .cells #[.slice A1 (mapV m.t s p fr r).bs.length c1, .slice A2 (mapV m.t s p fr r).fs.length c2, .slice B3 m.c.ls.length d3, .int .i64 m.c.hand, .int .i64 m.g.count, .int .i64 m.g.next, .int .i64 m.g.round, .slice B4 m.g.os.length d4, .int .i64 m.sp] 34)
    have v0 := o4.cell_ 0 (v := .slice A1 (mapV m.t s p fr r).bs.length c1) (by simp)
    have v1 := o4.cell_ 1 (v := .slice A2 (mapV m.t s p fr r).fs.length c2) (by simp)
    have v2 := o4.cell_ 2 (v := .slice B3 m.c.ls.length d3) (by simp)
    have v3 := o4.cell_ 3 (v := .int .i64 m.c.hand) (by simp)
    have v4 := o4.cell_ 4 (v := .int .i64 m.g.count) (by simp)
    have v5 := o4.cell_ 5 (v := .int .i64 m.g.next) (by simp)
    have v6 := o4.cell_ 6 (v := .int .i64 m.g.round) (by simp)
    have v7 := o4.cell_ 7 (v := .slice B4 m.g.os.length d4) (by simp)
    have v8 := o4.cell_ 8 (v := .int .i64 m.sp) (by simp)
    refine bodyPost_ret (v := .tuple #[.agg #[.slice A1 (mapV m.t s p fr r).bs.length c1, .slice A2 (mapV m.t s p fr r).fs.length c2, .slice B3 m.c.ls.length d3, .int .i64 m.c.hand, .int .i64 m.g.count, .int .i64 m.g.next, .int .i64 m.g.round, .slice B4 m.g.os.length d4, .int .i64 m.sp], .bool true]) (by simp [results, Tryz.results52, go_sem, v0, v1, v2, v3, v4, v5, v6, v7, v8]) rfl ⟨_, rfl, _, _, _, _, by rw [HA.out, HV.out], ?_, ?_⟩
    ·rw [HV.out]
     have hmm : MaM (w.heap.size + 3) w3 (.slice A1 (mapV m.t s p fr r).bs.length c1) (.slice A2 (mapV m.t s p fr r).fs.length c2) (.slice B3 m.c.ls.length d3) (.slice B4 m.g.os.length d4) { m with t := mapV m.t s p fr r } := ⟨HT3.out, HM3.out.l, HM3.out.o⟩
     refine MaM.mono (B := w.heap.size + 3) (MaM.now ?_ (bA bR)) (by omega)
     repeat (refine MaM.far ?_ (by show w.heap.size + 1 + 1 < w.heap.size + 3; omega))
     exact hmm
    ·refine bA ?_
     repeat (refine bS ?_ (by simp <;> omega))
     exact HB3.out
end Go.Proofs.YtnaagdmaggdbmaaGreatDoor
