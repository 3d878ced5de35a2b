/- A part of the proofs of this seat: Cp6, PpI, PpS, RelD. -/
import Derived.Deep.RegionHeldLaw
import Derived.Test.YtibpnlojlfcpmaaGreatDoorRMpS
set_option linter.unusedVariables false
set_option linter.unusedSimpArgs false
set_option maxRecDepth 1000000
namespace Go.Proofs.YtibpnlojlfcpmaaGreatDoor
open Go.RowKit
set_option maxHeartbeats 4000000 in
theorem l6Copy_any (vb vf vl vo : Value) (m : Ma) (w : World) (hM : MaR w vb vf vl vo m) (h1 : m.t.bs.length ≤ 1048576) (h2 : m.t.fs.length ≤ 1048576) (h3 : m.c.ls.length ≤ 1048576) (h4 : m.g.os.length ≤ 1048576) :
    Calls Tryz.prog 85 #[.agg #[vb, vf, vl, .int .i64 m.c.hand, .int .i64 m.g.count, .int .i64 m.g.next, .int .i64 m.g.round, vo, .int .i64 m.sp]] w (Post2 fun v w' => ∃ v1 v2 v3 v4, v = .agg #[v1, v2, v3, .int .i64 m.c.hand, .int .i64 m.g.count, .int .i64 m.g.next, .int .i64 m.g.round, v4, .int .i64 m.sp] ∧ MaM w.heap.size w' v1 v2 v3 v4 m ∧ Below w.heap.size w w') := by
  obtain ⟨W0, hW, hbx, hbo, hb0, hs0⟩ := box2 w #[vb, vf, vl, .int .i64 m.c.hand, .int .i64 m.g.count, .int .i64 m.g.next, .int .i64 m.g.round, vo, .int .i64 m.sp] 48 #[.slice none 0 0, .slice none 0 0, .slice none 0 0, .int .i64 0, .int .i64 0, .int .i64 0, .int .i64 0, .slice none 0 0, .int .i64 0] 48
  obtain ⟨m0q, m1q, m2q, m3q, m4q, m5q, m6q, m7q, m8q⟩ := cells9 hbx
  have HX0 := Hd hbx
  have HO0 := Hd hbo
  have HB0 := Hd hb0
  have HM := Hd hM
  clear hbx hbo hb0 hM
  go_enter Tryz.func85, Tryz.ntmps85
  go_wp2
  go_region_held_law (fun w' => w'.cell? ⟨w.heap.size, 0, none⟩ = some vb ∧ w'.cell? ⟨w.heap.size, 1, none⟩ = some vf ∧ w'.cell? ⟨w.heap.size, 2, none⟩ = some vl ∧ w'.cell? ⟨w.heap.size, 3, none⟩ = some (.int .i64 m.c.hand) ∧ w'.cell? ⟨w.heap.size, 4, none⟩ = some (.int .i64 m.g.count) ∧ w'.cell? ⟨w.heap.size, 5, none⟩ = some (.int .i64 m.g.next) ∧ w'.cell? ⟨w.heap.size, 6, none⟩ = some (.int .i64 m.g.round) ∧ w'.cell? ⟨w.heap.size, 7, none⟩ = some vo ∧ w'.cell? ⟨w.heap.size, 8, none⟩ = some (.int .i64 m.sp)) (go_keep) (first
    | (refine step_call rfl ?_ (l3Copy_any vb vf m.t _ (HM.out.t.now (bD HB0.out)) h1 h2) ?_
       go_simp
       rintro _ w1 ⟨a1, a2, rfl, hT1, hb1⟩
       have HB1 := Hd (bT (bD HB0.out) hb1)
       have hx1 := HX0.out.drew.below hb1
       have HO1 := Hd (HO0.out.drew.below hb1)
       have hs1 : w.heap.size + 2 ≤ w1.heap.size := Nat.le_trans (Nat.le_of_eq hs0.symm) hb1.size
       obtain ⟨m0d, m1d, m2d, m3d, m4d, m5d, m6d, m7d, m8d⟩ := cells9 hx1
       have HX1 := Hd hx1
       have HT1 := Hd (hT1.mono (B' := w.heap.size + 2) (Nat.le_of_eq hs0.symm))
       clear hx1 hT1 hb1)
    | (refine step_call rfl ?_ (l4Copy_any vl m.c _ (HM.out.l.now HB1.out) h3) ?_
       go_simp
       rintro _ w2 ⟨a3, rfl, hL2, hb2⟩
       have HB2 := Hd (bT HB1.out hb2)
       have hx2 := HX1.out.below hb2
       have HO2 := Hd (HO1.out.below hb2)
       have HT2 := Hd (HT1.out.now hb2)
       have hs2 : w.heap.size + 2 ≤ w2.heap.size := Nat.le_trans hs1 hb2.size
       obtain ⟨m0e, m1e, m2e, m3e, m4e, m5e, m6e, m7e, m8e⟩ := cells9 hx2
       have HX2 := Hd hx2
       have HL2 := Hd (hL2.mono (base' := w.heap.size + 2) hs1)
       clear hx2 hL2 hb2 m0d m1d m2d m3d m4d m5d m6d m7d m8d)
    | (refine step_call rfl ?_ (l5Copy_any vo m.g _ (HM.out.o.now HB2.out) h4) ?_
       go_simp
       rintro _ w3 ⟨a4, rfl, hO3, hb3⟩
       have HB3 := Hd (bT HB2.out hb3)
       have hx3 := HX2.out.below hb3
       have ho3 := HO2.out.below hb3
       have HM3 : Hid (MaM (w.heap.size + 2) w3 a1 a2 a3 a4 m) := ⟨HT2.out.now hb3, HL2.out.now hb3, hO3.mono hs2⟩
       obtain ⟨m0f, m1f, m2f, m3f, m4f, m5f, m6f, m7f, m8f⟩ := cells9 hx3
       obtain ⟨r0x, r1x, r2x, r3x, r4x, r5x, r6x, r7x, r8x⟩ := cells9 ho3
       obtain ⟨z0x, z1x, z2x, z3x, z4x, z5x, z6x, z7x, z8x⟩ := free9 ho3
       have HO3 := Hd ho3
       obtain ⟨A1, c1, rfl, _⟩ := HM3.out.t.b
       obtain ⟨A2, c2, rfl, _⟩ := HM3.out.t.f
       obtain ⟨A3, c3, rfl, _⟩ := HM3.out.l
       obtain ⟨A4, c4, rfl, _⟩ := HM3.out.o
       clear hx3 ho3 hO3 hb3 m0e m1e m2e m3e m4e m5e m6e m7e m8e))
  all_goals
    go_wp2
    have o3 := ((((((((HO3.out.set_ 0 (.slice A1 m.t.bs.length c1)).set_ 1 (.slice A2 m.t.fs.length c2)).set_ 2 (.slice A3 m.c.ls.length c3)).set_ 3 (.int .i64 m.c.hand)).set_ 4 (.int .i64 m.g.count)).set_ 5 (.int .i64 m.g.next)).set_ 6 (.int .i64 m.g.round)).set_ 7 (.slice A4 m.g.os.length c4)).set_ 8 (.int .i64 m.sp)
    have t0 := o3.cell_ 0 (v := .slice A1 m.t.bs.length c1) (by simp)
    have t1 := o3.cell_ 1 (v := .slice A2 m.t.fs.length c2) (by simp)
    have t2 := o3.cell_ 2 (v := .slice A3 m.c.ls.length c3) (by simp)
    have t3 := o3.cell_ 3 (v := .int .i64 m.c.hand) (by simp)
    have t4 := o3.cell_ 4 (v := .int .i64 m.g.count) (by simp)
    have t5 := o3.cell_ 5 (v := .int .i64 m.g.next) (by simp)
    have t6 := o3.cell_ 6 (v := .int .i64 m.g.round) (by simp)
    have t7 := o3.cell_ 7 (v := .slice A4 m.g.os.length c4) (by simp)
    have t8 := o3.cell_ 8 (v := .int .i64 m.sp) (by simp)
    refine bodyPost_ret (v := .agg #[.slice A1 m.t.bs.length c1, .slice A2 m.t.fs.length c2, .slice A3 m.c.ls.length c3, .int .i64 m.c.hand, .int .i64 m.g.count, .int .i64 m.g.next, .int .i64 m.g.round, .slice A4 m.g.os.length c4, .int .i64 m.sp]) (by simp [results, Tryz.results85, go_sem, t0, t1, t2, t3, t4, t5, t6, t7, t8]) rfl ⟨_, rfl, _, _, _, _, rfl, ?_, ?_⟩
    · refine MaM.mono (B := w.heap.size + 2) ?_ (by omega)
      repeat (refine MaM.far ?_ (by show w.heap.size + 1 < w.heap.size + 2; omega))
      exact HM3.out
    · repeat (refine bS ?_ (by simp))
      exact HB3.out
theorem putOK_false {m : Ma} {s p fr r : Int} (h : putOK m s p fr r = false) : putV m s p fr r = maz := by unfold putV; rw [h]; rfl
theorem mav_len {m : Ma} (h : mav m = true) : m.t.bs.length ≤ 1048576 ∧ m.t.fs.length ≤ 1048576 ∧ m.c.ls.length ≤ 1048576 ∧ m.g.os.length ≤ 1048576 := by
 obtain ⟨h1, h2, h3, _⟩ := mav_parts h
 have a := (tv_parts h1).1
 have b := cav_parts h2
 have c := tgv_parts h3
 have d := tok_len c.2 c.1.2.2.1
 omega
set_option maxHeartbeats 1000000 in
theorem l6Shared_any (s p : Int) (w : World) : Calls Tryz.prog 173 #[.agg #[.int .i64 s, .int .i64 p]] w fun r w' => r = .returned (.bool (kval (s, p) && decide (keyI s p = s))) ∧ Below w.heap.size w w' := by
 have hbx := Own.new_ w 61 #[.int .i64 s, .int .i64 p]
 have hb0 : Below w.heap.size w (w.alloc (.cells #[.int .i64 s, .int .i64 p] 61)) := bA bR
 generalize hW : w.alloc (.cells #[.int .i64 s, .int .i64 p] 61) = W0 at hbx hb0
 have y0 := xcell (hbx.cell_ 0 (v := .int .i64 s) rfl) hbx.lt
 have y1 := xcell (hbx.cell_ 1 (v := .int .i64 p) rfl) hbx.lt
 have HKV := Hd (sKeyValid_any s p)
 have HKF := Hd (sKeyFor_any s p)
 have he := fun W => eql_key (keyI s p) p s p W
 clear hbx
 cases h1 : kval (s, p) with
 | false =>
  rw [h1] at HKV
  go_enter Tryz.func173, Tryz.ntmps173
  go_wp2
  refine wp_region_ext (by kernel_rfl) (by kernel_rfl) ?_
  repeat (go_big_quiet_step ((go_at_call 224; exact ext_call (HKV.out _))))
  refine wpQuiet_nil ?_
  intro _ hw'
  obtain ⟨⟨wq, hq⟩, hw''⟩ := hw'
  subst hw''
  try dsimp only
  go_wp2
  go_ret
  exact ⟨rfl, bT hb0 hq⟩
 | true =>
  rw [h1] at HKV
  by_cases h2 : keyI s p = s
  ·have hkq : keq (keyI s p) p s p = true := by unfold keq; rw [h2]; simp
   rw [hkq] at he
   have HD : Hid (decide (keyI s p = s) = true) := decide_eq_true h2
   generalize hk : keyI s p = ks at *
   go_enter Tryz.func173, Tryz.ntmps173
   go_wp2
   refine wp_region_ext (by kernel_rfl) (by kernel_rfl) ?_
   repeat (go_big_quiet_step ((first | (go_at_call 224; exact ext_call (HKV.out _)) | (go_at_call 96; exact ext_call (HKF.out _)))))
   refine wpQuiet_nil ?_
   intro _ hw'
   obtain ⟨⟨wq, hq⟩, hw''⟩ := hw'
   subst hw''
   try dsimp only
   go_wp2
   go_ret
   exact ⟨by rw [HD.out]; rfl, bT hb0 hq⟩
  ·have hkq : keq (keyI s p) p s p = false := by unfold keq; simp [h2]
   rw [hkq] at he
   have HD : Hid (decide (keyI s p = s) = false) := decide_eq_false h2
   generalize hk : keyI s p = ks at *
   go_enter Tryz.func173, Tryz.ntmps173
   go_wp2
   refine wp_region_ext (by kernel_rfl) (by kernel_rfl) ?_
   repeat (go_big_quiet_step ((first | (go_at_call 224; exact ext_call (HKV.out _)) | (go_at_call 96; exact ext_call (HKF.out _)))))
   refine wpQuiet_nil ?_
   intro _ hw'
   obtain ⟨⟨wq, hq⟩, hw''⟩ := hw'
   subst hw''
   try dsimp only
   go_wp2
   go_ret
   exact ⟨by rw [HD.out]; rfl, bT hb0 hq⟩
set_option maxHeartbeats 2000000 in
theorem sPutPage_any (vb vf vl vo : Value) (m : Ma) (s p fr r : Int) (w : World) (hM : MaR w vb vf vl vo m) :
  Calls Tryz.prog 100 #[.agg #[vb, vf, vl, .int .i64 m.c.hand, .int .i64 m.g.count, .int .i64 m.g.next, .int .i64 m.g.round, vo, .int .i64 m.sp], .agg #[.int .i64 s, .int .i64 p], .int .i64 fr, .int .i64 r] w (Post2 fun v w' => ∃ v1 v2 v3 v4, v = .tuple #[.agg #[v1, v2, v3, .int .i64 (putV m s p fr r).c.hand, .int .i64 (putV m s p fr r).g.count, .int .i64 (putV m s p fr r).g.next, .int .i64 (putV m s p fr r).g.round, v4, .int .i64 (putV m s p fr r).sp], .bool (putOK m s p fr r)] ∧ MaM w.heap.size w' v1 v2 v3 v4 (putV m s p fr r) ∧ Below w.heap.size w w') := by
 obtain ⟨W0, hW, hbx, hbk, hbo, hb0, hs0⟩ := box3 w #[vb, vf, vl, .int .i64 m.c.hand, .int .i64 m.g.count, .int .i64 m.g.next, .int .i64 m.g.round, vo, .int .i64 m.sp] 48 #[.int .i64 s, .int .i64 p] 61 #[.slice none 0 0, .slice none 0 0, .slice none 0 0, .int .i64 0, .int .i64 0, .int .i64 0, .int .i64 0, .slice none 0 0, .int .i64 0] 48
 have HX0 := Hd hbx
 have HK0 := Hd hbk
 have HR0 := Hd hbo
 have HB0 := Hd hb0
 have HS0 : Hid (w.heap.size + 3 ≤ W0.heap.size) := Nat.le_of_eq hs0.symm
 clear hbx hbk hbo hb0
 have HM := Hd hM
 clear hM
 obtain ⟨m00, m10, m20, m30, m40, m50, m60, m70, m80⟩ := cells9 HX0.out
 go_enter Tryz.func100, Tryz.ntmps100
 go_wp2_with fail
 refine (sMachineValid_any vb vf vl vo m _ (HM.out.now HB0.out)).mono ?_
 rintro e w7 ⟨rfl, hb7⟩
 have HX7 := Hd (HX0.out.below hb7)
 have HK7 := Hd (HK0.out.below hb7)
 have HR7 := Hd (HR0.out.below hb7)
 have HB7 := Hd (bT HB0.out hb7)
 have HS7 := Hd (Nat.le_trans HS0.out hb7.size)
 clear hb7
 clear m00 m10 m20 m30 m40 m50 m60 m70 m80
 cases h1 : mav m with
 | false =>
  have HA : Hid (putOK m s p fr r = false) := by show _ = _; unfold putOK; rw [h1]; rfl
  have HV := Hd (putOK_false HA.out)
  obtain ⟨r0x, r1x, r2x, r3x, r4x, r5x, r6x, r7x, r8x⟩ := cells9 HR7.out
  obtain ⟨z0x, z1x, z2x, z3x, z4x, z5x, z6x, z7x, z8x⟩ := free9 HR7.out
  go_wp2
  obtain ⟨t0, t1, t2, t3, t4, t5, t6, t7, t8⟩ := cells9 (set9z HR7.out)
  refine bodyPost_ret (v := .tuple #[.agg #[.slice none 0 0, .slice none 0 0, .slice none 0 0, .int .i64 0, .int .i64 0, .int .i64 0, .int .i64 0, .slice none 0 0, .int .i64 0], .bool false]) (by simp [results, Tryz.results100, go_sem, t0, t1, t2, t3, t4, t5, t6, t7, t8]) rfl ⟨_, rfl, _, _, _, _, by rw [HA.out, HV.out]; rfl, by rw [HV.out]; exact mam_z, ?_⟩
  repeat (refine bS ?_ (by simp <;> omega))
  exact HB7.out
 | true =>
  have k07 := HK7.out.cell_ 0 (v := .int .i64 s) rfl
  have k17 := HK7.out.cell_ 1 (v := .int .i64 p) rfl
  go_wp2_with fail
  refine (l6Shared_any s p _).mono ?_
  rintro e w1 ⟨rfl, hb1⟩
  have HX1 := Hd (HX7.out.below hb1)
  have HK1 := Hd (HK7.out.below hb1)
  have HR1 := Hd (HR7.out.below hb1)
  have HB1 := Hd (bT HB7.out hb1)
  have HS1 := Hd (Nat.le_trans HS7.out hb1.size)
  clear hb1
  clear k07 k17
  cases h2 : (kval (s, p) && decide (keyI s p = s)) with
  | false =>
   have HA : Hid (putOK m s p fr r = false) := by
    show _ = _
    unfold putOK mapOK
    rw [Bool.and_eq_false_iff] at h2
    rcases h2 with h2 | h2
    ·rw [h2]; simp
    ·rw [h2]; simp
   have HV := Hd (putOK_false HA.out)
   obtain ⟨r0x, r1x, r2x, r3x, r4x, r5x, r6x, r7x, r8x⟩ := cells9 HR1.out
   obtain ⟨z0x, z1x, z2x, z3x, z4x, z5x, z6x, z7x, z8x⟩ := free9 HR1.out
   go_wp2
   obtain ⟨t0, t1, t2, t3, t4, t5, t6, t7, t8⟩ := cells9 (set9z HR1.out)
   refine bodyPost_ret (v := .tuple #[.agg #[.slice none 0 0, .slice none 0 0, .slice none 0 0, .int .i64 0, .int .i64 0, .int .i64 0, .int .i64 0, .slice none 0 0, .int .i64 0], .bool false]) (by simp [results, Tryz.results100, go_sem, t0, t1, t2, t3, t4, t5, t6, t7, t8]) rfl ⟨_, rfl, _, _, _, _, by rw [HA.out, HV.out]; rfl, by rw [HV.out]; exact mam_z, ?_⟩
   repeat (refine bS ?_ (by simp <;> omega))
   exact HB1.out
  | true =>
   rw [Bool.and_eq_true, decide_eq_true_eq] at h2
   replace h2 := h2.2
   obtain ⟨a1, a2, a3, a4⟩ := mav_len h1
   obtain ⟨m01, m11, m21, m31, m41, m51, m61, m71, m81⟩ := cells9 HX1.out
   have k01 := HK1.out.cell_ 0 (v := .int .i64 s) rfl
   have k11 := HK1.out.cell_ 1 (v := .int .i64 p) rfl
   go_wp2_with fail
   refine (sMapPage_any vb vf m.t s p fr r _ (HM.out.t.now HB1.out)).mono ?_
   rintro e w2 ⟨_, rfl, v1, v2, rfl, hT2, hb2⟩
   obtain ⟨A1, c1, rfl, _⟩ := hT2.b
   obtain ⟨A2, c2, rfl, _⟩ := hT2.f
   have hs1 := HS1.out
   have HX2 := Hd (HX1.out.below hb2)
   have HK2 := Hd (HK1.out.below hb2)
   have HR2 := Hd (HR1.out.below hb2)
   have HB2 := Hd (bT HB1.out hb2)
   have HS2 := Hd (Nat.le_trans HS1.out hb2.size)
   clear hb2
   clear m01 m11 m21 m31 m41 m51 m61 m71 m81
   clear k01 k11
   have ho5 := Own.new_ w2 40 #[.slice A1 (mapV m.t s p fr r).bs.length c1, .slice A2 (mapV m.t s p fr r).fs.length c2]
   have hb5 : Below w2.heap.size w2 (w2.alloc (.cells #[.slice A1 (mapV m.t s p fr r).bs.length c1, .slice A2 (mapV m.t s p fr r).fs.length c2] 40)) := bA bR
   generalize hW5 : w2.alloc (.cells #[.slice A1 (mapV m.t s p fr r).bs.length c1, .slice A2 (mapV m.t s p fr r).fs.length c2] 40) = w5 at ho5 hb5
   have HT5 := Hd ((hT2.now hb5).mono hs1)
   clear hT2
   have HX5 := Hd (HX2.out.below hb5)
   have HK5 := Hd (HK2.out.below hb5)
   have HR5 := Hd (HR2.out.below hb5)
   have HB5 := Hd (bT HB2.out hb5)
   have HS5 := Hd (Nat.le_trans HS2.out hb5.size)
   clear hb5
   cases h3 : mapOK m.t s p fr r with
   | false =>
    have HA : Hid (putOK m s p fr r = false) := by show _ = _; unfold putOK; rw [h3]; simp
    have HV := Hd (putOK_false HA.out)
    clear ho5
    obtain ⟨r0x, r1x, r2x, r3x, r4x, r5x, r6x, r7x, r8x⟩ := cells9 HR5.out
    obtain ⟨z0x, z1x, z2x, z3x, z4x, z5x, z6x, z7x, z8x⟩ := free9 HR5.out
    go_wp2
    obtain ⟨t0, t1, t2, t3, t4, t5, t6, t7, t8⟩ := cells9 (set9z HR5.out)
    refine bodyPost_ret (v := .tuple #[.agg #[.slice none 0 0, .slice none 0 0, .slice none 0 0, .int .i64 0, .int .i64 0, .int .i64 0, .int .i64 0, .slice none 0 0, .int .i64 0], .bool false]) (by simp [results, Tryz.results100, go_sem, t0, t1, t2, t3, t4, t5, t6, t7, t8]) rfl ⟨_, rfl, _, _, _, _, by rw [HA.out, HV.out]; rfl, by rw [HV.out]; exact mam_z, ?_⟩
    repeat (refine bS ?_ (by simp <;> omega))
    exact HB5.out
   | true =>
    have HA : Hid (putOK m s p fr r = true) := by show _ = _; unfold putOK; rw [h1, h3, decide_eq_true h2]; rfl
    have HV : Hid (putV m s p fr r = { m with t := mapV m.t s p fr r }) := by show _ = _; unfold putV; rw [HA.out]; rfl
    obtain ⟨m05, m15, m25, m35, m45, m55, m65, m75, m85⟩ := cells9 HX5.out
    go_wp2_with fail
    refine (l6Copy_any vb vf vl vo m _ (HM.out.now HB5.out) a1 a2 a3 a4).mono ?_
    rintro e w3 ⟨_, rfl, q1, q2, q3, q4, rfl, hM3, hb3⟩
    have hs2 := HS5.out
    have HT3 := Hd (HT5.out.now hb3)
    have HM3 := Hd (hM3.mono hs2)
    have ho3 := ho5.below hb3
    have u0 := ho3.cell_ 0 (v := .slice A1 (mapV m.t s p fr r).bs.length c1) rfl
    have u1 := ho3.cell_ 1 (v := .slice A2 (mapV m.t s p fr r).fs.length c2) rfl
    have hl5 := ho3.lt
    obtain ⟨B1, d1, rfl, _⟩ := HM3.out.t.b
    obtain ⟨B2, d2, rfl, _⟩ := HM3.out.t.f
    obtain ⟨B3, d3, rfl, _⟩ := HM3.out.l
    obtain ⟨B4, d4, rfl, _⟩ := HM3.out.o
    clear hM3 ho3 ho5
    have HX3 := Hd (HX5.out.below hb3)
    have HK3 := Hd (HK5.out.below hb3)
    have HR3 := Hd (HR5.out.below hb3)
    have HB3 := Hd (bT HB5.out hb3)
    have HS3 := Hd (Nat.le_trans HS5.out hb3.size)
    clear hb3
    clear m05 m15 m25 m35 m45 m55 m65 m75 m85
    obtain ⟨r0x, r1x, r2x, r3x, r4x, r5x, r6x, r7x, r8x⟩ := cells9 HR3.out
    obtain ⟨z0x, z1x, z2x, z3x, z4x, z5x, z6x, z7x, z8x⟩ := free9 HR3.out
    have hl3 := HR3.out.lt
    go_wp2
    have o3 := (((((((((HR3.out.set_ 0 (.slice A1 (mapV m.t s p fr r).bs.length c1)).set_ 1 (.slice A2 (mapV m.t s p fr r).fs.length c2)).set_ 2 (.slice B3 m.c.ls.length d3)).set_ 3 (.int .i64 m.c.hand)).set_ 4 (.int .i64 m.g.count)).set_ 5 (.int .i64 m.g.next)).set_ 6 (.int .i64 m.g.round)).set_ 7 (.slice B4 m.g.os.length d4)).set_ 8 (.int .i64 m.sp))
    have o4 := o3.alloc (o := .cells #[.slice A1 (mapV m.t s p fr r).bs.length c1, .slice A2 (mapV m.t s p fr r).fs.length c2, .slice B3 m.c.ls.length d3, .int .i64 m.c.hand, .int .i64 m.g.count, .int .i64 m.g.next, .int .i64 m.g.round, .slice B4 m.g.os.length d4, .int .i64 m.sp] 48)
    have v0 := o4.cell_ 0 (v := .slice A1 (mapV m.t s p fr r).bs.length c1) (by simp)
    have v1 := o4.cell_ 1 (v := .slice A2 (mapV m.t s p fr r).fs.length c2) (by simp)
    have v2 := o4.cell_ 2 (v := .slice B3 m.c.ls.length d3) (by simp)
    have v3 := o4.cell_ 3 (v := .int .i64 m.c.hand) (by simp)
    have v4 := o4.cell_ 4 (v := .int .i64 m.g.count) (by simp)
    have v5 := o4.cell_ 5 (v := .int .i64 m.g.next) (by simp)
    have v6 := o4.cell_ 6 (v := .int .i64 m.g.round) (by simp)
    have v7 := o4.cell_ 7 (v := .slice B4 m.g.os.length d4) (by simp)
    have v8 := o4.cell_ 8 (v := .int .i64 m.sp) (by simp)
    refine bodyPost_ret (v := .tuple #[.agg #[.slice A1 (mapV m.t s p fr r).bs.length c1, .slice A2 (mapV m.t s p fr r).fs.length c2, .slice B3 m.c.ls.length d3, .int .i64 m.c.hand, .int .i64 m.g.count, .int .i64 m.g.next, .int .i64 m.g.round, .slice B4 m.g.os.length d4, .int .i64 m.sp], .bool true]) (by simp [results, Tryz.results100, go_sem, v0, v1, v2, v3, v4, v5, v6, v7, v8]) rfl ⟨_, rfl, _, _, _, _, by rw [HA.out, HV.out], ?_, ?_⟩
    ·rw [HV.out]
     have hmm : MaM (w.heap.size + 3) w3 (.slice A1 (mapV m.t s p fr r).bs.length c1) (.slice A2 (mapV m.t s p fr r).fs.length c2) (.slice B3 m.c.ls.length d3) (.slice B4 m.g.os.length d4) { m with t := mapV m.t s p fr r } := ⟨HT3.out, HM3.out.l, HM3.out.o⟩
     refine MaM.mono (B := w.heap.size + 3) (MaM.now ?_ (bA bR)) (by omega)
     repeat (refine MaM.far ?_ (by show w.heap.size + 1 + 1 < w.heap.size + 3; omega))
     exact hmm
    ·refine bA ?_
     repeat (refine bS ?_ (by simp <;> omega))
     exact HB3.out
def kds {S : World → World → Prop} {si : Nat} (ks : List (KD S si)) (j : Nat) (u : Value) (v : World) : Prop := match ks[j]? with | some k => k.P j u v | none => True
def tK (S : World → World → Prop) (si i : Nat) (v v' : World) : Prop := if i = si then S v v' else Below v.heap.size v v'
theorem kds_keep {S : World → World → Prop} {si : Nat} {ks : List (KD S si)} {i j : Nat} {u : Value} {v v' : World} (hij : i ≠ j) (h : kds ks j u v) (ht : tK S si i v v') : kds ks j u v' := by
 unfold kds at h ⊢
 cases hk : ks[j]? with
 | none => trivial
 | some k =>
  rw [hk] at h
  unfold tK at ht
  split at ht
  ·rename_i hi
   exact k.ks j u v v' (by omega) h ht
  ·exact k.kb j u v v' h ht
theorem tK_below {S : World → World → Prop} {si i : Nat} {v v' : World} (hi : i ≠ si) (h : Below v.heap.size v v') : tK S si i v v' := by
 unfold tK
 rw [if_neg hi]
 exact h
theorem tK_same {S : World → World → Prop} (hS : ∀ v, S v v) {si i : Nat} {v : World} : tK S si i v v := by
 unfold tK
 split
 ·exact hS v
 ·exact bR
theorem tK_store {S : World → World → Prop} {si : Nat} {v v' : World} (h : S v v') : tK S si si v v' := by
 unfold tK
 rw [if_pos rfl]
 exact h
end Go.Proofs.YtibpnlojlfcpmaaGreatDoor
