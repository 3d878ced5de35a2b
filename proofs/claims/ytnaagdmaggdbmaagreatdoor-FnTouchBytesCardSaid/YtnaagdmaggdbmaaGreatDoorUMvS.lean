/- A part of the proofs of this seat: MvS, PpS. -/
import Derived.Test.YtnaagdmaggdbmaaGreatDoorUMa
import Derived.Test.YtnaagdmaggdbmaaGreatDoorUCp6
import Derived.Test.YtnaagdmaggdbmaaGreatDoorUMpS
set_option linter.unusedVariables false
set_option linter.unusedSimpArgs false
namespace Go.Proofs.YtnaagdmaggdbmaaGreatDoor
open Go.RowKit
set_option maxRecDepth 1000000
set_option maxHeartbeats 4000000 in
theorem sMachineValid_any (vb vf vl vo : Value) (m : Ma) (w : World) (hM : MaR w vb vf vl vo m) :
  Calls Tryz.prog 53 #[.agg #[vb, vf, vl, .int .i64 m.c.hand, .int .i64 m.g.count, .int .i64 m.g.next, .int .i64 m.g.round, vo, .int .i64 m.sp]] w fun r w' => r = .returned (.bool (mav m)) ∧ Below w.heap.size w w' := by
 have HM := Lib.hid hM
 obtain ⟨W0, hW, hbx, hbz, _⟩ := box1 w #[vb, vf, vl, .int .i64 m.c.hand, .int .i64 m.g.count, .int .i64 m.g.next, .int .i64 m.g.round, vo, .int .i64 m.sp] 34
 have HX0 := Lib.hid hbx
 have HB0 := Lib.hid hbz
 clear hbx hbz
 clear hM
 obtain ⟨m00, m10, m20, m30, m40, m50, m60, m70, m80⟩ := cells9 HX0.out
 go_enter Tryz.func53, Tryz.ntmps53
 go_wp2_with fail
 refine (sTableValid_any vb vf m.t _ (HM.out.t.now HB0.out)).mono ?_
 rintro e w1 ⟨rfl, hb1⟩
 have HX1 := Lib.hid (HX0.out.below hb1)
 have HB1 := Lib.hid (bT HB0.out hb1)
 clear hb1
 clear m00 m10 m20 m30 m40 m50 m60 m70 m80
 obtain ⟨m01, m11, m21, m31, m41, m51, m61, m71, m81⟩ := cells9 HX1.out
 cases h1 : tv m.t with
 | false =>
  have HE : Hid (mav m = false) := mav_no fun h => by have := (mav_parts h).1; rw [h1] at this; cases this
  go_wp2
  go_ret
  exact ⟨by rw [HE.out]; rfl, HB1.out⟩
 | true =>
 go_wp2_with fail
 refine (sCacheValid_any vl m.c _ (HM.out.l.now HB1.out)).mono ?_
 rintro e w2 ⟨rfl, hb2⟩
 have HX2 := Lib.hid (HX1.out.below hb2)
 have HB2 := Lib.hid (bT HB1.out hb2)
 clear hb2
 clear m01 m11 m21 m31 m41 m51 m61 m71 m81
 obtain ⟨m02, m12, m22, m32, m42, m52, m62, m72, m82⟩ := cells9 HX2.out
 cases h2 : cav m.c with
 | false =>
  have HE : Hid (mav m = false) := mav_no fun h => by have := (mav_parts h).2.1; rw [h2] at this; cases this
  go_wp2
  go_ret
  exact ⟨by rw [HE.out]; rfl, HB2.out⟩
 | true =>
 go_wp2_with fail
 refine (sTagsValid_any vo m.g _ (HM.out.o.now HB2.out)).mono ?_
 rintro e w3 ⟨rfl, hb3⟩
 have HX3 := Lib.hid (HX2.out.below hb3)
 have HB3 := Lib.hid (bT HB2.out hb3)
 clear hb3
 clear m02 m12 m22 m32 m42 m52 m62 m72 m82
 obtain ⟨m03, m13, m23, m33, m43, m53, m63, m73, m83⟩ := cells9 HX3.out
 cases h3 : tgv m.g with
 | false =>
  have HE : Hid (mav m = false) := mav_no fun h => by have := (mav_parts h).2.2.1; rw [h3] at this; cases this
  go_wp2
  go_ret
  exact ⟨by rw [HE.out]; rfl, HB3.out⟩
 | true =>
 go_wp2_with fail
 refine (l5Find_any vo m.g m.sp _ (HM.out.o.now HB3.out)).mono ?_
 rintro e w4 ⟨rfl, hb4⟩
 have HX4 := Lib.hid (HX3.out.below hb4)
 have HB4 := Lib.hid (bT HB3.out hb4)
 clear hb4
 clear m03 m13 m23 m33 m43 m53 m63 m73 m83
 obtain ⟨m04, m14, m24, m34, m44, m54, m64, m74, m84⟩ := cells9 HX4.out
 by_cases h4 : ownI m.g.os m.sp < 0
 ·have HE : Hid (mav m = false) := mav_no fun h => by have := (mav_parts h).2.2.2.1; omega
  go_wp2
  go_ret
  exact ⟨by rw [HE.out]; rfl, HB4.out⟩
 obtain ⟨Af, cf, rfl, hfc, hfm, hF⟩ := HM.out.t.f
 have hfl : m.t.fs.length ≤ 16 := (tv_parts h1).1.2.1
 have HFS := Lib.hid hF
 clear hF
 go_wp2
 clear m04 m14 m24 m34 m44 m54 m64 m74 m84
 go_loopw [3] (fun u wr => ∃ k : Nat, k ≤ m.t.fs.length ∧ u = .int .i64 k ∧ Hid (All_ frM m.t.fs k) ∧ Below w4.heap.size w4 wr) (fun u _ => m.t.fs.length - (intOf u).toNat)
 case atStart => exact ⟨0, by omega, rfl, all_zero, bR⟩
 case round =>
  obtain ⟨k, hk, rfl, hall, hb5⟩ := hrel
  have hm1 := (HX4.out.below hb5).cell_ 1 (v := .slice Af m.t.fs.length cf) rfl
  have hwl := (HX4.out.below hb5).lt
  by_cases hlt : k < m.t.fs.length
  ·obtain ⟨f, ef⟩ : ∃ f, m.t.fs[k]? = some f := ⟨_, List.getElem?_eq_getElem hlt⟩
   obtain ⟨b, o, rfl, hbb, d0, d1, d2, d3, d4⟩ := (HFS.out.below (bT HB4.out hb5)).fr ef
   have EF := Lib.hid ef
   clear ef
   cases hu : f.used with
   | false =>
    rw [hu] at d0
    have HA := Lib.hid (all_step hall.out EF.out (by unfold frM; rw [hu]; rfl))
    go_wp2
    go_roundw
    case rel => exact ⟨k + 1, by omega, by go_num, HA, bA hb5⟩
    case measure => simp [intOf]; omega
   | true =>
   rw [hu] at d0
   by_cases hp : 128 ≤ f.p
   case neg =>
    have HA := Lib.hid (all_step hall.out EF.out (by unfold frM; rw [decide_eq_false hp]; simp))
    go_wp2
    go_roundw
    case rel => exact ⟨k + 1, by omega, by go_num, HA, bA hb5⟩
    case measure => simp [intOf]; omega
   case pos =>
   by_cases hs : f.s = 0
   case pos =>
    have HA := Lib.hid (all_step hall.out EF.out (by unfold frM; rw [decide_eq_true hs]; simp))
    go_wp2
    go_roundw
    case rel => exact ⟨k + 1, by omega, by go_num, HA, bA hb5⟩
    case measure => simp [intOf]; omega
   case neg =>
    have HE : Hid (mav m = false) := mav_fr EF.out (by unfold frM; rw [hu, decide_eq_true hp, decide_eq_false hs]; rfl)
    go_wp2
    go_ret
    exact ⟨by rw [HE.out]; rfl, bA (bT HB4.out hb5)⟩
  ·obtain rfl : k = m.t.fs.length := by omega
   have HFA := Lib.hid (all_end hall.out)
   clear hall
   obtain ⟨Al, cl, rfl, hlc, hlm, hL⟩ := HM.out.l
   have hll : m.c.ls.length ≤ 8 := (cav_parts h2).2.1
   have HLS := Lib.hid hL
   have HX5 := Lib.hid (HX4.out.below hb5)
   have HB5 := Lib.hid (bT HB4.out hb5)
   clear hL hb5
   go_wp2
   clear hm1 hwl
   obtain ⟨w5, rfl⟩ : ∃ w5, w5 = wr := ⟨_, rfl⟩
   go_loopw [5] (fun u wi => ∃ k : Nat, k ≤ m.c.ls.length ∧ u = .int .i64 k ∧ Hid (All_ (lnM m) m.c.ls k) ∧ Below w5.heap.size w5 wi) (fun u _ => m.c.ls.length - (intOf u).toNat)
   case atStart => exact ⟨0, by omega, rfl, all_zero, bR⟩
   case round =>
    obtain ⟨k, hk, rfl, hall, hb6⟩ := hrel
    have HX6 := Lib.hid (HX5.out.below hb6)
    have hm2 := HX6.out.cell_ 2 (v := .slice Al m.c.ls.length cl) rfl
    by_cases hlt : k < m.c.ls.length
    ·obtain ⟨x, ex⟩ : ∃ x, m.c.ls[k]? = some x := ⟨_, List.getElem?_eq_getElem hlt⟩
     obtain ⟨x', ex', hok, _⟩ := lok_at (cav_parts h2).2.2.2.1 hlt
     rw [ex] at ex'
     injection ex' with ex'
     subst ex'
     obtain ⟨xv, xt, xp, xf, xr, xw⟩ := x
     obtain ⟨b, o, rfl, hbb, d0, d1, d2, d3, d4, d5⟩ := (HLS.out.below (bT HB5.out hb6)).ln ex
     have EX := Lib.hid ex
     have hbl : b < wr.heap.size := by have := (bT HB5.out hb6).size; omega
     have y0 := xcell d0 (by show b < _; exact hbl)
     have y1 := xcell d1 (by show b < _; exact hbl)
     have y2 := xcell d2 (by show b < _; exact hbl)
     have y3 := xcell d3 (by show b < _; exact hbl)
     have y4 := xcell d4 (by show b < _; exact hbl)
     have y5 := xcell d5 (by show b < _; exact hbl)
     have n0 := xcell (HX6.out.cell_ 0 (v := vb) rfl) HX6.out.lt
     have n1 := xcell (HX6.out.cell_ 1 (v := .slice Af m.t.fs.length cf) rfl) HX6.out.lt
     have n2 := xcell (HX6.out.cell_ 2 (v := .slice (some ⟨b, o, none⟩) m.c.ls.length cl) rfl) HX6.out.lt
     have n3 := xcell (HX6.out.cell_ 3 (v := .int .i64 m.c.hand) rfl) HX6.out.lt
     have n4 := xcell (HX6.out.cell_ 4 (v := .int .i64 m.g.count) rfl) HX6.out.lt
     have n5 := xcell (HX6.out.cell_ 5 (v := .int .i64 m.g.next) rfl) HX6.out.lt
     have n6 := xcell (HX6.out.cell_ 6 (v := .int .i64 m.g.round) rfl) HX6.out.lt
     have n7 := xcell (HX6.out.cell_ 7 (v := vo) rfl) HX6.out.lt
     have n8 := xcell (HX6.out.cell_ 8 (v := .int .i64 m.sp) rfl) HX6.out.lt
     have HM6 := Lib.hid (HM.out.now (bT HB5.out hb6))
     clear ex d0 d1 d2 d3 d4 d5
     cases xv with
     | false =>
      have HA := Lib.hid (all_step hall.out EX.out (lnM_inv rfl))
      go_wp2
      refine wp_region_ext (by kernel_rfl) (by kernel_rfl) ?_
      repeat (go_big_quiet_step (fail))
      refine wpQuiet_nil ?_
      intro _ hw'
      obtain ⟨⟨wq, hq⟩, hw''⟩ := hw'
      subst hw''
      try dsimp only
      go_wp2
      go_roundw
      case rel => exact ⟨k + 1, by omega, by go_num, HA, bT hb6 hq⟩
      case measure => simp [intOf]; omega
     | true =>
      have hp256 : inR xp 256 = true := by
       unfold lnok at hok
       simp only [if_true, Bool.and_eq_true] at hok
       exact hok.1.1.2
      have HLN := Lib.hid (fun W (h : MaR W vb (.slice Af m.t.fs.length cf) (.slice (some ⟨b, o, none⟩) m.c.ls.length cl) vo m) => l6Line_any vb (.slice Af m.t.fs.length cf) (.slice (some ⟨b, o, none⟩) m.c.ls.length cl) vo m xt xp xf xr xw W h h1 h3 hp256)
      clear hok hp256
      cases hln : lnM m ⟨true, xt, xp, xf, xr, xw⟩ with
      | true =>
       have HA := Lib.hid (all_step hall.out EX.out hln)
       rw [hln] at HLN
       clear hln
       go_wp2
       refine wp_region_ext (by kernel_rfl) (by kernel_rfl) ?_
       repeat (go_big_quiet_step ((go_at_call 116; exact ext_call (HLN.out _ (HM6.out.now (Ext.ok _))))))
       refine wpQuiet_nil ?_
       intro _ hw'
       obtain ⟨⟨wq, hq⟩, hw''⟩ := hw'
       subst hw''
       try dsimp only
       go_wp2
       go_roundw
       case rel => exact ⟨k + 1, by omega, by go_num, HA, bT hb6 hq⟩
       case measure => simp [intOf]; omega
      | false =>
       have HE : Hid (mav m = false) := mav_ln EX.out hln
       rw [hln] at HLN
       clear hln
       go_wp2
       refine wp_region_ext (by kernel_rfl) (by kernel_rfl) ?_
       repeat (go_big_quiet_step ((go_at_call 116; exact ext_call (HLN.out _ (HM6.out.now (Ext.ok _))))))
       refine wpQuiet_nil ?_
       intro _ hw'
       obtain ⟨⟨wq, hq⟩, hw''⟩ := hw'
       subst hw''
       try dsimp only
       go_wp2
       go_ret
       exact ⟨by rw [HE.out]; rfl, bT HB5.out (bT hb6 hq)⟩
    ·obtain rfl : k = m.c.ls.length := by omega
     have HLA := Lib.hid (all_end hall.out)
     have HE : Hid (mav m = true) := mav_end h1 h2 h3 h4 HFA.out HLA.out
     go_wp2
     go_ret
     exact ⟨by rw [HE.out]; rfl, bT HB5.out hb6⟩
end Go.Proofs.YtnaagdmaggdbmaaGreatDoor
namespace Go.Proofs.YtnaagdmaggdbmaaGreatDoor
open Go.RowKit
set_option maxRecDepth 1000000
set_option maxHeartbeats 1000000 in
theorem l6Shared_any (s p : Int) (w : World) : Calls Tryz.prog 120 #[.agg #[.int .i64 s, .int .i64 p]] w fun r w' => r = .returned (.bool (kval (s, p) && decide (keyI s p = s))) ∧ Below w.heap.size w w' := by
 have hbx := Own.new_ w 36 #[.int .i64 s, .int .i64 p]
 have hb0 : Below w.heap.size w (w.alloc (.cells #[.int .i64 s, .int .i64 p] 36)) := bA bR
 generalize hW : w.alloc (.cells #[.int .i64 s, .int .i64 p] 36) = W0 at hbx hb0
 have y0 := xcell (hbx.cell_ 0 (v := .int .i64 s) rfl) hbx.lt
 have y1 := xcell (hbx.cell_ 1 (v := .int .i64 p) rfl) hbx.lt
 have HKV := Lib.hid (sKeyValid_any s p)
 have HKF := Lib.hid (sKeyFor_any s p)
 have he := fun W => eql_key (keyI s p) p s p W
 clear hbx
 cases h1 : kval (s, p) with
 | false =>
  rw [h1] at HKV
  go_enter Tryz.func120, Tryz.ntmps120
  go_wp2
  refine wp_region_ext (by kernel_rfl) (by kernel_rfl) ?_
  repeat (go_big_quiet_step ((go_at_call 190; exact ext_call (HKV.out _))))
  refine wpQuiet_nil ?_
  intro _ hw'
  obtain ⟨⟨wq, hq⟩, hw''⟩ := hw'
  subst hw''
  try dsimp only
  go_wp2
  go_ret
  exact ⟨rfl, bT hb0 hq⟩
 | true =>
  rw [h1] at HKV
  by_cases h2 : keyI s p = s
  ·have hkq : keq (keyI s p) p s p = true := by unfold keq; rw [h2]; simp
   rw [hkq] at he
   have HD : Hid (decide (keyI s p = s) = true) := decide_eq_true h2
   generalize hk : keyI s p = ks at *
   go_enter Tryz.func120, Tryz.ntmps120
   go_wp2
   refine wp_region_ext (by kernel_rfl) (by kernel_rfl) ?_
   repeat (go_big_quiet_step ((first | (go_at_call 190; exact ext_call (HKV.out _)) | (go_at_call 49; exact ext_call (HKF.out _)))))
   refine wpQuiet_nil ?_
   intro _ hw'
   obtain ⟨⟨wq, hq⟩, hw''⟩ := hw'
   subst hw''
   try dsimp only
   go_wp2
   go_ret
   exact ⟨by rw [HD.out]; rfl, bT hb0 hq⟩
  ·have hkq : keq (keyI s p) p s p = false := by unfold keq; simp [h2]
   rw [hkq] at he
   have HD : Hid (decide (keyI s p = s) = false) := decide_eq_false h2
   generalize hk : keyI s p = ks at *
   go_enter Tryz.func120, Tryz.ntmps120
   go_wp2
   refine wp_region_ext (by kernel_rfl) (by kernel_rfl) ?_
   repeat (go_big_quiet_step ((first | (go_at_call 190; exact ext_call (HKV.out _)) | (go_at_call 49; exact ext_call (HKF.out _)))))
   refine wpQuiet_nil ?_
   intro _ hw'
   obtain ⟨⟨wq, hq⟩, hw''⟩ := hw'
   subst hw''
   try dsimp only
   go_wp2
   go_ret
   exact ⟨by rw [HD.out]; rfl, bT hb0 hq⟩
set_option maxHeartbeats 2000000 in
theorem sPutPage_any (vb vf vl vo : Value) (m : Ma) (s p fr r : Int) (w : World) (hM : MaR w vb vf vl vo m) :
  Calls Tryz.prog 55 #[.agg #[vb, vf, vl, .int .i64 m.c.hand, .int .i64 m.g.count, .int .i64 m.g.next, .int .i64 m.g.round, vo, .int .i64 m.sp], .agg #[.int .i64 s, .int .i64 p], .int .i64 fr, .int .i64 r] w (Post2 fun v w' => ∃ v1 v2 v3 v4, v = .tuple #[.agg #[v1, v2, v3, .int .i64 (putV m s p fr r).c.hand, .int .i64 (putV m s p fr r).g.count, .int .i64 (putV m s p fr r).g.next, .int .i64 (putV m s p fr r).g.round, v4, .int .i64 (putV m s p fr r).sp], .bool (putOK m s p fr r)] ∧ MaM w.heap.size w' v1 v2 v3 v4 (putV m s p fr r) ∧ Below w.heap.size w w') := by
 obtain ⟨W0, hW, hbx, hbk, hbo, hb0, hs0⟩ := box3 w #[vb, vf, vl, .int .i64 m.c.hand, .int .i64 m.g.count, .int .i64 m.g.next, .int .i64 m.g.round, vo, .int .i64 m.sp] 34 #[.int .i64 s, .int .i64 p] 36 #[.slice none 0 0, .slice none 0 0, .slice none 0 0, .int .i64 0, .int .i64 0, .int .i64 0, .int .i64 0, .slice none 0 0, .int .i64 0] 34
 have HX0 := Lib.hid hbx
 have HK0 := Lib.hid hbk
 have HR0 := Lib.hid hbo
 have HB0 := Lib.hid hb0
 have HS0 : Hid (w.heap.size + 3 ≤ W0.heap.size) := Nat.le_of_eq hs0.symm
 clear hbx hbk hbo hb0
 have HM := Lib.hid hM
 clear hM
 obtain ⟨m00, m10, m20, m30, m40, m50, m60, m70, m80⟩ := cells9 HX0.out
 go_enter Tryz.func55, Tryz.ntmps55
 go_wp2_with fail
 refine (sMachineValid_any vb vf vl vo m _ (HM.out.now HB0.out)).mono ?_
 rintro e w7 ⟨rfl, hb7⟩
 have HX7 := Lib.hid (HX0.out.below hb7)
 have HK7 := Lib.hid (HK0.out.below hb7)
 have HR7 := Lib.hid (HR0.out.below hb7)
 have HB7 := Lib.hid (bT HB0.out hb7)
 have HS7 := Lib.hid (Nat.le_trans HS0.out hb7.size)
 clear hb7
 clear m00 m10 m20 m30 m40 m50 m60 m70 m80
 cases h1 : mav m with
 | false =>
  have HA : Hid (putOK m s p fr r = false) := by show _ = _; unfold putOK; rw [h1]; rfl
  have HV := Lib.hid (putOK_false HA.out)
  obtain ⟨r0x, r1x, r2x, r3x, r4x, r5x, r6x, r7x, r8x⟩ := cells9 HR7.out
  obtain ⟨z0x, z1x, z2x, z3x, z4x, z5x, z6x, z7x, z8x⟩ := free9 HR7.out
  go_wp2
  obtain ⟨t0, t1, t2, t3, t4, t5, t6, t7, t8⟩ := cells9 (set9z HR7.out)
  refine bodyPost_ret (v := .tuple #[.agg #[.slice none 0 0, .slice none 0 0, .slice none 0 0, .int .i64 0, .int .i64 0, .int .i64 0, .int .i64 0, .slice none 0 0, .int .i64 0], .bool false]) (by simp [results, Tryz.results55, go_sem, t0, t1, t2, t3, t4, t5, t6, t7, t8]) rfl ⟨_, rfl, _, _, _, _, by rw [HA.out, HV.out]; rfl, by rw [HV.out]; exact mam_z, ?_⟩
  repeat (refine bS ?_ (by simp <;> omega))
  exact HB7.out
 | true =>
  have k07 := HK7.out.cell_ 0 (v := .int .i64 s) rfl
  have k17 := HK7.out.cell_ 1 (v := .int .i64 p) rfl
  go_wp2_with fail
  refine (l6Shared_any s p _).mono ?_
  rintro e w1 ⟨rfl, hb1⟩
  have HX1 := Lib.hid (HX7.out.below hb1)
  have HK1 := Lib.hid (HK7.out.below hb1)
  have HR1 := Lib.hid (HR7.out.below hb1)
  have HB1 := Lib.hid (bT HB7.out hb1)
  have HS1 := Lib.hid (Nat.le_trans HS7.out hb1.size)
  clear hb1
  clear k07 k17
  cases h2 : (kval (s, p) && decide (keyI s p = s)) with
  | false =>
   have HA : Hid (putOK m s p fr r = false) := by
    show _ = _
    unfold putOK mapOK
    rw [Bool.and_eq_false_iff] at h2
    rcases h2 with h2 | h2
    ·rw [h2]; simp
    ·rw [h2]; simp
   have HV := Lib.hid (putOK_false HA.out)
   obtain ⟨r0x, r1x, r2x, r3x, r4x, r5x, r6x, r7x, r8x⟩ := cells9 HR1.out
   obtain ⟨z0x, z1x, z2x, z3x, z4x, z5x, z6x, z7x, z8x⟩ := free9 HR1.out
   go_wp2
   obtain ⟨t0, t1, t2, t3, t4, t5, t6, t7, t8⟩ := cells9 (set9z HR1.out)
   refine bodyPost_ret (v := .tuple #[.agg #[.slice none 0 0, .slice none 0 0, .slice none 0 0, .int .i64 0, .int .i64 0, .int .i64 0, .int .i64 0, .slice none 0 0, .int .i64 0], .bool false]) (by simp [results, Tryz.results55, go_sem, t0, t1, t2, t3, t4, t5, t6, t7, t8]) rfl ⟨_, rfl, _, _, _, _, by rw [HA.out, HV.out]; rfl, by rw [HV.out]; exact mam_z, ?_⟩
   repeat (refine bS ?_ (by simp <;> omega))
   exact HB1.out
  | true =>
   rw [Bool.and_eq_true, decide_eq_true_eq] at h2
   replace h2 := h2.2
   obtain ⟨a1, a2, a3, a4⟩ := mav_len h1
   obtain ⟨m01, m11, m21, m31, m41, m51, m61, m71, m81⟩ := cells9 HX1.out
   have k01 := HK1.out.cell_ 0 (v := .int .i64 s) rfl
   have k11 := HK1.out.cell_ 1 (v := .int .i64 p) rfl
   go_wp2_with fail
   refine (sMapPage_any vb vf m.t s p fr r _ (HM.out.t.now HB1.out)).mono ?_
   rintro e w2 ⟨_, rfl, v1, v2, rfl, hT2, hb2⟩
   obtain ⟨A1, c1, rfl, _⟩ := hT2.b
   obtain ⟨A2, c2, rfl, _⟩ := hT2.f
   have hs1 := HS1.out
   have HX2 := Lib.hid (HX1.out.below hb2)
   have HK2 := Lib.hid (HK1.out.below hb2)
   have HR2 := Lib.hid (HR1.out.below hb2)
   have HB2 := Lib.hid (bT HB1.out hb2)
   have HS2 := Lib.hid (Nat.le_trans HS1.out hb2.size)
   clear hb2
   clear m01 m11 m21 m31 m41 m51 m61 m71 m81
   clear k01 k11
   have ho5 := Own.new_ w2 26 #[.slice A1 (mapV m.t s p fr r).bs.length c1, .slice A2 (mapV m.t s p fr r).fs.length c2]
   have hb5 : Below w2.heap.size w2 (w2.alloc (.cells #[.slice A1 (mapV m.t s p fr r).bs.length c1, .slice A2 (mapV m.t s p fr r).fs.length c2] 26)) := bA bR
   generalize hW5 : w2.alloc (.cells #[.slice A1 (mapV m.t s p fr r).bs.length c1, .slice A2 (mapV m.t s p fr r).fs.length c2] 26) = w5 at ho5 hb5
   have HT5 := Lib.hid ((hT2.now hb5).mono hs1)
   clear hT2
   have HX5 := Lib.hid (HX2.out.below hb5)
   have HK5 := Lib.hid (HK2.out.below hb5)
   have HR5 := Lib.hid (HR2.out.below hb5)
   have HB5 := Lib.hid (bT HB2.out hb5)
   have HS5 := Lib.hid (Nat.le_trans HS2.out hb5.size)
   clear hb5
   cases h3 : mapOK m.t s p fr r with
   | false =>
    have HA : Hid (putOK m s p fr r = false) := by show _ = _; unfold putOK; rw [h3]; simp
    have HV := Lib.hid (putOK_false HA.out)
    clear ho5
    obtain ⟨r0x, r1x, r2x, r3x, r4x, r5x, r6x, r7x, r8x⟩ := cells9 HR5.out
    obtain ⟨z0x, z1x, z2x, z3x, z4x, z5x, z6x, z7x, z8x⟩ := free9 HR5.out
    go_wp2
    obtain ⟨t0, t1, t2, t3, t4, t5, t6, t7, t8⟩ := cells9 (set9z HR5.out)
    refine bodyPost_ret (v := .tuple #[.agg #[.slice none 0 0, .slice none 0 0, .slice none 0 0, .int .i64 0, .int .i64 0, .int .i64 0, .int .i64 0, .slice none 0 0, .int .i64 0], .bool false]) (by simp [results, Tryz.results55, go_sem, t0, t1, t2, t3, t4, t5, t6, t7, t8]) rfl ⟨_, rfl, _, _, _, _, by rw [HA.out, HV.out]; rfl, by rw [HV.out]; exact mam_z, ?_⟩
    repeat (refine bS ?_ (by simp <;> omega))
    exact HB5.out
   | true =>
    have HA : Hid (putOK m s p fr r = true) := by show _ = _; unfold putOK; rw [h1, h3, decide_eq_true h2]; rfl
    have HV : Hid (putV m s p fr r = { m with t := mapV m.t s p fr r }) := by show _ = _; unfold putV; rw [HA.out]; rfl
    obtain ⟨m05, m15, m25, m35, m45, m55, m65, m75, m85⟩ := cells9 HX5.out
    go_wp2_with fail
    refine (l6Copy_any vb vf vl vo m _ (HM.out.now HB5.out) a1 a2 a3 a4).mono ?_
    rintro e w3 ⟨_, rfl, q1, q2, q3, q4, rfl, hM3, hb3⟩
    have hs2 := HS5.out
    have HT3 := Lib.hid (HT5.out.now hb3)
    have HM3 := Lib.hid (hM3.mono hs2)
    have ho3 := ho5.below hb3
    have u0 := ho3.cell_ 0 (v := .slice A1 (mapV m.t s p fr r).bs.length c1) rfl
    have u1 := ho3.cell_ 1 (v := .slice A2 (mapV m.t s p fr r).fs.length c2) rfl
    have hl5 := ho3.lt
    obtain ⟨B1, d1, rfl, _⟩ := HM3.out.t.b
    obtain ⟨B2, d2, rfl, _⟩ := HM3.out.t.f
    obtain ⟨B3, d3, rfl, _⟩ := HM3.out.l
    obtain ⟨B4, d4, rfl, _⟩ := HM3.out.o
    clear hM3 ho3 ho5
    have HX3 := Lib.hid (HX5.out.below hb3)
    have HK3 := Lib.hid (HK5.out.below hb3)
    have HR3 := Lib.hid (HR5.out.below hb3)
    have HB3 := Lib.hid (bT HB5.out hb3)
    have HS3 := Lib.hid (Nat.le_trans HS5.out hb3.size)
    clear hb3
    clear m05 m15 m25 m35 m45 m55 m65 m75 m85
    obtain ⟨r0x, r1x, r2x, r3x, r4x, r5x, r6x, r7x, r8x⟩ := cells9 HR3.out
    obtain ⟨z0x, z1x, z2x, z3x, z4x, z5x, z6x, z7x, z8x⟩ := free9 HR3.out
    have hl3 := HR3.out.lt
    go_wp2
    have o3 := (((((((((HR3.out.set_ 0 (.slice A1 (mapV m.t s p fr r).bs.length c1)).set_ 1 (.slice A2 (mapV m.t s p fr r).fs.length c2)).set_ 2 (.slice B3 m.c.ls.length d3)).set_ 3 (.int .i64 m.c.hand)).set_ 4 (.int .i64 m.g.count)).set_ 5 (.int .i64 m.g.next)).set_ 6 (.int .i64 m.g.round)).set_ 7 (.slice B4 m.g.os.length d4)).set_ 8 (.int .i64 m.sp))
    have o4 := o3.alloc (o := .cells #[.slice A1 (mapV m.t s p fr r).bs.length c1, .slice A2 (mapV m.t s p fr r).fs.length c2, .slice B3 m.c.ls.length d3, .int .i64 m.c.hand, .int .i64 m.g.count, .int .i64 m.g.next, .int .i64 m.g.round, .slice B4 m.g.os.length d4, .int .i64 m.sp] 34)
    have v0 := o4.cell_ 0 (v := .slice A1 (mapV m.t s p fr r).bs.length c1) (by simp)
    have v1 := o4.cell_ 1 (v := .slice A2 (mapV m.t s p fr r).fs.length c2) (by simp)
    have v2 := o4.cell_ 2 (v := .slice B3 m.c.ls.length d3) (by simp)
    have v3 := o4.cell_ 3 (v := .int .i64 m.c.hand) (by simp)
    have v4 := o4.cell_ 4 (v := .int .i64 m.g.count) (by simp)
    have v5 := o4.cell_ 5 (v := .int .i64 m.g.next) (by simp)
    have v6 := o4.cell_ 6 (v := .int .i64 m.g.round) (by simp)
    have v7 := o4.cell_ 7 (v := .slice B4 m.g.os.length d4) (by simp)
    have v8 := o4.cell_ 8 (v := .int .i64 m.sp) (by simp)
    refine bodyPost_ret (v := .tuple #[.agg #[.slice A1 (mapV m.t s p fr r).bs.length c1, .slice A2 (mapV m.t s p fr r).fs.length c2, .slice B3 m.c.ls.length d3, .int .i64 m.c.hand, .int .i64 m.g.count, .int .i64 m.g.next, .int .i64 m.g.round, .slice B4 m.g.os.length d4, .int .i64 m.sp], .bool true]) (by simp [results, Tryz.results55, go_sem, v0, v1, v2, v3, v4, v5, v6, v7, v8]) rfl ⟨_, rfl, _, _, _, _, by rw [HA.out, HV.out], ?_, ?_⟩
    ·rw [HV.out]
     have hmm : MaM (w.heap.size + 3) w3 (.slice A1 (mapV m.t s p fr r).bs.length c1) (.slice A2 (mapV m.t s p fr r).fs.length c2) (.slice B3 m.c.ls.length d3) (.slice B4 m.g.os.length d4) { m with t := mapV m.t s p fr r } := ⟨HT3.out, HM3.out.l, HM3.out.o⟩
     refine MaM.mono (B := w.heap.size + 3) (MaM.now ?_ (bA bR)) (by omega)
     repeat (refine MaM.far ?_ (by show w.heap.size + 1 + 1 < w.heap.size + 3; omega))
     exact hmm
    ·refine bA ?_
     repeat (refine bS ?_ (by simp <;> omega))
     exact HB3.out
end Go.Proofs.YtnaagdmaggdbmaaGreatDoor
