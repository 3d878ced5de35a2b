/- A part of the proofs of this seat: Mark, Mark2, PpS. -/
import Derived.Test.YtfbnokjdkhcgoaaGreatDoorVMcI
import Derived.Test.YtfbnokjdkhcgoaaGreatDoorVLnS
set_option linter.unusedVariables false
set_option linter.unusedSimpArgs false
set_option maxRecDepth 1000000
namespace Go.Proofs.YtfbnokjdkhcgoaaGreatDoor
open Go.RowKit
set_option maxHeartbeats 1000000 in
theorem l6Shared_any (s p : Int) (w : World) : Calls Tryz.prog 163 #[.agg #[.int .i64 s, .int .i64 p]] w fun r w' => r = .returned (.bool (kval (s, p) && decide (keyI s p = s))) ∧ Below w.heap.size w w' := by
 have hbx := Own.new_ w 54 #[.int .i64 s, .int .i64 p]
 have hb0 : Below w.heap.size w (w.alloc (.cells #[.int .i64 s, .int .i64 p] 54)) := bA bR
 generalize hW : w.alloc (.cells #[.int .i64 s, .int .i64 p] 54) = W0 at hbx hb0
 have y0 := xcell (hbx.cell_ 0 (v := .int .i64 s) rfl) hbx.lt
 have y1 := xcell (hbx.cell_ 1 (v := .int .i64 p) rfl) hbx.lt
 have HKV := Hd (sKeyValid_any s p)
 have HKF := Hd (sKeyFor_any s p)
 have he := fun W => eql_key (keyI s p) p s p W
 clear hbx
 cases h1 : kval (s, p) with
 | false =>
  rw [h1] at HKV
  go_enter Tryz.func163, Tryz.ntmps163
  go_wp2
  refine wp_region_ext (by kernel_rfl) (by kernel_rfl) ?_
  repeat (go_big_quiet_step ((go_at_call 212; exact ext_call (HKV.out _))))
  refine wpQuiet_nil ?_
  intro _ hw'
  obtain ⟨⟨wq, hq⟩, hw''⟩ := hw'
  subst hw''
  try dsimp only
  go_wp2
  go_ret
  exact ⟨rfl, bT hb0 hq⟩
 | true =>
  rw [h1] at HKV
  by_cases h2 : keyI s p = s
  ·have hkq : keq (keyI s p) p s p = true := by unfold keq; rw [h2]; simp
   rw [hkq] at he
   have HD : Hid (decide (keyI s p = s) = true) := decide_eq_true h2
   generalize hk : keyI s p = ks at *
   go_enter Tryz.func163, Tryz.ntmps163
   go_wp2
   refine wp_region_ext (by kernel_rfl) (by kernel_rfl) ?_
   repeat (go_big_quiet_step ((first | (go_at_call 212; exact ext_call (HKV.out _)) | (go_at_call 52; exact ext_call (HKF.out _)))))
   refine wpQuiet_nil ?_
   intro _ hw'
   obtain ⟨⟨wq, hq⟩, hw''⟩ := hw'
   subst hw''
   try dsimp only
   go_wp2
   go_ret
   exact ⟨by rw [HD.out]; rfl, bT hb0 hq⟩
  ·have hkq : keq (keyI s p) p s p = false := by unfold keq; simp [h2]
   rw [hkq] at he
   have HD : Hid (decide (keyI s p = s) = false) := decide_eq_false h2
   generalize hk : keyI s p = ks at *
   go_enter Tryz.func163, Tryz.ntmps163
   go_wp2
   refine wp_region_ext (by kernel_rfl) (by kernel_rfl) ?_
   repeat (go_big_quiet_step ((first | (go_at_call 212; exact ext_call (HKV.out _)) | (go_at_call 52; exact ext_call (HKF.out _)))))
   refine wpQuiet_nil ?_
   intro _ hw'
   obtain ⟨⟨wq, hq⟩, hw''⟩ := hw'
   subst hw''
   try dsimp only
   go_wp2
   go_ret
   exact ⟨by rw [HD.out]; rfl, bT hb0 hq⟩
set_option maxHeartbeats 2000000 in
theorem sPutPage_any (vb vf vl vo : Value) (m : Ma) (s p fr r : Int) (w : World) (hM : MaR w vb vf vl vo m) :
  Calls Tryz.prog 97 #[.agg #[vb, vf, vl, .int .i64 m.c.hand, .int .i64 m.g.count, .int .i64 m.g.next, .int .i64 m.g.round, vo, .int .i64 m.sp], .agg #[.int .i64 s, .int .i64 p], .int .i64 fr, .int .i64 r] w (Post2 fun v w' => ∃ v1 v2 v3 v4, v = .tuple #[.agg #[v1, v2, v3, .int .i64 (putV m s p fr r).c.hand, .int .i64 (putV m s p fr r).g.count, .int .i64 (putV m s p fr r).g.next, .int .i64 (putV m s p fr r).g.round, v4, .int .i64 (putV m s p fr r).sp], .bool (putOK m s p fr r)] ∧ MaM w.heap.size w' v1 v2 v3 v4 (putV m s p fr r) ∧ Below w.heap.size w w') := by
 obtain ⟨W0, hW, hbx, hbk, hbo, hb0, hs0⟩ := box3 w #[vb, vf, vl, .int .i64 m.c.hand, .int .i64 m.g.count, .int .i64 m.g.next, .int .i64 m.g.round, vo, .int .i64 m.sp] 34 #[.int .i64 s, .int .i64 p] 54 #[.slice none 0 0, .slice none 0 0, .slice none 0 0, .int .i64 0, .int .i64 0, .int .i64 0, .int .i64 0, .slice none 0 0, .int .i64 0] 34
 have HX0 := Hd hbx
 have HK0 := Hd hbk
 have HR0 := Hd hbo
 have HB0 := Hd hb0
 have HS0 : Hid (w.heap.size + 3 ≤ W0.heap.size) := Nat.le_of_eq hs0.symm
 clear hbx hbk hbo hb0
 have HM := Hd hM
 clear hM
 obtain ⟨m00, m10, m20, m30, m40, m50, m60, m70, m80⟩ := cells9 HX0.out
 go_enter Tryz.func97, Tryz.ntmps97
 go_wp2_with fail
 refine (sMachineValid_any vb vf vl vo m _ (HM.out.now HB0.out)).mono ?_
 rintro e w7 ⟨rfl, hb7⟩
 have HX7 := Hd (HX0.out.below hb7)
 have HK7 := Hd (HK0.out.below hb7)
 have HR7 := Hd (HR0.out.below hb7)
 have HB7 := Hd (bT HB0.out hb7)
 have HS7 := Hd (Nat.le_trans HS0.out hb7.size)
 clear hb7
 clear m00 m10 m20 m30 m40 m50 m60 m70 m80
 cases h1 : mav m with
 | false =>
  have HA : Hid (putOK m s p fr r = false) := by show _ = _; unfold putOK; rw [h1]; rfl
  have HV := Hd (putOK_false HA.out)
  obtain ⟨r0x, r1x, r2x, r3x, r4x, r5x, r6x, r7x, r8x⟩ := cells9 HR7.out
  obtain ⟨z0x, z1x, z2x, z3x, z4x, z5x, z6x, z7x, z8x⟩ := free9 HR7.out
  go_wp2
  obtain ⟨t0, t1, t2, t3, t4, t5, t6, t7, t8⟩ := cells9 (set9z HR7.out)
  refine bodyPost_ret (v := .tuple #[.agg #[.slice none 0 0, .slice none 0 0, .slice none 0 0, .int .i64 0, .int .i64 0, .int .i64 0, .int .i64 0, .slice none 0 0, .int .i64 0], .bool false]) (by simp [results, Tryz.results97, go_sem, t0, t1, t2, t3, t4, t5, t6, t7, t8]) rfl ⟨_, rfl, _, _, _, _, by rw [HA.out, HV.out]; rfl, by rw [HV.out]; exact mam_z, ?_⟩
  repeat (refine bS ?_ (by simp <;> omega))
  exact HB7.out
 | true =>
  have k07 := HK7.out.cell_ 0 (v := .int .i64 s) rfl
  have k17 := HK7.out.cell_ 1 (v := .int .i64 p) rfl
  go_wp2_with fail
  refine (l6Shared_any s p _).mono ?_
  rintro e w1 ⟨rfl, hb1⟩
  have HX1 := Hd (HX7.out.below hb1)
  have HK1 := Hd (HK7.out.below hb1)
  have HR1 := Hd (HR7.out.below hb1)
  have HB1 := Hd (bT HB7.out hb1)
  have HS1 := Hd (Nat.le_trans HS7.out hb1.size)
  clear hb1
  clear k07 k17
  cases h2 : (kval (s, p) && decide (keyI s p = s)) with
  | false =>
   have HA : Hid (putOK m s p fr r = false) := by
    show _ = _
    unfold putOK mapOK
    rw [Bool.and_eq_false_iff] at h2
    rcases h2 with h2 | h2
    ·rw [h2]; simp
    ·rw [h2]; simp
   have HV := Hd (putOK_false HA.out)
   obtain ⟨r0x, r1x, r2x, r3x, r4x, r5x, r6x, r7x, r8x⟩ := cells9 HR1.out
   obtain ⟨z0x, z1x, z2x, z3x, z4x, z5x, z6x, z7x, z8x⟩ := free9 HR1.out
   go_wp2
   obtain ⟨t0, t1, t2, t3, t4, t5, t6, t7, t8⟩ := cells9 (set9z HR1.out)
   refine bodyPost_ret (v := .tuple #[.agg #[.slice none 0 0, .slice none 0 0, .slice none 0 0, .int .i64 0, .int .i64 0, .int .i64 0, .int .i64 0, .slice none 0 0, .int .i64 0], .bool false]) (by simp [results, Tryz.results97, go_sem, t0, t1, t2, t3, t4, t5, t6, t7, t8]) rfl ⟨_, rfl, _, _, _, _, by rw [HA.out, HV.out]; rfl, by rw [HV.out]; exact mam_z, ?_⟩
   repeat (refine bS ?_ (by simp <;> omega))
   exact HB1.out
  | true =>
   rw [Bool.and_eq_true, decide_eq_true_eq] at h2
   replace h2 := h2.2
   obtain ⟨a1, a2, a3, a4⟩ := mav_len h1
   obtain ⟨m01, m11, m21, m31, m41, m51, m61, m71, m81⟩ := cells9 HX1.out
   have k01 := HK1.out.cell_ 0 (v := .int .i64 s) rfl
   have k11 := HK1.out.cell_ 1 (v := .int .i64 p) rfl
   go_wp2_with fail
   refine (sMapPage_any vb vf m.t s p fr r _ (HM.out.t.now HB1.out)).mono ?_
   rintro e w2 ⟨_, rfl, v1, v2, rfl, hT2, hb2⟩
   obtain ⟨A1, c1, rfl, _⟩ := hT2.b
   obtain ⟨A2, c2, rfl, _⟩ := hT2.f
   have hs1 := HS1.out
   have HX2 := Hd (HX1.out.below hb2)
   have HK2 := Hd (HK1.out.below hb2)
   have HR2 := Hd (HR1.out.below hb2)
   have HB2 := Hd (bT HB1.out hb2)
   have HS2 := Hd (Nat.le_trans HS1.out hb2.size)
   clear hb2
   clear m01 m11 m21 m31 m41 m51 m61 m71 m81
   clear k01 k11
   have ho5 := Own.new_ w2 26 #[.slice A1 (mapV m.t s p fr r).bs.length c1, .slice A2 (mapV m.t s p fr r).fs.length c2]
   have hb5 : Below w2.heap.size w2 (w2.alloc (.cells #[.slice A1 (mapV m.t s p fr r).bs.length c1, .slice A2 (mapV m.t s p fr r).fs.length c2] 26)) := bA bR
   generalize hW5 : w2.alloc (.cells #[.slice A1 (mapV m.t s p fr r).bs.length c1, .slice A2 (mapV m.t s p fr r).fs.length c2] 26) = w5 at ho5 hb5
   have HT5 := Hd ((hT2.now hb5).mono hs1)
   clear hT2
   have HX5 := Hd (HX2.out.below hb5)
   have HK5 := Hd (HK2.out.below hb5)
   have HR5 := Hd (HR2.out.below hb5)
   have HB5 := Hd (bT HB2.out hb5)
   have HS5 := Hd (Nat.le_trans HS2.out hb5.size)
   clear hb5
   cases h3 : mapOK m.t s p fr r with
   | false =>
    have HA : Hid (putOK m s p fr r = false) := by show _ = _; unfold putOK; rw [h3]; simp
    have HV := Hd (putOK_false HA.out)
    clear ho5
    obtain ⟨r0x, r1x, r2x, r3x, r4x, r5x, r6x, r7x, r8x⟩ := cells9 HR5.out
    obtain ⟨z0x, z1x, z2x, z3x, z4x, z5x, z6x, z7x, z8x⟩ := free9 HR5.out
    go_wp2
    obtain ⟨t0, t1, t2, t3, t4, t5, t6, t7, t8⟩ := cells9 (set9z HR5.out)
    refine bodyPost_ret (v := .tuple #[.agg #[.slice none 0 0, .slice none 0 0, .slice none 0 0, .int .i64 0, .int .i64 0, .int .i64 0, .int .i64 0, .slice none 0 0, .int .i64 0], .bool false]) (by simp [results, Tryz.results97, go_sem, t0, t1, t2, t3, t4, t5, t6, t7, t8]) rfl ⟨_, rfl, _, _, _, _, by rw [HA.out, HV.out]; rfl, by rw [HV.out]; exact mam_z, ?_⟩
    repeat (refine bS ?_ (by simp <;> omega))
    exact HB5.out
   | true =>
    have HA : Hid (putOK m s p fr r = true) := by show _ = _; unfold putOK; rw [h1, h3, decide_eq_true h2]; rfl
    have HV : Hid (putV m s p fr r = { m with t := mapV m.t s p fr r }) := by show _ = _; unfold putV; rw [HA.out]; rfl
    obtain ⟨m05, m15, m25, m35, m45, m55, m65, m75, m85⟩ := cells9 HX5.out
    go_wp2_with fail
    refine (l6Copy_any vb vf vl vo m _ (HM.out.now HB5.out) a1 a2 a3 a4).mono ?_
    rintro e w3 ⟨_, rfl, q1, q2, q3, q4, rfl, hM3, hb3⟩
    have hs2 := HS5.out
    have HT3 := Hd (HT5.out.now hb3)
    have HM3 := Hd (hM3.mono hs2)
    have ho3 := ho5.below hb3
    have u0 := ho3.cell_ 0 (v := .slice A1 (mapV m.t s p fr r).bs.length c1) rfl
    have u1 := ho3.cell_ 1 (v := .slice A2 (mapV m.t s p fr r).fs.length c2) rfl
    have hl5 := ho3.lt
    obtain ⟨B1, d1, rfl, _⟩ := HM3.out.t.b
    obtain ⟨B2, d2, rfl, _⟩ := HM3.out.t.f
    obtain ⟨B3, d3, rfl, _⟩ := HM3.out.l
    obtain ⟨B4, d4, rfl, _⟩ := HM3.out.o
    clear hM3 ho3 ho5
    have HX3 := Hd (HX5.out.below hb3)
    have HK3 := Hd (HK5.out.below hb3)
    have HR3 := Hd (HR5.out.below hb3)
    have HB3 := Hd (bT HB5.out hb3)
    have HS3 := Hd (Nat.le_trans HS5.out hb3.size)
    clear hb3
    clear m05 m15 m25 m35 m45 m55 m65 m75 m85
    obtain ⟨r0x, r1x, r2x, r3x, r4x, r5x, r6x, r7x, r8x⟩ := cells9 HR3.out
    obtain ⟨z0x, z1x, z2x, z3x, z4x, z5x, z6x, z7x, z8x⟩ := free9 HR3.out
    have hl3 := HR3.out.lt
    go_wp2
    have o3 := (((((((((HR3.out.set_ 0 (.slice A1 (mapV m.t s p fr r).bs.length c1)).set_ 1 (.slice A2 (mapV m.t s p fr r).fs.length c2)).set_ 2 (.slice B3 m.c.ls.length d3)).set_ 3 (.int .i64 m.c.hand)).set_ 4 (.int .i64 m.g.count)).set_ 5 (.int .i64 m.g.next)).set_ 6 (.int .i64 m.g.round)).set_ 7 (.slice B4 m.g.os.length d4)).set_ 8 (.int .i64 m.sp))
    have o4 := o3.alloc (o := .cells #[.slice A1 (mapV m.t s p fr r).bs.length c1, .slice A2 (mapV m.t s p fr r).fs.length c2, .slice B3 m.c.ls.length d3, .int .i64 m.c.hand, .int .i64 m.g.count, .int .i64 m.g.next, .int .i64 m.g.round, .slice B4 m.g.os.length d4, .int .i64 m.sp] 34)
    have v0 := o4.cell_ 0 (v := .slice A1 (mapV m.t s p fr r).bs.length c1) (by simp)
    have v1 := o4.cell_ 1 (v := .slice A2 (mapV m.t s p fr r).fs.length c2) (by simp)
    have v2 := o4.cell_ 2 (v := .slice B3 m.c.ls.length d3) (by simp)
    have v3 := o4.cell_ 3 (v := .int .i64 m.c.hand) (by simp)
    have v4 := o4.cell_ 4 (v := .int .i64 m.g.count) (by simp)
    have v5 := o4.cell_ 5 (v := .int .i64 m.g.next) (by simp)
    have v6 := o4.cell_ 6 (v := .int .i64 m.g.round) (by simp)
    have v7 := o4.cell_ 7 (v := .slice B4 m.g.os.length d4) (by simp)
    have v8 := o4.cell_ 8 (v := .int .i64 m.sp) (by simp)
    refine bodyPost_ret (v := .tuple #[.agg #[.slice A1 (mapV m.t s p fr r).bs.length c1, .slice A2 (mapV m.t s p fr r).fs.length c2, .slice B3 m.c.ls.length d3, .int .i64 m.c.hand, .int .i64 m.g.count, .int .i64 m.g.next, .int .i64 m.g.round, .slice B4 m.g.os.length d4, .int .i64 m.sp], .bool true]) (by simp [results, Tryz.results97, go_sem, v0, v1, v2, v3, v4, v5, v6, v7, v8]) rfl ⟨_, rfl, _, _, _, _, by rw [HA.out, HV.out], ?_, ?_⟩
    ·rw [HV.out]
     have hmm : MaM (w.heap.size + 3) w3 (.slice A1 (mapV m.t s p fr r).bs.length c1) (.slice A2 (mapV m.t s p fr r).fs.length c2) (.slice B3 m.c.ls.length d3) (.slice B4 m.g.os.length d4) { m with t := mapV m.t s p fr r } := ⟨HT3.out, HM3.out.l, HM3.out.o⟩
     refine MaM.mono (B := w.heap.size + 3) (MaM.now ?_ (bA bR)) (by omega)
     repeat (refine MaM.far ?_ (by show w.heap.size + 1 + 1 < w.heap.size + 3; omega))
     exact hmm
    ·refine bA ?_
     repeat (refine bS ?_ (by simp <;> omega))
     exact HB3.out
theorem szIntS_any (A : Option Addr) (n c : Nat) (left : Int) (w : World) (hn : n ≤ 9223372036854775807) (h0 : 0 ≤ left) (h1 : left ≤ 1048576) :
  Calls Tryz.prog 171 #[.slice A n c, .int .i64 left] w fun r w' => r = .returned (.int .i64 (if left - (n : Int) < 0 then -1 else left - (n : Int))) ∧ w = w' := by
 by_cases h : left - (n : Int) < 0
 ·rw [if_pos h]
  go_enter Tryz.func171, Tryz.ntmps171
  go_wp2
  go_ret
  exact ⟨rfl, rfl⟩
 ·rw [if_neg h]
  go_enter Tryz.func171, Tryz.ntmps171
  go_wp2
  go_ret
  exact ⟨rfl, rfl⟩
theorem szFrameS_any (A : Option Addr) (n c : Nat) (left : Int) (w : World) (hn : n ≤ 9223372036854775807) (h0 : 0 ≤ left) (h1 : left ≤ 1048576) :
  Calls Tryz.prog 172 #[.slice A n c, .int .i64 left] w fun r w' => r = .returned (.int .i64 (if left - (n : Int) < 0 then -1 else left - (n : Int))) ∧ w = w' := by
 by_cases h : left - (n : Int) < 0
 ·rw [if_pos h]
  go_enter Tryz.func172, Tryz.ntmps172
  go_wp2
  go_ret
  exact ⟨rfl, rfl⟩
 ·rw [if_neg h]
  go_enter Tryz.func172, Tryz.ntmps172
  go_wp2
  go_ret
  exact ⟨rfl, rfl⟩
theorem szLineS_any (A : Option Addr) (n c : Nat) (left : Int) (w : World) (hn : n ≤ 9223372036854775807) (h0 : 0 ≤ left) (h1 : left ≤ 1048576) :
  Calls Tryz.prog 173 #[.slice A n c, .int .i64 left] w fun r w' => r = .returned (.int .i64 (if left - (n : Int) < 0 then -1 else left - (n : Int))) ∧ w = w' := by
 by_cases h : left - (n : Int) < 0
 ·rw [if_pos h]
  go_enter Tryz.func173, Tryz.ntmps173
  go_wp2
  go_ret
  exact ⟨rfl, rfl⟩
 ·rw [if_neg h]
  go_enter Tryz.func173, Tryz.ntmps173
  go_wp2
  go_ret
  exact ⟨rfl, rfl⟩
theorem szOwnS_any (A : Option Addr) (n c : Nat) (left : Int) (w : World) (hn : n ≤ 9223372036854775807) (h0 : 0 ≤ left) (h1 : left ≤ 1048576) :
  Calls Tryz.prog 174 #[.slice A n c, .int .i64 left] w fun r w' => r = .returned (.int .i64 (if left - (n : Int) < 0 then -1 else left - (n : Int))) ∧ w = w' := by
 by_cases h : left - (n : Int) < 0
 ·rw [if_pos h]
  go_enter Tryz.func174, Tryz.ntmps174
  go_wp2
  go_ret
  exact ⟨rfl, rfl⟩
 ·rw [if_neg h]
  go_enter Tryz.func174, Tryz.ntmps174
  go_wp2
  go_ret
  exact ⟨rfl, rfl⟩
theorem toKey_any (x y : Int) (w : World) : Calls Tryz.prog 231 #[.agg #[.int .i64 x, .int .i64 y]] w fun r w' => r = .returned (.agg #[.int .i64 x, .int .i64 y]) ∧ Below w.heap.size w w' := by
 go_enter Tryz.func231, Tryz.ntmps231
 go_wp2
 refine bodyPost_ret (v := .agg #[.int .i64 x, .int .i64 y]) (by simp [results, Tryz.results231, go_sem]) rfl ⟨rfl, ?_⟩
 repeat first | exact bR | refine bS ?_ (by simp) | refine bA ?_
theorem toOwn_any (o : Int × Int) (w : World) : Calls Tryz.prog 217 #[.agg #[.int .i64 o.1, .int .i64 o.2]] w fun r w' => r = .returned (.agg #[.int .i64 o.1, .int .i64 o.2]) ∧ Below w.heap.size w w' := by
 go_enter Tryz.func217, Tryz.ntmps217
 go_wp2
 refine bodyPost_ret (v := .agg #[.int .i64 o.1, .int .i64 o.2]) (by simp [results, Tryz.results217, go_sem]) rfl ⟨rfl, ?_⟩
 repeat first | exact bR | refine bS ?_ (by simp) | refine bA ?_
theorem toLine_any (x : Ln) (w : World) : Calls Tryz.prog 216 #[lnV x] w fun r w' => r = .returned (lnV x) ∧ Below w.heap.size w w' := by
 simp only [lnV]
 go_enter Tryz.func216, Tryz.ntmps216
 go_wp2
 refine bodyPost_ret (v := lnV x) (by simp [results, Tryz.results216, go_sem]) rfl ⟨rfl, ?_⟩
 repeat first | exact bR | refine bS ?_ (by simp) | refine bA ?_
theorem toFrame_any (f : Fr) (w : World) : Calls Tryz.prog 215 #[frV f] w fun r w' => r = .returned (frV f) ∧ Below w.heap.size w w' := by
 simp only [frV]
 go_enter Tryz.func215, Tryz.ntmps215
 go_wp2_with fail
 refine (toKey_any _ _ _).mono ?_
 rintro e w1 ⟨rfl, hb1⟩
 have h0 := ((Own.new_ w 231 #[.bool f.used, .int .i64 f.s, .int .i64 f.p, .int .i64 f.r, .int .i64 f.n]).alloc (o := .cells #[.bool false, .int .i64 0, .int .i64 0, .int .i64 0, .int .i64 0] 80)).alloc (o := .cells #[.bool f.used, .int .i64 0, .int .i64 0, .int .i64 0, .int .i64 0] 80) |>.below hb1
 have h1 := (ownAt (W := w.alloc (.cells #[.bool f.used, .int .i64 f.s, .int .i64 f.p, .int .i64 f.r, .int .i64 f.n] 231)) (g := w.heap.size + 1) (t := 80) (cs := #[.bool false, .int .i64 0, .int .i64 0, .int .i64 0, .int .i64 0]) (by simp)).alloc (o := .cells #[.bool f.used, .int .i64 0, .int .i64 0, .int .i64 0, .int .i64 0] 80) |>.below hb1
 have h2 := (ownAt (W := (w.alloc (.cells #[.bool f.used, .int .i64 f.s, .int .i64 f.p, .int .i64 f.r, .int .i64 f.n] 231)).alloc (.cells #[.bool false, .int .i64 0, .int .i64 0, .int .i64 0, .int .i64 0] 80)) (g := w.heap.size + 1 + 1) (t := 80) (cs := #[.bool f.used, .int .i64 0, .int .i64 0, .int .i64 0, .int .i64 0]) (by simp)).below hb1
 have hbw : Below w.heap.size w w1 := bT (bA (bA (bA bR))) hb1
 have a3 := h0.cell_ 3 (v := .int .i64 f.r) rfl
 have a4 := h0.cell_ 4 (v := .int .i64 f.n) rfl
 have b0 := h1.cell_ 0 (v := .bool false) rfl
 have b1 := h1.cell_ 1 (v := .int .i64 0) rfl
 have b2 := h1.cell_ 2 (v := .int .i64 0) rfl
 have b3 := h1.cell_ 3 (v := .int .i64 0) rfl
 have b4 := h1.cell_ 4 (v := .int .i64 0) rfl
 have c0 := h2.cell_ 0 (v := .bool f.used) rfl
 have c1 := h2.cell_ 1 (v := .int .i64 0) rfl
 have c2 := h2.cell_ 2 (v := .int .i64 0) rfl
 have c3 := h2.cell_ 3 (v := .int .i64 0) rfl
 have c4 := h2.cell_ 4 (v := .int .i64 0) rfl
 have f0 := h1.free 0
 have f1 := h1.free 1
 have f2 := h1.free 2
 have f3 := h1.free 3
 have f4 := h1.free 4
 have g1 := h2.free 1
 have g2 := h2.free 2
 have g3 := h2.free 3
 have g4 := h2.free 4
 have H1 := Hd h1
 have HB := Hd hbw
 clear h0 h1 h2 hbw hb1
 go_wp2
 have o3 := (((((((((H1.out.far (p := ⟨w.heap.size + 1 + 1, 1, none⟩) (u := .int .i64 f.s) (by simp)).far (p := ⟨w.heap.size + 1 + 1, 2, none⟩) (u := .int .i64 f.p) (by simp)).far (p := ⟨w.heap.size + 1 + 1, 3, none⟩) (u := .int .i64 f.r) (by simp)).far (p := ⟨w.heap.size + 1 + 1, 4, none⟩) (u := .int .i64 f.n) (by simp)).set_ 0 (.bool f.used)).set_ 1 (.int .i64 f.s)).set_ 2 (.int .i64 f.p)).set_ 3 (.int .i64 f.r)).set_ 4 (.int .i64 f.n))
 have t0 := o3.cell_ 0 (v := .bool f.used) (by simp)
 have t1 := o3.cell_ 1 (v := .int .i64 f.s) (by simp)
 have t2 := o3.cell_ 2 (v := .int .i64 f.p) (by simp)
 have t3 := o3.cell_ 3 (v := .int .i64 f.r) (by simp)
 have t4 := o3.cell_ 4 (v := .int .i64 f.n) (by simp)
 refine bodyPost_ret (v := frV f) (by simp [results, Tryz.results215, go_sem, t0, t1, t2, t3, t4]) rfl ⟨rfl, ?_⟩
 repeat (refine bS ?_ (by simp <;> omega))
 exact HB.out
structure EOwn {α : Type} (E : Enc α) (e : TypeId) (w : World) (g : Nat) (l : List α) : Prop where
 own : ∃ cs, Own w g e cs ∧ cs.size = l.length * E.sz ∧ ∀ j, j < l.length * E.sz → cs[j]? = (E.cells l)[j]?
theorem EOwn.slm {α : Type} {E : Enc α} {e : TypeId} {w : World} {g B : Nat} {l : List α} (h : EOwn E e w g l) (hB : B ≤ g) (hl : l.length ≤ maxLen) : SlM E e B w (.slice (some ⟨g, 0, none⟩) l.length l.length) l := by
 obtain ⟨cs, h1, h2, h3⟩ := h.own
 refine slm_of rfl (Nat.le_refl _) hl ⟨⟨E.cells_length l, fun _ => ⟨g, 0, rfl, h1.lt, fun j u hu => ?_⟩⟩, fun _ => ⟨g, cs, rfl, hB, h1, by omega⟩⟩
 obtain ⟨hj, _⟩ := List.getElem?_eq_some_iff.1 hu
 rw [E.cells_length] at hj
 rw [Nat.zero_add, h1.cell, h3 j hj, hu]
theorem fill_at {α : Type} {E : Enc α} {l : List α} {k : Nat} {a : α} {cs cs' : Array Value} (e : l[k]? = some a) (_ : cs'.size = cs.size) (hin : ∀ j u, (E.cs a)[j]? = some u → cs'[k * E.sz + j]? = some u)
  (hout : ∀ i, i < k * E.sz → cs'[i]? = cs[i]?) (h : ∀ j, j < k * E.sz → cs[j]? = (E.cells l)[j]?) : ∀ j, j < (k + 1) * E.sz → cs'[j]? = (E.cells l)[j]? := by
 intro j hj
 rcases Nat.lt_or_ge j (k * E.sz) with h1 | h1
 ·rw [hout j h1]; exact h j h1
 ·obtain ⟨d, rfl⟩ : ∃ d, j = k * E.sz + d := ⟨j - k * E.sz, by omega⟩
  have hd : d < E.sz := by rw [Nat.add_mul] at hj; omega
  obtain ⟨u, hu⟩ : ∃ u, (E.cs a)[d]? = some u := ⟨_, List.getElem?_eq_getElem (by rw [E.len]; exact hd)⟩
  rw [hin d u hu, E.cells_get e hu]
theorem make_Frame (n : Nat) (hn : n ≤ 1048576) : ∃ cs : Array Value, cs.size = n * 5 ∧ ∀ w : World, (Instr.makeSlice 24 (.int .i64 (n : Int)) (.int .i64 (n : Int))).run Tryz.prog w = .ok (.slice (some ⟨w.heap.size, 0, none⟩) n n) (w.alloc (.cells cs 80)) := by
 refine ⟨madeCells #[.bool false, .int .i64 0, .int .i64 0, .int .i64 0, .int .i64 0] (n * 5), by simp [madeCells], fun w => ?_⟩
 obtain ⟨i0, hi0, hz0, hz1, hz2⟩ := info_parts fr_info
 have hb : (i0.bytes : Int) * ((n : Nat) : Int) ≤ 281474976710656 := by rw [hz2]; omega
 have hr := run_make (P := Tryz.prog) w 24 80 i0 _ Tryz.underlying24 hi0 hz0 .i64 .i64 n n (by omega) (by omega) hb (by omega)
 simp only [Int.toNat_natCast, hz1] at hr
 exact hr
set_option maxHeartbeats 1000000 in
theorem toFrameS_any (A : Option Addr) (c : Nat) (l : List (Fr)) (w : World) (h : Rs frE w.heap.size w A l) (hl : l.length ≤ 1048576) :
  Calls Tryz.prog 175 #[.slice A l.length c] w fun r w' => r = .returned (.slice (some ⟨w.heap.size, 0, none⟩) l.length l.length) ∧ EOwn frE 80 w' w.heap.size l ∧ Below w.heap.size w w' := by
 obtain ⟨C0, hC0, hmk⟩ := make_Frame l.length hl
 go_enter Tryz.func175, Tryz.ntmps175
 go_wp2
 go_loopw [4] (fun u wr => ∃ (k : Nat) (cs : Array Value), k ≤ l.length ∧ u = .int .i64 k ∧ cs.size = l.length * 5 ∧ Hid (∀ j, j < k * frE.sz → cs[j]? = (frE.cells l)[j]?) ∧ Own wr w.heap.size 80 cs ∧ Below w.heap.size w wr) (fun u _ => l.length - (intOf u).toNat)
 case atStart => exact ⟨0, _, by omega, rfl, hC0, (fun j hj => absurd hj (by omega)), Own.new_ _ _ _, bA bR⟩
 case round =>
  obtain ⟨k, cs, hk, rfl, hcs, hc, hown, hb⟩ := hrel
  by_cases hlt : k < l.length
  ·obtain ⟨a, ea⟩ : ∃ a, l[k]? = some a := ⟨_, List.getElem?_eq_getElem hlt⟩
   obtain ⟨b, o, rfl, hbb, d0, d1, d2, d3, d4⟩ := (h.below hb).fr ea
   have EA := Hd ea
   have HOWN := Hd hown
   have HCS := Hd hcs
   clear ea hown hcs
   go_wp2_with fail
   refine (toFrame_any a _).mono ?_
   rintro e w2 ⟨rfl, hb2⟩
   have hown := HOWN.out.below hb2
   obtain ⟨v0, hc0⟩ : ∃ v, w2.cell? ⟨w.heap.size, k * 5, none⟩ = some v := ⟨_, (hown.cell _).trans (Array.getElem?_eq_getElem (by have := HCS.out; omega))⟩
   have hf0 := hown.free (k * 5)
   obtain ⟨v1, hc1⟩ : ∃ v, w2.cell? ⟨w.heap.size, k * 5 + 1, none⟩ = some v := ⟨_, (hown.cell _).trans (Array.getElem?_eq_getElem (by have := HCS.out; omega))⟩
   have hf1 := hown.free (k * 5 + 1)
   obtain ⟨v2, hc2⟩ : ∃ v, w2.cell? ⟨w.heap.size, k * 5 + 2, none⟩ = some v := ⟨_, (hown.cell _).trans (Array.getElem?_eq_getElem (by have := HCS.out; omega))⟩
   have hf2 := hown.free (k * 5 + 2)
   obtain ⟨v3, hc3⟩ : ∃ v, w2.cell? ⟨w.heap.size, k * 5 + 3, none⟩ = some v := ⟨_, (hown.cell _).trans (Array.getElem?_eq_getElem (by have := HCS.out; omega))⟩
   have hf3 := hown.free (k * 5 + 3)
   obtain ⟨v4, hc4⟩ : ∃ v, w2.cell? ⟨w.heap.size, k * 5 + 4, none⟩ = some v := ⟨_, (hown.cell _).trans (Array.getElem?_eq_getElem (by have := HCS.out; omega))⟩
   have hf4 := hown.free (k * 5 + 4)
   have HFIN := Hd (((((hown.set_ (k * 5) (.bool a.used)).set_ (k * 5 + 1) (.int .i64 a.s)).set_ (k * 5 + 2) (.int .i64 a.p)).set_ (k * 5 + 3) (.int .i64 a.r)).set_ (k * 5 + 4) (.int .i64 a.n))
   have HFILL := Hd (fill_at (E := frE) (l := l) (k := k) (a := a) (cs := cs) (cs' := (((((cs.setIfInBounds (k * 5) (.bool a.used)).setIfInBounds (k * 5 + 1) (.int .i64 a.s)).setIfInBounds (k * 5 + 2) (.int .i64 a.p)).setIfInBounds (k * 5 + 3) (.int .i64 a.r)).setIfInBounds (k * 5 + 4) (.int .i64 a.n))) EA.out (by simp) (fun j u hu => by
     have hsz := HCS.out
     match j, hu with
      | 0, hu => simp [frE] at hu; subst hu; simp [frE, Array.getElem?_setIfInBounds]; omega
      | 1, hu => simp [frE] at hu; subst hu; simp [frE, Array.getElem?_setIfInBounds]; omega
      | 2, hu => simp [frE] at hu; subst hu; simp [frE, Array.getElem?_setIfInBounds]; omega
      | 3, hu => simp [frE] at hu; subst hu; simp [frE, Array.getElem?_setIfInBounds]; omega
      | 4, hu => simp [frE] at hu; subst hu; simp [frE, Array.getElem?_setIfInBounds]; omega
      | j + 5, hu => simp [frE] at hu)
    (fun i hi => by simp only [frE] at hi; simp only [Array.getElem?_setIfInBounds]; repeat rw [if_neg (by omega)]) hc.out)
   clear hown
   go_wp2
   go_roundw
   case rel => exact ⟨k + 1, _, by omega, by go_num, (by simp only [Array.size_setIfInBounds]; exact HCS.out), HFILL.out, HFIN.out, bS (bS (bS (bS (bS (bT hb hb2) (Nat.le_refl _)) (Nat.le_refl _)) (Nat.le_refl _)) (Nat.le_refl _)) (Nat.le_refl _)⟩
   case measure => simp [intOf]; omega
  ·obtain rfl : k = l.length := by omega
   go_wp2
   go_ret
   exact ⟨rfl, ⟨⟨_, hown, hcs, hc.out⟩⟩, hb⟩
theorem make_Line (n : Nat) (hn : n ≤ 1048576) : ∃ cs : Array Value, cs.size = n * 6 ∧ ∀ w : World, (Instr.makeSlice 27 (.int .i64 (n : Int)) (.int .i64 (n : Int))).run Tryz.prog w = .ok (.slice (some ⟨w.heap.size, 0, none⟩) n n) (w.alloc (.cells cs 50)) := by
 refine ⟨madeCells #[.bool false, .int .i64 0, .int .i64 0, .int .i64 0, .int .i64 0, .bool false] (n * 6), by simp [madeCells], fun w => ?_⟩
 obtain ⟨i0, hi0, hz0, hz1, hz2⟩ := info_parts ln_info
 have hb : (i0.bytes : Int) * ((n : Nat) : Int) ≤ 281474976710656 := by rw [hz2]; omega
 have hr := run_make (P := Tryz.prog) w 27 50 i0 _ Tryz.underlying27 hi0 hz0 .i64 .i64 n n (by omega) (by omega) hb (by omega)
 simp only [Int.toNat_natCast, hz1] at hr
 exact hr
set_option maxHeartbeats 1000000 in
theorem toLineS_any (A : Option Addr) (c : Nat) (l : List (Ln)) (w : World) (h : Rs lnE w.heap.size w A l) (hl : l.length ≤ 1048576) :
  Calls Tryz.prog 176 #[.slice A l.length c] w fun r w' => r = .returned (.slice (some ⟨w.heap.size, 0, none⟩) l.length l.length) ∧ EOwn lnE 50 w' w.heap.size l ∧ Below w.heap.size w w' := by
 obtain ⟨C0, hC0, hmk⟩ := make_Line l.length hl
 go_enter Tryz.func176, Tryz.ntmps176
 go_wp2
 go_loopw [4] (fun u wr => ∃ (k : Nat) (cs : Array Value), k ≤ l.length ∧ u = .int .i64 k ∧ cs.size = l.length * 6 ∧ Hid (∀ j, j < k * lnE.sz → cs[j]? = (lnE.cells l)[j]?) ∧ Own wr w.heap.size 50 cs ∧ Below w.heap.size w wr) (fun u _ => l.length - (intOf u).toNat)
 case atStart => exact ⟨0, _, by omega, rfl, hC0, (fun j hj => absurd hj (by omega)), Own.new_ _ _ _, bA bR⟩
 case round =>
  obtain ⟨k, cs, hk, rfl, hcs, hc, hown, hb⟩ := hrel
  by_cases hlt : k < l.length
  ·obtain ⟨a, ea⟩ : ∃ a, l[k]? = some a := ⟨_, List.getElem?_eq_getElem hlt⟩
   obtain ⟨b, o, rfl, hbb, d0, d1, d2, d3, d4, d5⟩ := (h.below hb).ln ea
   have EA := Hd ea
   have HOWN := Hd hown
   have HCS := Hd hcs
   clear ea hown hcs
   go_wp2_with fail
   refine (toLine_any a _).mono ?_
   rintro e w2 ⟨rfl, hb2⟩
   have hown := HOWN.out.below hb2
   obtain ⟨v0, hc0⟩ : ∃ v, w2.cell? ⟨w.heap.size, k * 6, none⟩ = some v := ⟨_, (hown.cell _).trans (Array.getElem?_eq_getElem (by have := HCS.out; omega))⟩
   have hf0 := hown.free (k * 6)
   obtain ⟨v1, hc1⟩ : ∃ v, w2.cell? ⟨w.heap.size, k * 6 + 1, none⟩ = some v := ⟨_, (hown.cell _).trans (Array.getElem?_eq_getElem (by have := HCS.out; omega))⟩
   have hf1 := hown.free (k * 6 + 1)
   obtain ⟨v2, hc2⟩ : ∃ v, w2.cell? ⟨w.heap.size, k * 6 + 2, none⟩ = some v := ⟨_, (hown.cell _).trans (Array.getElem?_eq_getElem (by have := HCS.out; omega))⟩
   have hf2 := hown.free (k * 6 + 2)
   obtain ⟨v3, hc3⟩ : ∃ v, w2.cell? ⟨w.heap.size, k * 6 + 3, none⟩ = some v := ⟨_, (hown.cell _).trans (Array.getElem?_eq_getElem (by have := HCS.out; omega))⟩
   have hf3 := hown.free (k * 6 + 3)
   obtain ⟨v4, hc4⟩ : ∃ v, w2.cell? ⟨w.heap.size, k * 6 + 4, none⟩ = some v := ⟨_, (hown.cell _).trans (Array.getElem?_eq_getElem (by have := HCS.out; omega))⟩
   have hf4 := hown.free (k * 6 + 4)
   obtain ⟨v5, hc5⟩ : ∃ v, w2.cell? ⟨w.heap.size, k * 6 + 5, none⟩ = some v := ⟨_, (hown.cell _).trans (Array.getElem?_eq_getElem (by have := HCS.out; omega))⟩
   have hf5 := hown.free (k * 6 + 5)
   have HFIN := Hd ((((((hown.set_ (k * 6) (.bool a.v)).set_ (k * 6 + 1) (.int .i64 a.t)).set_ (k * 6 + 2) (.int .i64 a.p)).set_ (k * 6 + 3) (.int .i64 a.f)).set_ (k * 6 + 4) (.int .i64 a.r)).set_ (k * 6 + 5) (.bool a.w))
   have HFILL := Hd (fill_at (E := lnE) (l := l) (k := k) (a := a) (cs := cs) (cs' := ((((((cs.setIfInBounds (k * 6) (.bool a.v)).setIfInBounds (k * 6 + 1) (.int .i64 a.t)).setIfInBounds (k * 6 + 2) (.int .i64 a.p)).setIfInBounds (k * 6 + 3) (.int .i64 a.f)).setIfInBounds (k * 6 + 4) (.int .i64 a.r)).setIfInBounds (k * 6 + 5) (.bool a.w))) EA.out (by simp) (fun j u hu => by
     have hsz := HCS.out
     match j, hu with
      | 0, hu => simp [lnE] at hu; subst hu; simp [lnE, Array.getElem?_setIfInBounds]; omega
      | 1, hu => simp [lnE] at hu; subst hu; simp [lnE, Array.getElem?_setIfInBounds]; omega
      | 2, hu => simp [lnE] at hu; subst hu; simp [lnE, Array.getElem?_setIfInBounds]; omega
      | 3, hu => simp [lnE] at hu; subst hu; simp [lnE, Array.getElem?_setIfInBounds]; omega
      | 4, hu => simp [lnE] at hu; subst hu; simp [lnE, Array.getElem?_setIfInBounds]; omega
      | 5, hu => simp [lnE] at hu; subst hu; simp [lnE, Array.getElem?_setIfInBounds]; omega
      | j + 6, hu => simp [lnE] at hu)
    (fun i hi => by simp only [lnE] at hi; simp only [Array.getElem?_setIfInBounds]; repeat rw [if_neg (by omega)]) hc.out)
   clear hown
   go_wp2
   go_roundw
   case rel => exact ⟨k + 1, _, by omega, by go_num, (by simp only [Array.size_setIfInBounds]; exact HCS.out), HFILL.out, HFIN.out, bS (bS (bS (bS (bS (bS (bT hb hb2) (Nat.le_refl _)) (Nat.le_refl _)) (Nat.le_refl _)) (Nat.le_refl _)) (Nat.le_refl _)) (Nat.le_refl _)⟩
   case measure => simp [intOf]; omega
  ·obtain rfl : k = l.length := by omega
   go_wp2
   go_ret
   exact ⟨rfl, ⟨⟨_, hown, hcs, hc.out⟩⟩, hb⟩
theorem make_Own (n : Nat) (hn : n ≤ 1048576) : ∃ cs : Array Value, cs.size = n * 2 ∧ ∀ w : World, (Instr.makeSlice 30 (.int .i64 (n : Int)) (.int .i64 (n : Int))).run Tryz.prog w = .ok (.slice (some ⟨w.heap.size, 0, none⟩) n n) (w.alloc (.cells cs 186)) := by
 refine ⟨madeCells #[.int .i64 0, .int .i64 0] (n * 2), by simp [madeCells], fun w => ?_⟩
 obtain ⟨i0, hi0, hz0, hz1, hz2⟩ := info_parts ow_info
 have hb : (i0.bytes : Int) * ((n : Nat) : Int) ≤ 281474976710656 := by rw [hz2]; omega
 have hr := run_make (P := Tryz.prog) w 30 186 i0 _ Tryz.underlying30 hi0 hz0 .i64 .i64 n n (by omega) (by omega) hb (by omega)
 simp only [Int.toNat_natCast, hz1] at hr
 exact hr
set_option maxHeartbeats 1000000 in
theorem toOwnS_any (A : Option Addr) (c : Nat) (l : List (Int × Int)) (w : World) (h : Rs owE w.heap.size w A l) (hl : l.length ≤ 1048576) :
  Calls Tryz.prog 177 #[.slice A l.length c] w fun r w' => r = .returned (.slice (some ⟨w.heap.size, 0, none⟩) l.length l.length) ∧ EOwn owE 186 w' w.heap.size l ∧ Below w.heap.size w w' := by
 obtain ⟨C0, hC0, hmk⟩ := make_Own l.length hl
 go_enter Tryz.func177, Tryz.ntmps177
 go_wp2
 go_loopw [4] (fun u wr => ∃ (k : Nat) (cs : Array Value), k ≤ l.length ∧ u = .int .i64 k ∧ cs.size = l.length * 2 ∧ Hid (∀ j, j < k * owE.sz → cs[j]? = (owE.cells l)[j]?) ∧ Own wr w.heap.size 186 cs ∧ Below w.heap.size w wr) (fun u _ => l.length - (intOf u).toNat)
 case atStart => exact ⟨0, _, by omega, rfl, hC0, (fun j hj => absurd hj (by omega)), Own.new_ _ _ _, bA bR⟩
 case round =>
  obtain ⟨k, cs, hk, rfl, hcs, hc, hown, hb⟩ := hrel
  by_cases hlt : k < l.length
  ·obtain ⟨a, ea⟩ : ∃ a, l[k]? = some a := ⟨_, List.getElem?_eq_getElem hlt⟩
   obtain ⟨b, o, rfl, hbb, d0, d1⟩ := (h.below hb).ow ea
   have EA := Hd ea
   have HOWN := Hd hown
   have HCS := Hd hcs
   clear ea hown hcs
   go_wp2_with fail
   refine (toOwn_any a _).mono ?_
   rintro e w2 ⟨rfl, hb2⟩
   have hown := HOWN.out.below hb2
   obtain ⟨v0, hc0⟩ : ∃ v, w2.cell? ⟨w.heap.size, k * 2, none⟩ = some v := ⟨_, (hown.cell _).trans (Array.getElem?_eq_getElem (by have := HCS.out; omega))⟩
   have hf0 := hown.free (k * 2)
   obtain ⟨v1, hc1⟩ : ∃ v, w2.cell? ⟨w.heap.size, k * 2 + 1, none⟩ = some v := ⟨_, (hown.cell _).trans (Array.getElem?_eq_getElem (by have := HCS.out; omega))⟩
   have hf1 := hown.free (k * 2 + 1)
   have HFIN := Hd ((hown.set_ (k * 2) (.int .i64 a.1)).set_ (k * 2 + 1) (.int .i64 a.2))
   have HFILL := Hd (fill_at (E := owE) (l := l) (k := k) (a := a) (cs := cs) (cs' := ((cs.setIfInBounds (k * 2) (.int .i64 a.1)).setIfInBounds (k * 2 + 1) (.int .i64 a.2))) EA.out (by simp) (fun j u hu => by
     have hsz := HCS.out
     match j, hu with
      | 0, hu => simp [owE] at hu; subst hu; simp [owE, Array.getElem?_setIfInBounds]; omega
      | 1, hu => simp [owE] at hu; subst hu; simp [owE, Array.getElem?_setIfInBounds]; omega
      | j + 2, hu => simp [owE] at hu)
    (fun i hi => by simp only [owE] at hi; simp only [Array.getElem?_setIfInBounds]; repeat rw [if_neg (by omega)]) hc.out)
   clear hown
   go_wp2
   go_roundw
   case rel => exact ⟨k + 1, _, by omega, by go_num, (by simp only [Array.size_setIfInBounds]; exact HCS.out), HFILL.out, HFIN.out, bS (bS (bT hb hb2) (Nat.le_refl _)) (Nat.le_refl _)⟩
   case measure => simp [intOf]; omega
  ·obtain rfl : k = l.length := by omega
   go_wp2
   go_ret
   exact ⟨rfl, ⟨⟨_, hown, hcs, hc.out⟩⟩, hb⟩
theorem make_Int (n : Nat) (hn : n ≤ 1048576) : ∃ cs : Array Value, cs.size = n * 1 ∧ ∀ w : World, (Instr.makeSlice 23 (.int .i64 (n : Int)) (.int .i64 (n : Int))).run Tryz.prog w = .ok (.slice (some ⟨w.heap.size, 0, none⟩) n n) (w.alloc (.cells cs 3)) := by
 refine ⟨madeCells #[.int .i64 0] (n * 1), by simp [madeCells], fun w => ?_⟩
 obtain ⟨i0, hi0, hz0, hz1, hz2⟩ := info_parts int_info2
 have hb : (i0.bytes : Int) * ((n : Nat) : Int) ≤ 281474976710656 := by rw [hz2]; omega
 have hr := run_make (P := Tryz.prog) w 23 3 i0 _ Tryz.underlying23 hi0 hz0 .i64 .i64 n n (by omega) (by omega) hb (by omega)
 simp only [Int.toNat_natCast, hz1] at hr
 exact hr
set_option maxHeartbeats 1000000 in
theorem toIntS_any (A : Option Addr) (c : Nat) (l : List (Int)) (w : World) (h : Rs intE w.heap.size w A l) (hl : l.length ≤ 1048576) :
  Calls Tryz.prog 23 #[.slice A l.length c] w fun r w' => r = .returned (.slice (some ⟨w.heap.size, 0, none⟩) l.length l.length) ∧ EOwn intE 3 w' w.heap.size l ∧ Below w.heap.size w w' := by
 obtain ⟨C0, hC0, hmk⟩ := make_Int l.length hl
 go_enter Tryz.func23, Tryz.ntmps23
 go_wp2
 go_loopw [4] (fun u wr => ∃ (k : Nat) (cs : Array Value), k ≤ l.length ∧ u = .int .i64 k ∧ cs.size = l.length * 1 ∧ Hid (∀ j, j < k * intE.sz → cs[j]? = (intE.cells l)[j]?) ∧ Own wr w.heap.size 3 cs ∧ Below w.heap.size w wr) (fun u _ => l.length - (intOf u).toNat)
 case atStart => exact ⟨0, _, by omega, rfl, hC0, (fun j hj => absurd hj (by omega)), Own.new_ _ _ _, bA bR⟩
 case round =>
  obtain ⟨k, cs, hk, rfl, hcs, hc, hown, hb⟩ := hrel
  by_cases hlt : k < l.length
  ·obtain ⟨a, ea⟩ : ∃ a, l[k]? = some a := ⟨_, List.getElem?_eq_getElem hlt⟩
   obtain ⟨b, o, rfl, hbb, d0⟩ := (h.below hb).i1 ea
   have EA := Hd ea
   have HOWN := Hd hown
   have HCS := Hd hcs
   clear ea hown hcs
   obtain ⟨w2, hb2, rfl⟩ : ∃ w2, Below wr.heap.size wr w2 ∧ w2 = wr := ⟨wr, bR, rfl⟩
   have hown := HOWN.out.below hb2
   obtain ⟨v0, hc0⟩ : ∃ v, w2.cell? ⟨w.heap.size, k, none⟩ = some v := ⟨_, (hown.cell _).trans (Array.getElem?_eq_getElem (by have := HCS.out; omega))⟩
   have hf0 := hown.free (k)
   have HFIN := Hd (hown.set_ (k) (.int .i64 a))
   have HFILL := Hd (fill_at (E := intE) (l := l) (k := k) (a := a) (cs := cs) (cs' := (cs.setIfInBounds (k) (.int .i64 a))) EA.out (by simp) (fun j u hu => by
     have hsz := HCS.out
     match j, hu with
      | 0, hu => simp [intE] at hu; subst hu; simp [intE, Array.getElem?_setIfInBounds]; omega
      | j + 1, hu => simp [intE] at hu)
    (fun i hi => by simp only [intE] at hi; simp only [Array.getElem?_setIfInBounds]; repeat rw [if_neg (by omega)]) hc.out)
   clear hown
   go_wp2
   go_roundw
   case rel => exact ⟨k + 1, _, by omega, by go_num, (by simp only [Array.size_setIfInBounds]; exact HCS.out), HFILL.out, HFIN.out, bS (bT hb hb2) (Nat.le_refl _)⟩
   case measure => simp [intOf]; omega
  ·obtain rfl : k = l.length := by omega
   go_wp2
   go_ret
   exact ⟨rfl, ⟨⟨_, hown, hcs, hc.out⟩⟩, hb⟩
end Go.Proofs.YtfbnokjdkhcgoaaGreatDoor
