/- A part of the proofs of this seat: FgS, ProtS. -/
import Derived.Test.YtibpnlojlfcpmaaGreatDoorRPrI
set_option linter.unusedVariables false
set_option linter.unusedSimpArgs false
set_option maxRecDepth 1000000
namespace Go.Proofs.YtibpnlojlfcpmaaGreatDoor
open Go.RowKit
def fpV (t : Tab) (s p : Int) : Int := if fOK t s p = true then fndI t.fs s p else 0
set_option maxHeartbeats 2000000 in
theorem sFindPage_any (vb vf : Value) (t : Tab) (s p : Int) (w : World) (hT : TaR w vb vf t) :
  Calls Tryz.prog 176 #[.agg #[vb, vf], .agg #[.int .i64 s, .int .i64 p]] w (Post2 fun v w' => ∃ stp : Int, v = .tuple #[.int .i64 (fpV t s p), .int .i64 stp, .bool (fOK t s p)] ∧ Below w.heap.size w w') := by
 have hx := (Own.new_ w 40 #[vb, vf]).alloc (o := .cells #[.int .i64 s, .int .i64 p] 61)
 have hk := ownAt (W := w.alloc (.cells #[vb, vf] 40)) (g := w.heap.size + 1) (t := 61) (cs := #[.int .i64 s, .int .i64 p]) (by simp)
 have hb0 : Below w.heap.size w ((w.alloc (.cells #[vb, vf] 40)).alloc (.cells #[.int .i64 s, .int .i64 p] 61)) := bA (bA bR)
 generalize hW : (w.alloc (.cells #[vb, vf] 40)).alloc (.cells #[.int .i64 s, .int .i64 p] 61) = W0 at hx hk hb0
 have HTR := Hd hT
 have HX0 := Hd hx
 have HK0 := Hd hk
 have HB0 := Hd hb0
 clear hT hx hk hb0
 have t00 := HX0.out.cell_ 0 (v := vb) rfl
 have t10 := HX0.out.cell_ 1 (v := vf) rfl
 go_enter Tryz.func176, Tryz.ntmps176
 go_wp2_with fail
 refine (sTableValid_any vb vf t _ (HTR.out.now HB0.out)).mono ?_
 rintro e w1 ⟨rfl, hb1⟩
 have HX1 := Hd (HX0.out.below hb1)
 have HK1 := Hd (HK0.out.below hb1)
 have HB1 := Hd (bT HB0.out hb1)
 clear hb1 t00 t10
 cases h1 : tv t with
 | false =>
  have HA : Hid (fOK t s p = false) := by show _ = _; unfold fOK; rw [h1]; rfl
  have HV : Hid (fpV t s p = 0) := by show _ = _; unfold fpV; rw [HA.out]; rfl
  go_wp2
  refine bodyPost_ret (v := .tuple #[.int .i64 0, .int .i64 0, .bool false]) (by simp [results, Tryz.results176, go_sem]) rfl ⟨_, rfl, 0, by rw [HA.out, HV.out], HB1.out⟩
 | true =>
  have k0 := HK1.out.cell_ 0 (v := .int .i64 s) rfl
  have k1 := HK1.out.cell_ 1 (v := .int .i64 p) rfl
  go_wp2_with fail
  refine (sKeyValid_any _ _ _).mono ?_
  rintro e w2 ⟨rfl, hb2⟩
  have HX2 := Hd (HX1.out.below hb2)
  have HK2 := Hd (HK1.out.below hb2)
  have HB2 := Hd (bT HB1.out hb2)
  clear hb2 k0 k1
  cases h2 : kval (s, p) with
  | false =>
   have HA : Hid (fOK t s p = false) := by show _ = _; unfold fOK; rw [h1, h2]; rfl
   have HV : Hid (fpV t s p = 0) := by show _ = _; unfold fpV; rw [HA.out]; rfl
   go_wp2
   refine bodyPost_ret (v := .tuple #[.int .i64 0, .int .i64 0, .bool false]) (by simp [results, Tryz.results176, go_sem]) rfl ⟨_, rfl, 0, by rw [HA.out, HV.out], HB2.out⟩
  | true =>
   have t0 := HX2.out.cell_ 0 (v := vb) rfl
   have t1 := HX2.out.cell_ 1 (v := vf) rfl
   have k0 := HK2.out.cell_ 0 (v := .int .i64 s) rfl
   have k1 := HK2.out.cell_ 1 (v := .int .i64 p) rfl
   go_wp2_with fail
   refine (l3Find_any vb _ t s p _ (HTR.out.now HB2.out) h1 h2).mono ?_
   rintro e w3 ⟨stp, rfl, hb3⟩
   have HB3 := Hd (bT HB2.out hb3)
   clear hb3 t0 t1 k0 k1
   by_cases h3 : 0 ≤ fndI t.fs s p
   ·have HA : Hid (fOK t s p = true) := by show _ = _; unfold fOK; rw [h1, h2, decide_eq_true h3]; rfl
    have HV : Hid (fpV t s p = fndI t.fs s p) := by show _ = _; unfold fpV; rw [HA.out]; rfl
    have h3b : ¬ fndI t.fs s p < 0 := by omega
    go_wp2
    refine bodyPost_ret (v := .tuple #[.int .i64 (fndI t.fs s p), .int .i64 stp, .bool true]) (by simp [results, Tryz.results176, go_sem]) rfl ⟨_, rfl, stp, by rw [HA.out, HV.out], HB3.out⟩
   ·have HA : Hid (fOK t s p = false) := by show _ = _; unfold fOK; rw [h1, h2, decide_eq_false h3]; rfl
    have HV : Hid (fpV t s p = 0) := by show _ = _; unfold fpV; rw [HA.out]; rfl
    have h3b : fndI t.fs s p < 0 := by omega
    go_wp2
    refine bodyPost_ret (v := .tuple #[.int .i64 0, .int .i64 stp, .bool false]) (by simp [results, Tryz.results176, go_sem]) rfl ⟨_, rfl, stp, by rw [HA.out, HV.out], HB3.out⟩
theorem drp_no {m : Ma} {s p : Int} (h : tagO m s p = true) (hc : dpO m.c (tagT m s p) p = false) (hv : cav m.c = true) (hg : tgv m.g = true) (hp : inR p 256 = true) : drpC m s p = m.c := by
 refine drpC_neg fun h4 => ?_
 unfold dpO at hc
 rw [hv, tagT_ok hg, hp, decide_eq_true h4] at hc
 cases hc
theorem drp_yes {m : Ma} {s p : Int} (h : tagO m s p = true) (hc : dpO m.c (tagT m s p) p = true) : drpC m s p = dpV m.c (tagT m s p) p := by
 unfold drpC dpV
 rw [hc, if_pos rfl]
 unfold dpO at hc
 simp only [Bool.and_eq_true, decide_eq_true_eq] at hc
 rw [if_pos ⟨h, hc.2⟩]
set_option maxHeartbeats 4000000 in
theorem l6Forget_any (vb vf vl vo : Value) (m : Ma) (s p : Int) (w : World) (hM : MaR w vb vf vl vo m) (hm : mav m = true) (hp : inR p 256 = true) :
  Calls Tryz.prog 108 #[.agg #[vb, vf, vl, .int .i64 m.c.hand, .int .i64 m.g.count, .int .i64 m.g.next, .int .i64 m.g.round, vo, .int .i64 m.sp], .agg #[.int .i64 s, .int .i64 p]] w (Post2 fun v w' => ∃ v1 v2 v3 v4, v = .agg #[v1, v2, v3, .int .i64 (drpM m m.t s p).c.hand, .int .i64 (drpM m m.t s p).g.count, .int .i64 (drpM m m.t s p).g.next, .int .i64 (drpM m m.t s p).g.round, v4, .int .i64 (drpM m m.t s p).sp] ∧ MaM w.heap.size w' v1 v2 v3 v4 (drpM m m.t s p) ∧ Below w.heap.size w w') := by
 obtain ⟨htv, hcv, hgv, _⟩ := mav_parts hm
 obtain ⟨a1, a2, a3, a4⟩ := mav_len hm
 obtain ⟨W0, hW, hbx, hbk, hbo, hb0, hs0⟩ := box3 w #[vb, vf, vl, .int .i64 m.c.hand, .int .i64 m.g.count, .int .i64 m.g.next, .int .i64 m.g.round, vo, .int .i64 m.sp] 48 #[.int .i64 s, .int .i64 p] 61 #[.slice none 0 0, .slice none 0 0, .slice none 0 0, .int .i64 0, .int .i64 0, .int .i64 0, .int .i64 0, .slice none 0 0, .int .i64 0] 48
 have HX0 := Hd hbx
 have HK0 := Hd hbk
 have HR0 := Hd hbo
 have HB0 := Hd hb0
 have HS0 : Hid (w.heap.size + 3 ≤ W0.heap.size) := Nat.le_of_eq hs0.symm
 clear hbx hbk hbo hb0
 have HM := Hd hM
 clear hM
 obtain ⟨m00, m10, m20, m30, m40, m50, m60, m70, m80⟩ := cells9 HX0.out
 go_enter Tryz.func108, Tryz.ntmps108
 go_wp2_with fail
 refine (l6Copy_any vb vf vl vo m _ (HM.out.now HB0.out) a1 a2 a3 a4).mono ?_
 rintro e w3 ⟨_, rfl, q1, q2, q3, q4, rfl, hM3, hb3⟩
 have hM3' := hM3.mono (B' := w.heap.size + 3) HS0.out
 obtain ⟨B1, d1, rfl, _⟩ := hM3.t.b
 obtain ⟨B2, d2, rfl, _⟩ := hM3.t.f
 obtain ⟨B3, d3, rfl, _⟩ := hM3.l
 obtain ⟨B4, d4, rfl, _⟩ := hM3.o
 have HX3 := Hd (HX0.out.below hb3)
 have HK3 := Hd (HK0.out.below hb3)
 have HR3 := Hd (HR0.out.below hb3)
 have HB3 := Hd (bT HB0.out hb3)
 have HS3 := Hd (Nat.le_trans HS0.out hb3.size)
 clear hb3
 clear m00 m10 m20 m30 m40 m50 m60 m70 m80
 have ho4 := Own.new_ w3 48 #[.slice B1 m.t.bs.length d1, .slice B2 m.t.fs.length d2, .slice B3 m.c.ls.length d3, .int .i64 m.c.hand, .int .i64 m.g.count, .int .i64 m.g.next, .int .i64 m.g.round, .slice B4 m.g.os.length d4, .int .i64 m.sp]
 have hb4 : Below w3.heap.size w3 (w3.alloc (.cells #[.slice B1 m.t.bs.length d1, .slice B2 m.t.fs.length d2, .slice B3 m.c.ls.length d3, .int .i64 m.c.hand, .int .i64 m.g.count, .int .i64 m.g.next, .int .i64 m.g.round, .slice B4 m.g.os.length d4, .int .i64 m.sp] 48)) := bA bR
 have hgt : w.heap.size + 3 ≤ w3.heap.size := HS3.out
 generalize hW4 : w3.alloc (.cells #[.slice B1 m.t.bs.length d1, .slice B2 m.t.fs.length d2, .slice B3 m.c.ls.length d3, .int .i64 m.c.hand, .int .i64 m.g.count, .int .i64 m.g.next, .int .i64 m.g.round, .slice B4 m.g.os.length d4, .int .i64 m.sp] 48) = w4 at ho4 hb4
 have HM4 := Hd (hM3'.now hb4)
 have HO4 := Hd ho4
 have HX4 := Hd (HX3.out.below hb4)
 have HK4 := Hd (HK3.out.below hb4)
 have HR4 := Hd (HR3.out.below hb4)
 have HB4 := Hd (bT HB3.out hb4)
 have HS4 := Hd (Nat.le_trans HS3.out hb4.size)
 clear hb4
 clear hM3 hM3' ho4
 obtain ⟨m04, m14, m24, m34, m44, m54, m64, m74, m84⟩ := cells9 HX4.out
 have k04 := HK4.out.cell_ 0 (v := .int .i64 s) rfl
 have k14 := HK4.out.cell_ 1 (v := .int .i64 p) rfl
 go_wp2_with fail
 refine (l6Tag_any vb vf vl vo m s p _ (HM.out.now HB4.out) hgv).mono ?_
 rintro e w5 ⟨rfl, hb5⟩
 have HM5 := Hd (HM4.out.now hb5)
 have HO5 := Hd (HO4.out.below hb5)
 have HX5 := Hd (HX4.out.below hb5)
 have HK5 := Hd (HK4.out.below hb5)
 have HR5 := Hd (HR4.out.below hb5)
 have HB5 := Hd (bT HB4.out hb5)
 have HS5 := Hd (Nat.le_trans HS4.out hb5.size)
 clear hb5
 clear m04 m14 m24 m34 m44 m54 m64 m74 m84
 clear k04 k14 hW4
 cases hto : tagO m s p with
 | false =>
  have HV : Hid (drpM m m.t s p = m) := by show _ = _; unfold drpM; rw [drpC_no hto]
  obtain ⟨r0x, r1x, r2x, r3x, r4x, r5x, r6x, r7x, r8x⟩ := cells9 HR5.out
  obtain ⟨z0x, z1x, z2x, z3x, z4x, z5x, z6x, z7x, z8x⟩ := free9 HR5.out
  obtain ⟨p0o, p1o, p2o, p3o, p4o, p5o, p6o, p7o, p8o⟩ := cells9 HO5.out
  have hlr := HR5.out.lt
  have hlo := HO5.out.lt
  go_wp2
  have o3 := HR5.out.set9 (.slice B1 m.t.bs.length d1) (.slice B2 m.t.fs.length d2) (.slice B3 m.c.ls.length d3) (.int .i64 (m).c.hand) (.int .i64 m.g.count) (.int .i64 m.g.next) (.int .i64 m.g.round) (.slice B4 m.g.os.length d4) (.int .i64 m.sp)
  obtain ⟨p0t, p1t, p2t, p3t, p4t, p5t, p6t, p7t, p8t⟩ := cells9 o3
  refine bodyPost_ret (v := .agg #[.slice B1 m.t.bs.length d1, .slice B2 m.t.fs.length d2, .slice B3 m.c.ls.length d3, .int .i64 m.c.hand, .int .i64 m.g.count, .int .i64 m.g.next, .int .i64 m.g.round, .slice B4 m.g.os.length d4, .int .i64 m.sp]) (by simp [results, Tryz.results108, go_sem, p0t, p1t, p2t, p3t, p4t, p5t, p6t, p7t, p8t]) rfl ⟨_, rfl, _, _, _, _, by rw [HV.out], ?_, ?_⟩
  ·rw [HV.out]
   exact (HM5.out.far9 HR5.out _ _ _ _ _ _ _ _ _).mono (by omega)
  ·repeat (refine bS ?_ (by simp <;> omega))
   exact HB5.out
 | true =>
  obtain ⟨m05, m15, m25, m35, m45, m55, m65, m75, m85⟩ := cells9 HX5.out
  have k05 := HK5.out.cell_ 0 (v := .int .i64 s) rfl
  have k15 := HK5.out.cell_ 1 (v := .int .i64 p) rfl
  go_wp2_with fail
  refine (sDropPage_any vl m.c (tagT m s p) p _ (HM.out.l.now HB5.out)).mono ?_
  rintro e w6 ⟨_, rfl, v1, rfl, hL6, hb6⟩
  obtain ⟨B5, d5, rfl, _⟩ := hL6
  have hs5 := HS5.out
  have ho7 := Own.new_ w6 43 #[.slice B5 (dpV m.c (tagT m s p) p).ls.length d5, .int .i64 (dpV m.c (tagT m s p) p).hand]
  have hb7 : Below w6.heap.size w6 (w6.alloc (.cells #[.slice B5 (dpV m.c (tagT m s p) p).ls.length d5, .int .i64 (dpV m.c (tagT m s p) p).hand] 43)) := bA bR
  have HL6 : Hid (SlM lnE 129 w5.heap.size w6 (.slice B5 (dpV m.c (tagT m s p) p).ls.length d5) (dpV m.c (tagT m s p) p).ls) := ⟨B5, d5, rfl, by assumption⟩
  generalize hW7 : w6.alloc (.cells #[.slice B5 (dpV m.c (tagT m s p) p).ls.length d5, .int .i64 (dpV m.c (tagT m s p) p).hand] 43) = w7 at ho7 hb7
  have HM7 := Hd (HM5.out.now (bT hb6 hb7))
  have HO7 := Hd (HO5.out.below (bT hb6 hb7))
  have HL7 := Hd ((HL6.out.now hb7).mono hs5)
  have HC7 := Hd ho7
  have HX6 := Hd (HX5.out.below hb6)
  have HK6 := Hd (HK5.out.below hb6)
  have HR6 := Hd (HR5.out.below hb6)
  have HB6 := Hd (bT HB5.out hb6)
  have HS6 := Hd (Nat.le_trans HS5.out hb6.size)
  clear hb6
  have HX7 := Hd (HX6.out.below hb7)
  have HK7 := Hd (HK6.out.below hb7)
  have HR7 := Hd (HR6.out.below hb7)
  have HB7 := Hd (bT HB6.out hb7)
  have HS7 := Hd (Nat.le_trans HS6.out hb7.size)
  clear hb7
  clear m05 m15 m25 m35 m45 m55 m65 m75 m85
  clear k05 k15 ho7 HL6
  cases hdo : dpO m.c (tagT m s p) p with
  | false =>
   have HV : Hid (drpM m m.t s p = m) := by show _ = _; unfold drpM; rw [drp_no hto hdo hcv hgv hp]
   obtain ⟨r0x, r1x, r2x, r3x, r4x, r5x, r6x, r7x, r8x⟩ := cells9 HR7.out
   obtain ⟨z0x, z1x, z2x, z3x, z4x, z5x, z6x, z7x, z8x⟩ := free9 HR7.out
   obtain ⟨p0o, p1o, p2o, p3o, p4o, p5o, p6o, p7o, p8o⟩ := cells9 HO7.out
   have hlr := HR7.out.lt
   have hlo := HO7.out.lt
   go_wp2
   have o3 := HR7.out.set9 (.slice B1 m.t.bs.length d1) (.slice B2 m.t.fs.length d2) (.slice B3 m.c.ls.length d3) (.int .i64 (m).c.hand) (.int .i64 m.g.count) (.int .i64 m.g.next) (.int .i64 m.g.round) (.slice B4 m.g.os.length d4) (.int .i64 m.sp)
   obtain ⟨p0t, p1t, p2t, p3t, p4t, p5t, p6t, p7t, p8t⟩ := cells9 o3
   refine bodyPost_ret (v := .agg #[.slice B1 m.t.bs.length d1, .slice B2 m.t.fs.length d2, .slice B3 m.c.ls.length d3, .int .i64 m.c.hand, .int .i64 m.g.count, .int .i64 m.g.next, .int .i64 m.g.round, .slice B4 m.g.os.length d4, .int .i64 m.sp]) (by simp [results, Tryz.results108, go_sem, p0t, p1t, p2t, p3t, p4t, p5t, p6t, p7t, p8t]) rfl ⟨_, rfl, _, _, _, _, by rw [HV.out], ?_, ?_⟩
   ·rw [HV.out]
    exact (HM7.out.far9 HR7.out _ _ _ _ _ _ _ _ _).mono (by omega)
   ·repeat (refine bS ?_ (by simp <;> omega))
    exact HB7.out
  | true =>
   have HV : Hid (drpM m m.t s p = { m with c := dpV m.c (tagT m s p) p }) := by show _ = _; unfold drpM; rw [drp_yes hto hdo]
   have c0 := HC7.out.cell_ 0 (v := .slice B5 (dpV m.c (tagT m s p) p).ls.length d5) rfl
   have c1 := HC7.out.cell_ 1 (v := .int .i64 (dpV m.c (tagT m s p) p).hand) rfl
   have hlc := HC7.out.lt
   obtain ⟨r0x, r1x, r2x, r3x, r4x, r5x, r6x, r7x, r8x⟩ := cells9 HR7.out
   obtain ⟨z0x, z1x, z2x, z3x, z4x, z5x, z6x, z7x, z8x⟩ := free9 HR7.out
   obtain ⟨p0o, p1o, p2o, p3o, p4o, p5o, p6o, p7o, p8o⟩ := cells9 HO7.out
   have g2 := HO7.out.free 2
   have g3 := HO7.out.free 3
   have hlr := HR7.out.lt
   have hlo := HO7.out.lt
   have hrn : w.heap.size + 1 + 1 ≠ w3.heap.size := by omega
   have hrm : w3.heap.size ≠ w.heap.size + 1 + 1 := by omega
   have hcn : w6.heap.size ≠ w3.heap.size := HC7.out.ne HO7.out (by decide)
   have hcm : w3.heap.size ≠ w6.heap.size := fun h => hcn h.symm
   generalize hVV : dpV m.c (tagT m s p) p = V at *
   go_wp2
   have g1 := (HR7.out.far (p := ⟨w3.heap.size, 2, none⟩) (u := .slice B5 V.ls.length d5) hrn).far (p := ⟨w3.heap.size, 3, none⟩) (u := .int .i64 V.hand) hrn
   have hb9 : Below w.heap.size w ((w7.setCell ⟨w3.heap.size, 2, none⟩ (.slice B5 V.ls.length d5)).setCell ⟨w3.heap.size, 3, none⟩ (.int .i64 V.hand)) := bS (bS HB7.out (by simp; omega)) (by simp; omega)
   have hmm : MaM (w.heap.size + 3) w7 (.slice B1 m.t.bs.length d1) (.slice B2 m.t.fs.length d2) (.slice B5 V.ls.length d5) (.slice B4 m.g.os.length d4) { m with c := V } := ⟨HM7.out.t, HL7.out, HM7.out.o⟩
   have hmm2 := (hmm.farT (u := .slice B5 V.ls.length d5) (i := 2) HO7.out).farT (u := .int .i64 V.hand) (i := 3) (HO7.out.set_ 2 (.slice B5 V.ls.length d5))
   have o3 := g1.set9 (.slice B1 m.t.bs.length d1) (.slice B2 m.t.fs.length d2) (.slice B5 V.ls.length d5) (.int .i64 V.hand) (.int .i64 m.g.count) (.int .i64 m.g.next) (.int .i64 m.g.round) (.slice B4 m.g.os.length d4) (.int .i64 m.sp)
   obtain ⟨p0t, p1t, p2t, p3t, p4t, p5t, p6t, p7t, p8t⟩ := cells9 o3
   refine bodyPost_ret (v := .agg #[.slice B1 m.t.bs.length d1, .slice B2 m.t.fs.length d2, .slice B5 V.ls.length d5, .int .i64 ({ m with c := V } : Ma).c.hand, .int .i64 ({ m with c := V } : Ma).g.count, .int .i64 ({ m with c := V } : Ma).g.next, .int .i64 ({ m with c := V } : Ma).g.round, .slice B4 m.g.os.length d4, .int .i64 ({ m with c := V } : Ma).sp]) (by simp [results, Tryz.results108, go_sem, p0t, p1t, p2t, p3t, p4t, p5t, p6t, p7t, p8t]) rfl ⟨_, rfl, _, _, _, _, by rw [HV.out], ?_, ?_⟩
   ·rw [HV.out]
    exact (hmm2.far9 g1 _ _ _ _ _ _ _ _ _).mono (by omega)
   ·repeat (refine bS ?_ (by simp <;> omega))
    exact HB7.out
end Go.Proofs.YtibpnlojlfcpmaaGreatDoor
