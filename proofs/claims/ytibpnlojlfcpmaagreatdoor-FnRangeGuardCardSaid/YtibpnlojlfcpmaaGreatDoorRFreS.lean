/- A part of the proofs of this seat: EntS, FreS. -/
import Derived.Test.YtibpnlojlfcpmaaGreatDoorRNew
set_option linter.unusedVariables false
set_option linter.unusedSimpArgs false
set_option maxRecDepth 1000000
namespace Go.Proofs.YtibpnlojlfcpmaaGreatDoor
open Go.RowKit
set_option maxHeartbeats 4000000 in
theorem l6Fresh_any (vl : Value) (c : Ca) (w : World) (hT : SlR lnE w vl c.ls) (hl8 : c.ls.length ≤ 1048576) :
  Calls Tryz.prog 240 #[.agg #[vl, .int .i64 c.hand]] w (Post2 fun v w' => ∃ (v1 : Value) (ls : List Ln), v = .agg #[v1, .int .i64 c.hand] ∧ ls.length = c.ls.length ∧ SlM lnE 129 w.heap.size w' v1 ls ∧ Below w.heap.size w w') := by
 have HV0 := Hd hT
 obtain ⟨A, cc, rfl, hbc, hbm, hL⟩ := hT
 have hbx := (Own.new_ w 43 #[.slice A c.ls.length cc, .int .i64 c.hand]).alloc (o := .cells #[.slice none 0 0, .int .i64 0] 43)
 have hbo := ownAt (W := w.alloc (.cells #[.slice A c.ls.length cc, .int .i64 c.hand] 43)) (g := w.heap.size + 1) (t := 43) (cs := #[.slice none 0 0, .int .i64 0]) (by simp)
 have hb0 : Below w.heap.size w ((w.alloc (.cells #[.slice A c.ls.length cc, .int .i64 c.hand] 43)).alloc (.cells #[.slice none 0 0, .int .i64 0] 43)) := bA (bA bR)
 have hs0 : ((w.alloc (.cells #[.slice A c.ls.length cc, .int .i64 c.hand] 43)).alloc (.cells #[.slice none 0 0, .int .i64 0] 43)).heap.size = w.heap.size + 2 := by simp
 generalize hW : (w.alloc (.cells #[.slice A c.ls.length cc, .int .i64 c.hand] 43)).alloc (.cells #[.slice none 0 0, .int .i64 0] 43) = W0 at hbx hbo hb0 hs0
 have q0 := hbx.cell_ 0 (v := .slice A c.ls.length cc) rfl
 have q1 := hbx.cell_ 1 (v := .int .i64 c.hand) rfl
 have HR0 := Hd hbo
 have HB0 := Hd hb0
 clear hbx hbo hb0 hL
 go_enter Tryz.func240, Tryz.ntmps240
 go_wp2_with fail
 refine (l4Copy_any _ c _ (HV0.out.now HB0.out) hl8).mono ?_
 rintro e w1 ⟨_, rfl, v1, rfl, hM1, hb1⟩
 clear q0 q1
 have hM1' := hM1
 obtain ⟨A2, c2, rfl, _⟩ := hM1'
 have ho2 := Own.new_ w1 43 #[.slice A2 c.ls.length c2, .int .i64 c.hand]
 have hb2 : Below w1.heap.size w1 (w1.alloc (.cells #[.slice A2 c.ls.length c2, .int .i64 c.hand] 43)) := bA bR
 generalize hW2 : w1.alloc (.cells #[.slice A2 c.ls.length c2, .int .i64 c.hand] 43) = w2 at ho2 hb2
 have HM2 := Hd ((hM1.now hb2).mono (show w.heap.size + 2 ≤ W0.heap.size by omega))
 have HO2 := Hd ho2
 have HR2 := Hd ((HR0.out.below hb1).below hb2)
 have HB2 := Hd (bT (bT HB0.out hb1) hb2)
 have hgt : w.heap.size + 2 ≤ w1.heap.size := by have := hb1.size; omega
 clear hM1 hb1 ho2 hb2
 go_wp2
 clear hW2
 generalize w1.heap.size = gb at *
 go_loopw [4] (fun u wr => ∃ (k : Nat) (ls : List Ln), k ≤ c.ls.length ∧ u = .int .i64 k ∧ ls.length = c.ls.length ∧ Own wr gb 43 #[.slice A2 c.ls.length c2, .int .i64 c.hand] ∧ Own wr (w.heap.size + 1) 43 #[.slice none 0 0, .int .i64 0] ∧ SlM lnE 129 (w.heap.size + 2) wr (.slice A2 c.ls.length c2) ls ∧ Below w.heap.size w wr) (fun u _ => c.ls.length - (intOf u).toNat)
 case atStart => exact ⟨0, c.ls, by omega, rfl, rfl, HO2.out, HR2.out, HM2.out, HB2.out⟩
 case round =>
  obtain ⟨k, ls, hk, rfl, hls, ho, hr, hm, hb⟩ := hrel
  have HO := Hd ho
  have HR := Hd hr
  have HM := Hd hm
  have HB := Hd hb
  clear ho hr hm hb
  have o0 := HO.out.cell_ 0 (v := .slice A2 c.ls.length c2) rfl
  have o1 := HO.out.cell_ 1 (v := .int .i64 c.hand) rfl
  have hlo := HO.out.lt
  by_cases hlt : k < c.ls.length
  ·obtain ⟨x, ex⟩ : ∃ x, ls[k]? = some x := ⟨_, List.getElem?_eq_getElem (by omega)⟩
   have HML := Hd HM.out.own_
   obtain ⟨g2, cs2, hA2, hg2, O2, _⟩ := HML.out.1.own (by omega)
   subst hA2
   obtain ⟨bq, oq, eq1, _, y0, y1, y2, y3, y4, y5⟩ := HML.out.1.is.ln ex
   injection eq1 with eq1
   injection eq1 with eq1 eq2
   subst eq1 eq2
   rw [Nat.zero_add] at y0 y1 y2 y3 y4 y5
   by_cases ht : x.t = -1
   ·rw [ht] at y1
    clear O2
    go_wp2
    go_roundw
    case rel => exact ⟨k + 1, ls, by omega, by go_num, hls, HO.out, HR.out, HM.out, HB.out⟩
    case measure => simp [intOf]; omega
   ·have z0 := O2.free (k * 6)
    have z1 := O2.free (k * 6 + 1)
    have z2 := O2.free (k * 6 + 2)
    have z3 := O2.free (k * 6 + 3)
    have z4 := O2.free (k * 6 + 4)
    have z5 := O2.free (k * 6 + 5)
    have hne : gb ≠ g2 := HO.out.ne O2 (by decide)
    have hne3 : w.heap.size + 1 ≠ g2 := HR.out.ne O2 (by decide)
    have htn : (x.t != -1) = true := by simpa using ht
    have m9 := HML.out.1.wln (show k < ls.length by omega) lnz
    have ho9 := (((((HO.out.far (p := ⟨g2, k * 6, none⟩) (u := .bool false) hne).far (p := ⟨g2, k * 6 + 1, none⟩) (u := .int .i64 0) hne).far (p := ⟨g2, k * 6 + 2, none⟩) (u := .int .i64 0) hne).far (p := ⟨g2, k * 6 + 3, none⟩) (u := .int .i64 0) hne).far (p := ⟨g2, k * 6 + 4, none⟩) (u := .int .i64 0) hne).far (p := ⟨g2, k * 6 + 5, none⟩) (u := .bool false) hne
    have hr9 := (((((HR.out.far (p := ⟨g2, k * 6, none⟩) (u := .bool false) hne3).far (p := ⟨g2, k * 6 + 1, none⟩) (u := .int .i64 0) hne3).far (p := ⟨g2, k * 6 + 2, none⟩) (u := .int .i64 0) hne3).far (p := ⟨g2, k * 6 + 3, none⟩) (u := .int .i64 0) hne3).far (p := ⟨g2, k * 6 + 4, none⟩) (u := .int .i64 0) hne3).far (p := ⟨g2, k * 6 + 5, none⟩) (u := .bool false) hne3
    have hgg : w.heap.size ≤ g2 := by omega
    have hb9 := bS (bS (bS (bS (bS (bS HB.out (p := ⟨g2, k * 6, none⟩) hgg (u := .bool false)) (p := ⟨g2, k * 6 + 1, none⟩) hgg (u := .int .i64 0)) (p := ⟨g2, k * 6 + 2, none⟩) hgg (u := .int .i64 0)) (p := ⟨g2, k * 6 + 3, none⟩) hgg (u := .int .i64 0)) (p := ⟨g2, k * 6 + 4, none⟩) hgg (u := .int .i64 0)) (p := ⟨g2, k * 6 + 5, none⟩) hgg (u := .bool false)
    have hl9 : (ls.set k lnz).length = c.ls.length := by simpa using hls
    obtain ⟨_, hnl, hcl, hcm⟩ := HML.out
    have M9 : Hid (SlM lnE 129 (w.heap.size + 2) _ (.slice (some ⟨g2, 0, none⟩) c.ls.length c2) (ls.set k lnz)) := slm_of hl9.symm (by rw [hl9]; omega) hcm m9
    have HO9 := Hd ho9
    have HR9 := Hd hr9
    have HB9 := Hd hb9
    have HL9 := Hd hl9
    have HLS := Hd hls
    clear O2 m9 ho9 hr9 hb9 HML hnl hl9 hcl hcm hls ht
    go_wp2
    go_roundw
    case rel => exact ⟨k + 1, ls.set k lnz, by omega, by go_num, HL9.out, HO9.out, HR9.out, M9.out, HB9.out⟩
    case measure => simp [intOf]; omega
  ·obtain rfl : k = c.ls.length := by omega
   have r0 := HR.out.cell_ 0 (v := .slice none 0 0) rfl
   have r1 := HR.out.cell_ 1 (v := .int .i64 0) rfl
   have f0 := HR.out.free 0
   have f1 := HR.out.free 1
   have hlr := HR.out.lt
   go_wp2
   have o3 := (HR.out.set_ 0 (.slice A2 c.ls.length c2)).set_ 1 (.int .i64 c.hand)
   have t0 := o3.cell_ 0 (v := .slice A2 c.ls.length c2) rfl
   have t1 := o3.cell_ 1 (v := .int .i64 c.hand) rfl
   refine bodyPost_ret (v := .agg #[.slice A2 c.ls.length c2, .int .i64 c.hand]) (by simp [results, Tryz.results240, go_sem, t0, t1]) rfl ⟨_, rfl, _, ls, rfl, hls, ?_, ?_⟩
   ·exact ((HM.out.far (p := ⟨w.heap.size + 1, 0, none⟩) (u := .slice A2 c.ls.length c2) (by simp)).far (p := ⟨w.heap.size + 1, 1, none⟩) (u := .int .i64 c.hand) (by simp)).mono (by omega)
   ·repeat (refine bS ?_ (by simp <;> omega))
    exact HB.out
set_option maxHeartbeats 4000000 in
theorem sEnterSpace_any (vb vf vl vo : Value) (m : Ma) (s : Int) (w : World) (hM : MaR w vb vf vl vo m) :
  Calls Tryz.prog 221 #[.agg #[vb, vf, vl, .int .i64 m.c.hand, .int .i64 m.g.count, .int .i64 m.g.next, .int .i64 m.g.round, vo, .int .i64 m.sp], .int .i64 s] w (Post2 fun v w' => ∃ (m' : Ma) (ok : Bool) (v1 v2 v3 v4 : Value), v = .tuple #[.agg #[v1, v2, v3, .int .i64 m'.c.hand, .int .i64 m'.g.count, .int .i64 m'.g.next, .int .i64 m'.g.round, v4, .int .i64 m'.sp], .bool ok] ∧ MaM w.heap.size w' v1 v2 v3 v4 m' ∧ (ok = true → Sz 17 m') ∧ Below w.heap.size w w') := by
 obtain ⟨W0, hW, hbx, hbo, hb0, hs0⟩ := box2 w #[vb, vf, vl, .int .i64 m.c.hand, .int .i64 m.g.count, .int .i64 m.g.next, .int .i64 m.g.round, vo, .int .i64 m.sp] 48 #[.slice none 0 0, .slice none 0 0, .slice none 0 0, .int .i64 0, .int .i64 0, .int .i64 0, .int .i64 0, .slice none 0 0, .int .i64 0] 48
 obtain ⟨m0q, m1q, m2q, m3q, m4q, m5q, m6q, m7q, m8q⟩ := cells9 hbx
 have HX0 := Hd hbx
 have HO0 := Hd hbo
 have HB0 := Hd hb0
 have HM := Hd hM
 clear hbx hbo hb0 hM
 clear m0q m1q m2q m3q m4q m5q m6q m7q m8q
 obtain ⟨m00, m10, m20, m30, m40, m50, m60, m70, m80⟩ := cells9 HX0.out
 go_enter Tryz.func221, Tryz.ntmps221
 go_wp2_with fail
 refine (sTakeTag_any vo m.g s _ (HM.out.o.now HB0.out)).mono ?_
 rintro e w1 ⟨_, rfl, v4, rfl, hG1, hb1⟩
 have hz4 := takG_len m.g s
 generalize (takG m.g s).1 = G at hG1 hz4
 generalize (takG m.g s).2.1 = x1
 generalize (takG m.g s).2.2.1 = fr
 generalize (takG m.g s).2.2.2 = ok
 have hG1' := hG1
 obtain ⟨A7, c7, rfl, _⟩ := hG1'
 have hp2 := Own.new_ w1 46 #[.int .i64 G.count, .int .i64 G.next, .int .i64 G.round, .slice A7 G.os.length c7]
 have hb2 : Below w1.heap.size w1 (w1.alloc (.cells #[.int .i64 G.count, .int .i64 G.next, .int .i64 G.round, .slice A7 G.os.length c7] 46)) := bA bR
 generalize hW2 : w1.alloc (.cells #[.int .i64 G.count, .int .i64 G.next, .int .i64 G.round, .slice A7 G.os.length c7] 46) = w2 at hp2 hb2
 have HG2 := Hd ((hG1.now hb2).mono (show w.heap.size + 2 ≤ W0.heap.size by omega))
 have HP2 := Hd hp2
 have HX2 := Hd ((HX0.out.below hb1).below hb2)
 have HO2 := Hd ((HO0.out.below hb1).below hb2)
 have HB2 := Hd (bT (bT HB0.out hb1) hb2)
 have k0 : w.heap.size + 2 ≤ w1.heap.size := by have := hb1.size; omega
 have k1 := hp2.lt
 clear m00 m10 m20 m30 m40 m50 m60 m70 m80
 clear hG1 hb1 hp2 hb2
 obtain ⟨m02, m12, m22, m32, m42, m52, m62, m72, m82⟩ := cells9 HX2.out
 go_wp2_with fail
 refine (sMachineValid_any vb vf vl vo m _ (HM.out.now HB2.out)).mono ?_
 rintro e w3 ⟨rfl, hb3⟩
 have HG3 := Hd (HG2.out.now hb3)
 have HP3 := Hd (HP2.out.below hb3)
 have HX3 := Hd (HX2.out.below hb3)
 have HO3 := Hd (HO2.out.below hb3)
 have HB3 := Hd (bT HB2.out hb3)
 have k2 := hb3.size
 clear m02 m12 m22 m32 m42 m52 m62 m72 m82
 clear hb3
 cases h1 : mav m with
 | false =>
  obtain ⟨r0x, r1x, r2x, r3x, r4x, r5x, r6x, r7x, r8x⟩ := cells9 HO3.out
  obtain ⟨z0x, z1x, z2x, z3x, z4x, z5x, z6x, z7x, z8x⟩ := free9 HO3.out
  have hlr := HO3.out.lt
  go_wp2
  have o3 := HO3.out.set9 (.slice none 0 0) (.slice none 0 0) (.slice none 0 0) (.int .i64 0) (.int .i64 0) (.int .i64 0) (.int .i64 0) (.slice none 0 0) (.int .i64 0)
  obtain ⟨p0t, p1t, p2t, p3t, p4t, p5t, p6t, p7t, p8t⟩ := cells9 o3
  refine bodyPost_ret (v := .tuple #[.agg #[.slice none 0 0, .slice none 0 0, .slice none 0 0, .int .i64 0, .int .i64 0, .int .i64 0, .int .i64 0, .slice none 0 0, .int .i64 0], .bool false]) (by simp [results, Tryz.results221, go_sem, p0t, p1t, p2t, p3t, p4t, p5t, p6t, p7t, p8t, maz, caz, tgz]) rfl ⟨_, rfl, maz, false, _, _, _, _, rfl, mam_z, (fun h => by cases h), ?_⟩
  repeat (refine bS ?_ (by simp <;> omega))
  exact HB3.out
 | true =>
 cases ok with
 | false =>
  obtain ⟨r0x, r1x, r2x, r3x, r4x, r5x, r6x, r7x, r8x⟩ := cells9 HO3.out
  obtain ⟨z0x, z1x, z2x, z3x, z4x, z5x, z6x, z7x, z8x⟩ := free9 HO3.out
  have hlr := HO3.out.lt
  go_wp2
  have o3 := HO3.out.set9 (.slice none 0 0) (.slice none 0 0) (.slice none 0 0) (.int .i64 0) (.int .i64 0) (.int .i64 0) (.int .i64 0) (.slice none 0 0) (.int .i64 0)
  obtain ⟨p0t, p1t, p2t, p3t, p4t, p5t, p6t, p7t, p8t⟩ := cells9 o3
  refine bodyPost_ret (v := .tuple #[.agg #[.slice none 0 0, .slice none 0 0, .slice none 0 0, .int .i64 0, .int .i64 0, .int .i64 0, .int .i64 0, .slice none 0 0, .int .i64 0], .bool false]) (by simp [results, Tryz.results221, go_sem, p0t, p1t, p2t, p3t, p4t, p5t, p6t, p7t, p8t, maz, caz, tgz]) rfl ⟨_, rfl, maz, false, _, _, _, _, rfl, mam_z, (fun h => by cases h), ?_⟩
  repeat (refine bS ?_ (by simp <;> omega))
  exact HB3.out
 | true =>
 have zz := Sz.of h1
 obtain ⟨z1, z2, z3, z5, z6⟩ := zz
 obtain ⟨m03, m13, m23, m33, m43, m53, m63, m73, m83⟩ := cells9 HX3.out
 go_wp2_with fail
 refine (l6Copy_any vb vf vl vo m _ (HM.out.now HB3.out) (by omega) (by omega) (by omega) (by omega)).mono ?_
 rintro e w4 ⟨_, rfl, q1, q2, q3, q4, rfl, hM4, hb4⟩
 obtain ⟨B1, d1, rfl, _⟩ := hM4.t.b
 obtain ⟨B2, d2, rfl, _⟩ := hM4.t.f
 obtain ⟨B3, d3, rfl, _⟩ := hM4.l
 obtain ⟨B4, d4, rfl, _⟩ := hM4.o
 have hu5 := Own.new_ w4 48 #[.slice B1 m.t.bs.length d1, .slice B2 m.t.fs.length d2, .slice B3 m.c.ls.length d3, .int .i64 m.c.hand, .int .i64 m.g.count, .int .i64 m.g.next, .int .i64 m.g.round, .slice B4 m.g.os.length d4, .int .i64 m.sp]
 have hb5 : Below w4.heap.size w4 (w4.alloc (.cells #[.slice B1 m.t.bs.length d1, .slice B2 m.t.fs.length d2, .slice B3 m.c.ls.length d3, .int .i64 m.c.hand, .int .i64 m.g.count, .int .i64 m.g.next, .int .i64 m.g.round, .slice B4 m.g.os.length d4, .int .i64 m.sp] 48)) := bA bR
 generalize hW5 : w4.alloc (.cells #[.slice B1 m.t.bs.length d1, .slice B2 m.t.fs.length d2, .slice B3 m.c.ls.length d3, .int .i64 m.c.hand, .int .i64 m.g.count, .int .i64 m.g.next, .int .i64 m.g.round, .slice B4 m.g.os.length d4, .int .i64 m.sp] 48) = w5 at hu5 hb5
 have hm5 := (hM4.now hb5).mono (show w.heap.size + 2 ≤ w3.heap.size by omega)
 have HG5 := Hd ((HG3.out.now hb4).now hb5)
 have HP5 := Hd ((HP3.out.below hb4).below hb5)
 have HX5 := Hd ((HX3.out.below hb4).below hb5)
 have HO5 := Hd ((HO3.out.below hb4).below hb5)
 have HB5 := Hd (bT (bT HB3.out hb4) hb5)
 have hm5' : MaM (w.heap.size + 2) w5 (.slice B1 m.t.bs.length d1) (.slice B2 m.t.fs.length d2) (.slice B3 m.c.ls.length d3) (.slice A7 G.os.length c7) ⟨m.t, m.c, G, s⟩ := ⟨hm5.t, hm5.l, HG5.out⟩
 have HU5 := Hd hu5
 have k3 : w3.heap.size ≤ w4.heap.size := hb4.size
 clear m03 m13 m23 m33 m43 m53 m63 m73 m83
 clear hM4 hb4 hb5 hm5 hu5
 have s0 := HP5.out.cell_ 0 (v := .int .i64 G.count) rfl
 have s1 := HP5.out.cell_ 1 (v := .int .i64 G.next) rfl
 have s2 := HP5.out.cell_ 2 (v := .int .i64 G.round) rfl
 have s3 := HP5.out.cell_ 3 (v := .slice A7 G.os.length c7) rfl
 obtain ⟨p0y, p1y, p2y, p3y, p4y, p5y, p6y, p7y, p8y⟩ := cells9 HU5.out
 have f4 := HU5.out.free 4
 have f5 := HU5.out.free 5
 have f6 := HU5.out.free 6
 have f7 := HU5.out.free 7
 have f8 := HU5.out.free 8
 have hlp := HP5.out.lt
 have hlu := HU5.out.lt
 have n1 : w.heap.size + 1 ≠ w4.heap.size := by omega
 have n2 : w.heap.size ≠ w4.heap.size := by omega
 have v1 := HU5.out.set_ 4 (.int .i64 G.count)
 have v2 := v1.set_ 5 (.int .i64 G.next)
 have v3 := v2.set_ 6 (.int .i64 G.round)
 have v4 := v3.set_ 7 (.slice A7 G.os.length c7)
 have hu6 := v4.set_ 8 (.int .i64 s)
 have hm6 := ((((hm5'.farT HU5.out (i := 4) (u := .int .i64 G.count)).farT v1 (i := 5) (u := .int .i64 G.next)).farT v2 (i := 6) (u := .int .i64 G.round)).farT v3 (i := 7) (u := .slice A7 G.os.length c7)).farT v4 (i := 8) (u := .int .i64 s)
 have ho6 := ((((HO5.out.far (p := ⟨w4.heap.size, 4, none⟩) (u := .int .i64 G.count) n1).far (p := ⟨w4.heap.size, 5, none⟩) (u := .int .i64 G.next) n1).far (p := ⟨w4.heap.size, 6, none⟩) (u := .int .i64 G.round) n1).far (p := ⟨w4.heap.size, 7, none⟩) (u := .slice A7 G.os.length c7) n1).far (p := ⟨w4.heap.size, 8, none⟩) (u := .int .i64 s) n1
 have hx6 := ((((HX5.out.far (p := ⟨w4.heap.size, 4, none⟩) (u := .int .i64 G.count) n2).far (p := ⟨w4.heap.size, 5, none⟩) (u := .int .i64 G.next) n2).far (p := ⟨w4.heap.size, 6, none⟩) (u := .int .i64 G.round) n2).far (p := ⟨w4.heap.size, 7, none⟩) (u := .slice A7 G.os.length c7) n2).far (p := ⟨w4.heap.size, 8, none⟩) (u := .int .i64 s) n2
 have hww : w.heap.size ≤ w4.heap.size := by omega
 have hb6 := bS (bS (bS (bS (bS HB5.out (p := ⟨w4.heap.size, 4, none⟩) (u := .int .i64 G.count) hww) (p := ⟨w4.heap.size, 5, none⟩) (u := .int .i64 G.next) hww) (p := ⟨w4.heap.size, 6, none⟩) (u := .int .i64 G.round) hww) (p := ⟨w4.heap.size, 7, none⟩) (u := .slice A7 G.os.length c7) hww) (p := ⟨w4.heap.size, 8, none⟩) (u := .int .i64 s) hww
 generalize hW6 : ((((w5.setCell ⟨w4.heap.size, 4, none⟩ (.int .i64 G.count)).setCell ⟨w4.heap.size, 5, none⟩ (.int .i64 G.next)).setCell ⟨w4.heap.size, 6, none⟩ (.int .i64 G.round)).setCell ⟨w4.heap.size, 7, none⟩ (.slice A7 G.os.length c7)).setCell ⟨w4.heap.size, 8, none⟩ (.int .i64 s) = w6 at hu6 hm6 ho6 hx6 hb6
 have HU6 : Hid (Own w6 w4.heap.size 48 #[.slice B1 m.t.bs.length d1, .slice B2 m.t.fs.length d2, .slice B3 m.c.ls.length d3, .int .i64 (⟨m.t, m.c, G, s⟩ : Ma).c.hand, .int .i64 (⟨m.t, m.c, G, s⟩ : Ma).g.count, .int .i64 (⟨m.t, m.c, G, s⟩ : Ma).g.next, .int .i64 (⟨m.t, m.c, G, s⟩ : Ma).g.round, .slice A7 G.os.length c7, .int .i64 (⟨m.t, m.c, G, s⟩ : Ma).sp]) := by
  show Own _ _ _ _
  simpa using hu6
 have HM6 := Hd hm6
 have HO6 := Hd ho6
 have HX6 := Hd hx6
 have HB6 := Hd hb6
 clear hu6 hm6 ho6 hx6 hb6 v1 v2 v3 v4 hm5'
 cases fr with
 | false =>
  obtain ⟨r0x, r1x, r2x, r3x, r4x, r5x, r6x, r7x, r8x⟩ := cells9 HO6.out
  obtain ⟨z0x, z1x, z2x, z3x, z4x, z5x, z6x, z7x, z8x⟩ := free9 HO6.out
  obtain ⟨p0o, p1o, p2o, p3o, p4o, p5o, p6o, p7o, p8o⟩ := cells9 HU6.out
  have hlr := HO6.out.lt
  have hlu := HU6.out.lt
  go_wp2
  have o3 := HO6.out.set9 (.slice B1 m.t.bs.length d1) (.slice B2 m.t.fs.length d2) (.slice B3 m.c.ls.length d3) (.int .i64 m.c.hand) (.int .i64 G.count) (.int .i64 G.next) (.int .i64 G.round) (.slice A7 G.os.length c7) (.int .i64 s)
  obtain ⟨p0t, p1t, p2t, p3t, p4t, p5t, p6t, p7t, p8t⟩ := cells9 o3
  refine bodyPost_ret (v := .tuple #[.agg #[.slice B1 m.t.bs.length d1, .slice B2 m.t.fs.length d2, .slice B3 m.c.ls.length d3, .int .i64 (⟨m.t, m.c, G, s⟩ : Ma).c.hand, .int .i64 (⟨m.t, m.c, G, s⟩ : Ma).g.count, .int .i64 (⟨m.t, m.c, G, s⟩ : Ma).g.next, .int .i64 (⟨m.t, m.c, G, s⟩ : Ma).g.round, .slice A7 G.os.length c7, .int .i64 (⟨m.t, m.c, G, s⟩ : Ma).sp], .bool true]) (by simp [results, Tryz.results221, go_sem, p0t, p1t, p2t, p3t, p4t, p5t, p6t, p7t, p8t]) rfl ⟨_, rfl, ⟨m.t, m.c, G, s⟩, true, _, _, _, _, rfl, ?_, (fun _ => ⟨z1, by show m.t.bs.length ≤ 17; omega, by show m.t.fs.length ≤ 17; omega, by show (m.c).ls.length ≤ 17; (try simp only []); omega, by show G.os.length ≤ 17; omega⟩), ?_⟩
  ·exact (HM6.out.far9 HO6.out _ _ _ _ _ _ _ _ _).mono (by omega)
  ·repeat (refine bS ?_ (by simp <;> omega))
   exact HB6.out
 | true =>
  obtain ⟨m06, m16, m26, m36, m46, m56, m66, m76, m86⟩ := cells9 HX6.out
  have HCB := HB6.out
  go_wp2_with fail
  refine (l6Fresh_any vl m.c _ (HM.out.l.now HCB) (by omega)).mono ?_
  rintro e w7 ⟨_, rfl, c1, ls, rfl, hls, hL7, hb7⟩
  have hz9 : ls.length ≤ 16 := by omega
  clear hls
  clear m06 m16 m26 m36 m46 m56 m66 m76 m86
  clear s0 s1 s2 s3 p0y p1y p2y p3y p4y p5y p6y p7y p8y f4 f5 f6 f7 f8 hlp hlu hW6
  have hL7' := hL7
  obtain ⟨A9, c9, rfl, _⟩ := hL7'
  have hu7 := HU6.out.below hb7
  have k6 : w.heap.size + 2 ≤ w6.heap.size := by have := HU6.out.lt; omega
  have hm7 : MaM (w.heap.size + 2) w7 (.slice B1 m.t.bs.length d1) (.slice B2 m.t.fs.length d2) (.slice A9 ls.length c9) (.slice A7 G.os.length c7) ⟨m.t, ⟨ls, m.c.hand⟩, G, s⟩ := ⟨(HM6.out.now hb7).t, hL7.mono k6, (HM6.out.now hb7).o⟩
  have g2 := hu7.cell_ 2 (v := .slice B3 m.c.ls.length d3) rfl
  have g3 := hu7.cell_ 3 (v := .int .i64 m.c.hand) rfl
  have j2 := hu7.free 2
  have j3 := hu7.free 3
  have hlu7 := hu7.lt
  have v1 := hu7.set_ 2 (.slice A9 ls.length c9)
  have hu8 := v1.set_ 3 (.int .i64 m.c.hand)
  have hm8 := (hm7.farT hu7 (i := 2) (u := .slice A9 ls.length c9)).farT v1 (i := 3) (u := .int .i64 m.c.hand)
  have ho8 := ((HO6.out.below hb7).far (p := ⟨w4.heap.size, 2, none⟩) (u := .slice A9 ls.length c9) n1).far (p := ⟨w4.heap.size, 3, none⟩) (u := .int .i64 m.c.hand) n1
  have hb8 := bS (bS (bT HB6.out hb7) (p := ⟨w4.heap.size, 2, none⟩) (u := .slice A9 ls.length c9) hww) (p := ⟨w4.heap.size, 3, none⟩) (u := .int .i64 m.c.hand) hww
  have hu9 : Own ((w7.setCell ⟨w4.heap.size, 2, none⟩ (.slice A9 ls.length c9)).setCell ⟨w4.heap.size, 3, none⟩ (.int .i64 m.c.hand)) w4.heap.size 48 #[.slice B1 m.t.bs.length d1, .slice B2 m.t.fs.length d2, .slice A9 ls.length c9, .int .i64 (⟨m.t, ⟨ls, m.c.hand⟩, G, s⟩ : Ma).c.hand, .int .i64 (⟨m.t, ⟨ls, m.c.hand⟩, G, s⟩ : Ma).g.count, .int .i64 (⟨m.t, ⟨ls, m.c.hand⟩, G, s⟩ : Ma).g.next, .int .i64 (⟨m.t, ⟨ls, m.c.hand⟩, G, s⟩ : Ma).g.round, .slice A7 G.os.length c7, .int .i64 (⟨m.t, ⟨ls, m.c.hand⟩, G, s⟩ : Ma).sp] := by simpa using hu8
  have HU8 := Hd hu9
  have HM8 := Hd hm8
  have HO8 := Hd ho8
  have HB8 := Hd hb8
  clear hu7 hu8 hu9 hm7 hm8 ho8 hb8 v1 hL7 hb7
  generalize hW8 : (w7.setCell ⟨w4.heap.size, 2, none⟩ (.slice A9 ls.length c9)).setCell ⟨w4.heap.size, 3, none⟩ (.int .i64 m.c.hand) = w8 at HU8 HM8 HO8 HB8
  obtain ⟨r0x, r1x, r2x, r3x, r4x, r5x, r6x, r7x, r8x⟩ := cells9 HO8.out
  obtain ⟨z0x, z1x, z2x, z3x, z4x, z5x, z6x, z7x, z8x⟩ := free9 HO8.out
  obtain ⟨p0o, p1o, p2o, p3o, p4o, p5o, p6o, p7o, p8o⟩ := cells9 HU8.out
  have hlr := HO8.out.lt
  have hlu := HU8.out.lt
  go_wp2
  have o3 := HO8.out.set9 (.slice B1 m.t.bs.length d1) (.slice B2 m.t.fs.length d2) (.slice A9 ls.length c9) (.int .i64 m.c.hand) (.int .i64 G.count) (.int .i64 G.next) (.int .i64 G.round) (.slice A7 G.os.length c7) (.int .i64 s)
  obtain ⟨p0t, p1t, p2t, p3t, p4t, p5t, p6t, p7t, p8t⟩ := cells9 o3
  refine bodyPost_ret (v := .tuple #[.agg #[.slice B1 m.t.bs.length d1, .slice B2 m.t.fs.length d2, .slice A9 ls.length c9, .int .i64 (⟨m.t, (⟨ls, m.c.hand⟩ : Ca), G, s⟩ : Ma).c.hand, .int .i64 (⟨m.t, (⟨ls, m.c.hand⟩ : Ca), G, s⟩ : Ma).g.count, .int .i64 (⟨m.t, (⟨ls, m.c.hand⟩ : Ca), G, s⟩ : Ma).g.next, .int .i64 (⟨m.t, (⟨ls, m.c.hand⟩ : Ca), G, s⟩ : Ma).g.round, .slice A7 G.os.length c7, .int .i64 (⟨m.t, (⟨ls, m.c.hand⟩ : Ca), G, s⟩ : Ma).sp], .bool true]) (by simp [results, Tryz.results221, go_sem, p0t, p1t, p2t, p3t, p4t, p5t, p6t, p7t, p8t]) rfl ⟨_, rfl, ⟨m.t, (⟨ls, m.c.hand⟩ : Ca), G, s⟩, true, _, _, _, _, rfl, ?_, (fun _ => ⟨z1, by show m.t.bs.length ≤ 17; omega, by show m.t.fs.length ≤ 17; omega, by show ((⟨ls, m.c.hand⟩ : Ca)).ls.length ≤ 17; (try simp only []); omega, by show G.os.length ≤ 17; omega⟩), ?_⟩
  ·exact (HM8.out.far9 HO8.out _ _ _ _ _ _ _ _ _).mono (by omega)
  ·repeat (refine bS ?_ (by simp <;> omega))
   exact HB8.out
end Go.Proofs.YtibpnlojlfcpmaaGreatDoor
