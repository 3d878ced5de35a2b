/- A part of the proofs of this seat: Fb. -/
import Derived.Test.YtibpnlojlfcpmaaGreatDoorBRelA
import Derived.Test.YtibpnlojlfcpmaaGreatDoorBTpI
set_option linter.unusedVariables false
set_option linter.unusedSimpArgs false
set_option maxRecDepth 1000000
namespace Go.Proofs.YtibpnlojlfcpmaaGreatDoor
open Go.RowKit
theorem tchF_bd {m : Ma} {p n : Int} (h : tchO m p n = true) : 0 ≤ tchF m p n ∧ tchF m p n < 16 := by
 have hF : tchF m p n = tchFr m p := by unfold tchF; rw [if_pos h]
 rw [hF, tch_fr h]
 split
 ·rename_i hk
  obtain ⟨k, hk2, hf⟩ := fndI_fnd (show 0 ≤ fndI m.t.fs (keyI m.sp p) p from hk)
  obtain ⟨f, ef, _⟩ := fnd_some hf
  have hl := (List.getElem?_eq_some_iff.1 ef).1
  obtain ⟨M, _, _⟩ := tchO_parts h
  have := (tv_parts (tv_TV.2 M.t)).1
  have hk3 : tchK m p = (k : Int) := hk2
  omega
 ·omega
set_option maxHeartbeats 4000000 in
theorem sFindByte_any (vb vf vl vo : Value) (m : Ma) (p o n : Int) (w : World) (hM : MaR w vb vf vl vo m) :
  Calls Tryz.prog 120 #[.agg #[vb, vf, vl, .int .i64 m.c.hand, .int .i64 m.g.count, .int .i64 m.g.next, .int .i64 m.g.round, vo, .int .i64 m.sp], .int .i64 p, .int .i64 o, .int .i64 n] w (Post2 fun v w' => ∃ v1 v2 v3 v4, v = .tuple #[.agg #[v1, v2, v3, .int .i64 (fbV m p o n).c.hand, .int .i64 (fbV m p o n).g.count, .int .i64 (fbV m p o n).g.next, .int .i64 (fbV m p o n).g.round, v4, .int .i64 (fbV m p o n).sp], .int .i64 (fbA m p o n), .int .i64 (fbR m p o n), .bool (fbO m p o n)] ∧ MaM w.heap.size w' v1 v2 v3 v4 (fbV m p o n) ∧ Below w.heap.size w w') := by
 obtain ⟨W0, hW, hbx, hbo, hb0, hs0⟩ := box2 w #[vb, vf, vl, .int .i64 m.c.hand, .int .i64 m.g.count, .int .i64 m.g.next, .int .i64 m.g.round, vo, .int .i64 m.sp] 48 #[.slice none 0 0, .slice none 0 0, .slice none 0 0, .int .i64 0, .int .i64 0, .int .i64 0, .int .i64 0, .slice none 0 0, .int .i64 0] 48
 obtain ⟨m0q, m1q, m2q, m3q, m4q, m5q, m6q, m7q, m8q⟩ := cells9 hbx
 have HX0 := Hd hbx
 have HO0 := Hd hbo
 have HB0 := Hd hb0
 have HM := Hd hM
 clear hbx hbo hb0 hM
 clear m0q m1q m2q m3q m4q m5q m6q m7q m8q
 have HS0 : Hid (w.heap.size + 2 ≤ W0.heap.size) := Nat.le_of_eq hs0.symm
 obtain ⟨m00, m10, m20, m30, m40, m50, m60, m70, m80⟩ := cells9 HX0.out
 go_enter Tryz.func120, Tryz.ntmps120
 go_wp2_with fail
 refine (sTouchPage_any vb vf vl vo m p n _ (HM.out.now HB0.out)).mono ?_
 rintro e w1 ⟨_, rfl, q1, q2, q3, q4, rfl, hM1, hb1⟩
 have hM1' := hM1.mono HS0.out
 generalize hTV : tchV m p n = V at *
 obtain ⟨B1, d1, rfl, _⟩ := hM1.t.b
 obtain ⟨B2, d2, rfl, _⟩ := hM1.t.f
 obtain ⟨B3, d3, rfl, _⟩ := hM1.l
 obtain ⟨B4, d4, rfl, _⟩ := hM1.o
 have HO1 := Hd (HO0.out.below hb1)
 have HB1 := Hd (bT HB0.out hb1)
 have HS1 := Hd (Nat.le_trans HS0.out hb1.size)
 have ho4 := Own.new_ w1 48 #[.slice B1 V.t.bs.length d1, .slice B2 V.t.fs.length d2, .slice B3 V.c.ls.length d3, .int .i64 V.c.hand, .int .i64 V.g.count, .int .i64 V.g.next, .int .i64 V.g.round, .slice B4 V.g.os.length d4, .int .i64 V.sp]
 have hb4 : Below w1.heap.size w1 (w1.alloc (.cells #[.slice B1 V.t.bs.length d1, .slice B2 V.t.fs.length d2, .slice B3 V.c.ls.length d3, .int .i64 V.c.hand, .int .i64 V.g.count, .int .i64 V.g.next, .int .i64 V.g.round, .slice B4 V.g.os.length d4, .int .i64 V.sp] 48)) := bA bR
 have hgt : w.heap.size + 2 ≤ w1.heap.size := HS1.out
 generalize hW4 : w1.alloc (.cells #[.slice B1 V.t.bs.length d1, .slice B2 V.t.fs.length d2, .slice B3 V.c.ls.length d3, .int .i64 V.c.hand, .int .i64 V.g.count, .int .i64 V.g.next, .int .i64 V.g.round, .slice B4 V.g.os.length d4, .int .i64 V.sp] 48) = w4 at ho4 hb4
 have HM4 := Hd (hM1'.now hb4)
 have HU4 := Hd ho4
 have HO4 := Hd (HO1.out.below hb4)
 have HB4 := Hd (bT HB1.out hb4)
 clear m00 m10 m20 m30 m40 m50 m60 m70 m80
 clear hM1 hM1' hb1 hb4 ho4
 have HTV := Hd hTV
 clear hTV
 cases h1 : tchO m p n with
 | false =>
  have HNO : Hid (fbO m p o n = false) := by show _ = _; unfold fbO; rw [h1]; rfl
  have HV := Hd (fbO_no HNO.out).1
  have HR := Hd (fbO_no HNO.out).2.1
  have HA := Hd (fbO_no HNO.out).2.2
  obtain ⟨r0x, r1x, r2x, r3x, r4x, r5x, r6x, r7x, r8x⟩ := cells9 HO4.out
  obtain ⟨z0x, z1x, z2x, z3x, z4x, z5x, z6x, z7x, z8x⟩ := free9 HO4.out
  have hlr := HO4.out.lt
  go_wp2
  have o3 := HO4.out.set9 (.slice none 0 0) (.slice none 0 0) (.slice none 0 0) (.int .i64 0) (.int .i64 0) (.int .i64 0) (.int .i64 0) (.slice none 0 0) (.int .i64 0)
  obtain ⟨p0t, p1t, p2t, p3t, p4t, p5t, p6t, p7t, p8t⟩ := cells9 o3
  refine bodyPost_ret (v := .tuple #[.agg #[.slice none 0 0, .slice none 0 0, .slice none 0 0, .int .i64 0, .int .i64 0, .int .i64 0, .int .i64 0, .slice none 0 0, .int .i64 0], .int .i64 0, .int .i64 0, .bool false]) (by simp [results, Tryz.results120, go_sem, p0t, p1t, p2t, p3t, p4t, p5t, p6t, p7t, p8t, maz, caz, tgz]) rfl ⟨_, rfl, _, _, _, _, by rw [HV.out, HA.out, HR.out, HNO.out]; rfl, by rw [HV.out]; exact mam_z, ?_⟩
  repeat (refine bS ?_ (by simp <;> omega))
  exact HB4.out
 | true =>
 by_cases hA : o < 0
 ·have HNO : Hid (fbO m p o n = false) := by
   show _ = _
   unfold fbO
   rw [show inR o 64 = false by cases h : inR o 64 with
    | false => rfl
    | true => have := inR_iff.1 h; omega]
   simp
  have HV := Hd (fbO_no HNO.out).1
  have HR := Hd (fbO_no HNO.out).2.1
  have HA := Hd (fbO_no HNO.out).2.2
  obtain ⟨r0x, r1x, r2x, r3x, r4x, r5x, r6x, r7x, r8x⟩ := cells9 HO4.out
  obtain ⟨z0x, z1x, z2x, z3x, z4x, z5x, z6x, z7x, z8x⟩ := free9 HO4.out
  have hlr := HO4.out.lt
  go_wp2
  have o3 := HO4.out.set9 (.slice none 0 0) (.slice none 0 0) (.slice none 0 0) (.int .i64 0) (.int .i64 0) (.int .i64 0) (.int .i64 0) (.slice none 0 0) (.int .i64 0)
  obtain ⟨p0t, p1t, p2t, p3t, p4t, p5t, p6t, p7t, p8t⟩ := cells9 o3
  refine bodyPost_ret (v := .tuple #[.agg #[.slice none 0 0, .slice none 0 0, .slice none 0 0, .int .i64 0, .int .i64 0, .int .i64 0, .int .i64 0, .slice none 0 0, .int .i64 0], .int .i64 0, .int .i64 0, .bool false]) (by simp [results, Tryz.results120, go_sem, p0t, p1t, p2t, p3t, p4t, p5t, p6t, p7t, p8t, maz, caz, tgz]) rfl ⟨_, rfl, _, _, _, _, by rw [HV.out, HA.out, HR.out, HNO.out]; rfl, by rw [HV.out]; exact mam_z, ?_⟩
  repeat (refine bS ?_ (by simp <;> omega))
  exact HB4.out
 by_cases hB : 64 ≤ o
 ·have HNO : Hid (fbO m p o n = false) := by
   show _ = _
   unfold fbO
   rw [show inR o 64 = false by cases h : inR o 64 with
    | false => rfl
    | true => have := inR_iff.1 h; omega]
   simp
  have HV := Hd (fbO_no HNO.out).1
  have HR := Hd (fbO_no HNO.out).2.1
  have HA := Hd (fbO_no HNO.out).2.2
  obtain ⟨r0x, r1x, r2x, r3x, r4x, r5x, r6x, r7x, r8x⟩ := cells9 HO4.out
  obtain ⟨z0x, z1x, z2x, z3x, z4x, z5x, z6x, z7x, z8x⟩ := free9 HO4.out
  have hlr := HO4.out.lt
  go_wp2
  have o3 := HO4.out.set9 (.slice none 0 0) (.slice none 0 0) (.slice none 0 0) (.int .i64 0) (.int .i64 0) (.int .i64 0) (.int .i64 0) (.slice none 0 0) (.int .i64 0)
  obtain ⟨p0t, p1t, p2t, p3t, p4t, p5t, p6t, p7t, p8t⟩ := cells9 o3
  refine bodyPost_ret (v := .tuple #[.agg #[.slice none 0 0, .slice none 0 0, .slice none 0 0, .int .i64 0, .int .i64 0, .int .i64 0, .int .i64 0, .slice none 0 0, .int .i64 0], .int .i64 0, .int .i64 0, .bool false]) (by simp [results, Tryz.results120, go_sem, p0t, p1t, p2t, p3t, p4t, p5t, p6t, p7t, p8t, maz, caz, tgz]) rfl ⟨_, rfl, _, _, _, _, by rw [HV.out, HA.out, HR.out, HNO.out]; rfl, by rw [HV.out]; exact mam_z, ?_⟩
  repeat (refine bS ?_ (by simp <;> omega))
  exact HB4.out
 have h2 : inR o 64 = true := inR_iff.2 (by omega)
 have HOK : Hid (fbO m p o n = true) := by show _ = _; unfold fbO; rw [h1, h2]; rfl
 obtain ⟨hF0, hF1⟩ := tchF_bd h1
 obtain ⟨ho0, ho1⟩ := inR_iff.1 h2
 have HVV : Hid (fbV m p o n = V) := by show _ = _; rw [(fbO_yes HOK.out).1, HTV.out]
 have HR0 := Hd (fbO_yes HOK.out).2
 have HA0 := Hd (fun h => fbA_stop (o := o) (m := m) (p := p) (n := n) h)
 have HA1 := Hd (fun h => fbA_go (m := m) (p := p) (n := n) HOK.out h)
 generalize tchR m p n = R at *
 generalize tchF m p n = F at *
 by_cases h3 : R = 3
 ·subst h3
  have HRR : Hid (fbR m p o n = 3) := HR0.out
  have HAA : Hid (fbA m p o n = 0) := HA0.out (.inl rfl)
  obtain ⟨r0x, r1x, r2x, r3x, r4x, r5x, r6x, r7x, r8x⟩ := cells9 HO4.out
  obtain ⟨z0x, z1x, z2x, z3x, z4x, z5x, z6x, z7x, z8x⟩ := free9 HO4.out
  obtain ⟨p0o, p1o, p2o, p3o, p4o, p5o, p6o, p7o, p8o⟩ := cells9 HU4.out
  have hlr := HO4.out.lt
  have hlu := HU4.out.lt
  go_wp2
  have o3 := HO4.out.set9 (.slice B1 V.t.bs.length d1) (.slice B2 V.t.fs.length d2) (.slice B3 V.c.ls.length d3) (.int .i64 V.c.hand) (.int .i64 V.g.count) (.int .i64 V.g.next) (.int .i64 V.g.round) (.slice B4 V.g.os.length d4) (.int .i64 V.sp)
  obtain ⟨p0t, p1t, p2t, p3t, p4t, p5t, p6t, p7t, p8t⟩ := cells9 o3
  refine bodyPost_ret (v := .tuple #[.agg #[.slice B1 V.t.bs.length d1, .slice B2 V.t.fs.length d2, .slice B3 V.c.ls.length d3, .int .i64 V.c.hand, .int .i64 V.g.count, .int .i64 V.g.next, .int .i64 V.g.round, .slice B4 V.g.os.length d4, .int .i64 V.sp], .int .i64 (0), .int .i64 (3), .bool true]) (by simp [results, Tryz.results120, go_sem, p0t, p1t, p2t, p3t, p4t, p5t, p6t, p7t, p8t]) rfl ⟨_, rfl, _, _, _, _, by (rw [HVV.out, HAA.out, HRR.out, HOK.out]) <;> rfl, ?_, ?_⟩
  ·rw [HVV.out]
   exact (HM4.out.far9 HO4.out _ _ _ _ _ _ _ _ _).mono (by omega)
  ·repeat (refine bS ?_ (by simp <;> omega))
   exact HB4.out
 by_cases h4 : R = 4
 ·subst h4
  have HRR : Hid (fbR m p o n = 4) := HR0.out
  have HAA : Hid (fbA m p o n = 0) := HA0.out (.inr rfl)
  obtain ⟨r0x, r1x, r2x, r3x, r4x, r5x, r6x, r7x, r8x⟩ := cells9 HO4.out
  obtain ⟨z0x, z1x, z2x, z3x, z4x, z5x, z6x, z7x, z8x⟩ := free9 HO4.out
  obtain ⟨p0o, p1o, p2o, p3o, p4o, p5o, p6o, p7o, p8o⟩ := cells9 HU4.out
  have hlr := HO4.out.lt
  have hlu := HU4.out.lt
  go_wp2
  have o3 := HO4.out.set9 (.slice B1 V.t.bs.length d1) (.slice B2 V.t.fs.length d2) (.slice B3 V.c.ls.length d3) (.int .i64 V.c.hand) (.int .i64 V.g.count) (.int .i64 V.g.next) (.int .i64 V.g.round) (.slice B4 V.g.os.length d4) (.int .i64 V.sp)
  obtain ⟨p0t, p1t, p2t, p3t, p4t, p5t, p6t, p7t, p8t⟩ := cells9 o3
  refine bodyPost_ret (v := .tuple #[.agg #[.slice B1 V.t.bs.length d1, .slice B2 V.t.fs.length d2, .slice B3 V.c.ls.length d3, .int .i64 V.c.hand, .int .i64 V.g.count, .int .i64 V.g.next, .int .i64 V.g.round, .slice B4 V.g.os.length d4, .int .i64 V.sp], .int .i64 (0), .int .i64 (4), .bool true]) (by simp [results, Tryz.results120, go_sem, p0t, p1t, p2t, p3t, p4t, p5t, p6t, p7t, p8t]) rfl ⟨_, rfl, _, _, _, _, by (rw [HVV.out, HAA.out, HRR.out, HOK.out]) <;> rfl, ?_, ?_⟩
  ·rw [HVV.out]
   exact (HM4.out.far9 HO4.out _ _ _ _ _ _ _ _ _).mono (by omega)
  ·repeat (refine bS ?_ (by simp <;> omega))
   exact HB4.out
 have HRR : Hid (fbR m p o n = R) := HR0.out
 have HAA : Hid (fbA m p o n = F * 64 + o) := HA1.out (by omega)
 have hw1 : IntKind.i64.wrap (F * 64) = F * 64 := IntWalk.i64_in _ (by omega)
 have hw2 : IntKind.i64.wrap (F * 64 + o) = F * 64 + o := IntWalk.i64_in _ (by omega)
 have h3b : (R == 3) = false := by rw [beq_eq_false_iff_ne]; exact h3
 have h4b : (R == 4) = false := by rw [beq_eq_false_iff_ne]; exact h4
 clear HR0 HA0 HA1 h3 h4
 obtain ⟨r0x, r1x, r2x, r3x, r4x, r5x, r6x, r7x, r8x⟩ := cells9 HO4.out
 obtain ⟨z0x, z1x, z2x, z3x, z4x, z5x, z6x, z7x, z8x⟩ := free9 HO4.out
 obtain ⟨p0o, p1o, p2o, p3o, p4o, p5o, p6o, p7o, p8o⟩ := cells9 HU4.out
 have hlr := HO4.out.lt
 have hlu := HU4.out.lt
 go_wp2
 have o3 := HO4.out.set9 (.slice B1 V.t.bs.length d1) (.slice B2 V.t.fs.length d2) (.slice B3 V.c.ls.length d3) (.int .i64 V.c.hand) (.int .i64 V.g.count) (.int .i64 V.g.next) (.int .i64 V.g.round) (.slice B4 V.g.os.length d4) (.int .i64 V.sp)
 obtain ⟨p0t, p1t, p2t, p3t, p4t, p5t, p6t, p7t, p8t⟩ := cells9 o3
 refine bodyPost_ret (v := .tuple #[.agg #[.slice B1 V.t.bs.length d1, .slice B2 V.t.fs.length d2, .slice B3 V.c.ls.length d3, .int .i64 V.c.hand, .int .i64 V.g.count, .int .i64 V.g.next, .int .i64 V.g.round, .slice B4 V.g.os.length d4, .int .i64 V.sp], .int .i64 (F * 64 + o), .int .i64 (R), .bool true]) (by simp [results, Tryz.results120, go_sem, p0t, p1t, p2t, p3t, p4t, p5t, p6t, p7t, p8t]) rfl ⟨_, rfl, _, _, _, _, by (rw [HVV.out, HAA.out, HRR.out, HOK.out]) <;> rfl, ?_, ?_⟩
 ·rw [HVV.out]
  exact (HM4.out.far9 HO4.out _ _ _ _ _ _ _ _ _).mono (by omega)
 ·repeat (refine bS ?_ (by simp <;> omega))
  exact HB4.out
set_option maxHeartbeats 4000000 in
theorem FindByte_any (vb vf vl vo : Value) (m : Ma) (p o n : Int) (w : World) (hM : MaR w vb vf vl vo m) (hfree : Free w) :
  Calls Tryz.prog 122 #[.agg #[vb, vf, vl, .int .i64 m.c.hand, .int .i64 m.g.count, .int .i64 m.g.next, .int .i64 m.g.round, vo, .int .i64 m.sp], .int .i64 p, .int .i64 o, .int .i64 n] w (Post2 fun v w' => ∃ v1 v2 v3 v4, v = .tuple #[.agg #[v1, v2, v3, .int .i64 (fbV m p o n).c.hand, .int .i64 (fbV m p o n).g.count, .int .i64 (fbV m p o n).g.next, .int .i64 (fbV m p o n).g.round, v4, .int .i64 (fbV m p o n).sp], .int .i64 (fbA m p o n), .int .i64 (fbR m p o n), .bool (fbO m p o n)] ∧ MaM w.heap.size w' v1 v2 v3 v4 (fbV m p o n) ∧ Below w.heap.size w w') := by
 have HFR := Hd hfree
 clear hfree
 obtain ⟨W0, hW, hbx, hbo, hb0, hs0⟩ := box2 w #[vb, vf, vl, .int .i64 m.c.hand, .int .i64 m.g.count, .int .i64 m.g.next, .int .i64 m.g.round, vo, .int .i64 m.sp] 48 #[.slice none 0 0, .slice none 0 0, .slice none 0 0, .int .i64 0, .int .i64 0, .int .i64 0, .int .i64 0, .slice none 0 0, .int .i64 0] 48
 obtain ⟨m0q, m1q, m2q, m3q, m4q, m5q, m6q, m7q, m8q⟩ := cells9 hbx
 have HX0 := Hd hbx
 have HO0 := Hd hbo
 have HB0 := Hd hb0
 have HM := Hd hM
 clear hbx hbo hb0 hM
 clear m0q m1q m2q m3q m4q m5q m6q m7q m8q
 have HS0 : Hid (w.heap.size + 2 ≤ W0.heap.size) := Nat.le_of_eq hs0.symm
 cases h2 : inR o 64 with
 | false =>
  go_enter Tryz.func122, Tryz.ntmps122
  go_wp2_with fail
  refine (within_any _ _ _).mono ?_
  rintro e w' ⟨rfl, rfl⟩
  rw [h2]
  have HNO : Hid (fbO m p o n = false) := by show _ = _; unfold fbO; rw [h2]; simp
  have HV := Hd (fbO_no HNO.out).1
  have HR := Hd (fbO_no HNO.out).2.1
  have HA := Hd (fbO_no HNO.out).2.2
  obtain ⟨r0x, r1x, r2x, r3x, r4x, r5x, r6x, r7x, r8x⟩ := cells9 HO0.out
  obtain ⟨z0x, z1x, z2x, z3x, z4x, z5x, z6x, z7x, z8x⟩ := free9 HO0.out
  have hlr := HO0.out.lt
  go_wp2
  have o3 := HO0.out.set9 (.slice none 0 0) (.slice none 0 0) (.slice none 0 0) (.int .i64 0) (.int .i64 0) (.int .i64 0) (.int .i64 0) (.slice none 0 0) (.int .i64 0)
  obtain ⟨p0t, p1t, p2t, p3t, p4t, p5t, p6t, p7t, p8t⟩ := cells9 o3
  refine bodyPost_ret (v := .tuple #[.agg #[.slice none 0 0, .slice none 0 0, .slice none 0 0, .int .i64 0, .int .i64 0, .int .i64 0, .int .i64 0, .slice none 0 0, .int .i64 0], .int .i64 0, .int .i64 0, .bool false]) (by simp [results, Tryz.results122, go_sem, p0t, p1t, p2t, p3t, p4t, p5t, p6t, p7t, p8t, maz, caz, tgz]) rfl ⟨_, rfl, _, _, _, _, by rw [HV.out, HA.out, HR.out, HNO.out]; rfl, by rw [HV.out]; exact mam_z, ?_⟩
  repeat (refine bS ?_ (by simp <;> omega))
  exact HB0.out
 | true =>
 obtain ⟨m00, m10, m20, m30, m40, m50, m60, m70, m80⟩ := cells9 HX0.out
 go_enter Tryz.func122, Tryz.ntmps122
 go_wp2_with fail
 refine (within_any _ _ _).mono ?_
 rintro e w' ⟨rfl, rfl⟩
 rw [h2]
 go_wp2_with fail
 refine (TouchPage_any vb vf vl vo m p n _ (HM.out.now HB0.out) (HFR.out.now HB0.out)).mono ?_
 rintro e w1 ⟨_, rfl, q1, q2, q3, q4, rfl, hM1, hb1⟩
 have hM1' := hM1.mono HS0.out
 generalize hTV : tchV m p n = V at *
 obtain ⟨B1, d1, rfl, _⟩ := hM1.t.b
 obtain ⟨B2, d2, rfl, _⟩ := hM1.t.f
 obtain ⟨B3, d3, rfl, _⟩ := hM1.l
 obtain ⟨B4, d4, rfl, _⟩ := hM1.o
 have HO1 := Hd (HO0.out.below hb1)
 have HB1 := Hd (bT HB0.out hb1)
 have HS1 := Hd (Nat.le_trans HS0.out hb1.size)
 have ho4 := Own.new_ w1 48 #[.slice B1 V.t.bs.length d1, .slice B2 V.t.fs.length d2, .slice B3 V.c.ls.length d3, .int .i64 V.c.hand, .int .i64 V.g.count, .int .i64 V.g.next, .int .i64 V.g.round, .slice B4 V.g.os.length d4, .int .i64 V.sp]
 have hb4 : Below w1.heap.size w1 (w1.alloc (.cells #[.slice B1 V.t.bs.length d1, .slice B2 V.t.fs.length d2, .slice B3 V.c.ls.length d3, .int .i64 V.c.hand, .int .i64 V.g.count, .int .i64 V.g.next, .int .i64 V.g.round, .slice B4 V.g.os.length d4, .int .i64 V.sp] 48)) := bA bR
 have hgt : w.heap.size + 2 ≤ w1.heap.size := HS1.out
 generalize hW4 : w1.alloc (.cells #[.slice B1 V.t.bs.length d1, .slice B2 V.t.fs.length d2, .slice B3 V.c.ls.length d3, .int .i64 V.c.hand, .int .i64 V.g.count, .int .i64 V.g.next, .int .i64 V.g.round, .slice B4 V.g.os.length d4, .int .i64 V.sp] 48) = w4 at ho4 hb4
 have HM4 := Hd (hM1'.now hb4)
 have HU4 := Hd ho4
 have HO4 := Hd (HO1.out.below hb4)
 have HB4 := Hd (bT HB1.out hb4)
 clear m00 m10 m20 m30 m40 m50 m60 m70 m80
 clear hM1 hM1' hb1 hb4 ho4
 have HTV := Hd hTV
 clear hTV
 cases h1 : tchO m p n with
 | false =>
  have HNO : Hid (fbO m p o n = false) := by show _ = _; unfold fbO; rw [h1]; rfl
  have HV := Hd (fbO_no HNO.out).1
  have HR := Hd (fbO_no HNO.out).2.1
  have HA := Hd (fbO_no HNO.out).2.2
  obtain ⟨r0x, r1x, r2x, r3x, r4x, r5x, r6x, r7x, r8x⟩ := cells9 HO4.out
  obtain ⟨z0x, z1x, z2x, z3x, z4x, z5x, z6x, z7x, z8x⟩ := free9 HO4.out
  have hlr := HO4.out.lt
  go_wp2
  have o3 := HO4.out.set9 (.slice none 0 0) (.slice none 0 0) (.slice none 0 0) (.int .i64 0) (.int .i64 0) (.int .i64 0) (.int .i64 0) (.slice none 0 0) (.int .i64 0)
  obtain ⟨p0t, p1t, p2t, p3t, p4t, p5t, p6t, p7t, p8t⟩ := cells9 o3
  refine bodyPost_ret (v := .tuple #[.agg #[.slice none 0 0, .slice none 0 0, .slice none 0 0, .int .i64 0, .int .i64 0, .int .i64 0, .int .i64 0, .slice none 0 0, .int .i64 0], .int .i64 0, .int .i64 0, .bool false]) (by simp [results, Tryz.results122, go_sem, p0t, p1t, p2t, p3t, p4t, p5t, p6t, p7t, p8t, maz, caz, tgz]) rfl ⟨_, rfl, _, _, _, _, by rw [HV.out, HA.out, HR.out, HNO.out]; rfl, by rw [HV.out]; exact mam_z, ?_⟩
  repeat (refine bS ?_ (by simp <;> omega))
  exact HB4.out
 | true =>
 have HOK : Hid (fbO m p o n = true) := by show _ = _; unfold fbO; rw [h1, h2]; rfl
 obtain ⟨hF0, hF1⟩ := tchF_bd h1
 obtain ⟨ho0, ho1⟩ := inR_iff.1 h2
 have HVV : Hid (fbV m p o n = V) := by show _ = _; rw [(fbO_yes HOK.out).1, HTV.out]
 have HR0 := Hd (fbO_yes HOK.out).2
 have HA0 := Hd (fun h => fbA_stop (o := o) (m := m) (p := p) (n := n) h)
 have HA1 := Hd (fun h => fbA_go (m := m) (p := p) (n := n) HOK.out h)
 generalize tchR m p n = R at *
 generalize tchF m p n = F at *
 by_cases h3 : R = 3
 ·subst h3
  have HRR : Hid (fbR m p o n = 3) := HR0.out
  have HAA : Hid (fbA m p o n = 0) := HA0.out (.inl rfl)
  obtain ⟨r0x, r1x, r2x, r3x, r4x, r5x, r6x, r7x, r8x⟩ := cells9 HO4.out
  obtain ⟨z0x, z1x, z2x, z3x, z4x, z5x, z6x, z7x, z8x⟩ := free9 HO4.out
  obtain ⟨p0o, p1o, p2o, p3o, p4o, p5o, p6o, p7o, p8o⟩ := cells9 HU4.out
  have hlr := HO4.out.lt
  have hlu := HU4.out.lt
  go_wp2
  have o3 := HO4.out.set9 (.slice B1 V.t.bs.length d1) (.slice B2 V.t.fs.length d2) (.slice B3 V.c.ls.length d3) (.int .i64 V.c.hand) (.int .i64 V.g.count) (.int .i64 V.g.next) (.int .i64 V.g.round) (.slice B4 V.g.os.length d4) (.int .i64 V.sp)
  obtain ⟨p0t, p1t, p2t, p3t, p4t, p5t, p6t, p7t, p8t⟩ := cells9 o3
  refine bodyPost_ret (v := .tuple #[.agg #[.slice B1 V.t.bs.length d1, .slice B2 V.t.fs.length d2, .slice B3 V.c.ls.length d3, .int .i64 V.c.hand, .int .i64 V.g.count, .int .i64 V.g.next, .int .i64 V.g.round, .slice B4 V.g.os.length d4, .int .i64 V.sp], .int .i64 (0), .int .i64 (3), .bool true]) (by simp [results, Tryz.results122, go_sem, p0t, p1t, p2t, p3t, p4t, p5t, p6t, p7t, p8t]) rfl ⟨_, rfl, _, _, _, _, by (rw [HVV.out, HAA.out, HRR.out, HOK.out]) <;> rfl, ?_, ?_⟩
  ·rw [HVV.out]
   exact (HM4.out.far9 HO4.out _ _ _ _ _ _ _ _ _).mono (by omega)
  ·repeat (refine bS ?_ (by simp <;> omega))
   exact HB4.out
 by_cases h4 : R = 4
 ·subst h4
  have HRR : Hid (fbR m p o n = 4) := HR0.out
  have HAA : Hid (fbA m p o n = 0) := HA0.out (.inr rfl)
  obtain ⟨r0x, r1x, r2x, r3x, r4x, r5x, r6x, r7x, r8x⟩ := cells9 HO4.out
  obtain ⟨z0x, z1x, z2x, z3x, z4x, z5x, z6x, z7x, z8x⟩ := free9 HO4.out
  obtain ⟨p0o, p1o, p2o, p3o, p4o, p5o, p6o, p7o, p8o⟩ := cells9 HU4.out
  have hlr := HO4.out.lt
  have hlu := HU4.out.lt
  go_wp2
  have o3 := HO4.out.set9 (.slice B1 V.t.bs.length d1) (.slice B2 V.t.fs.length d2) (.slice B3 V.c.ls.length d3) (.int .i64 V.c.hand) (.int .i64 V.g.count) (.int .i64 V.g.next) (.int .i64 V.g.round) (.slice B4 V.g.os.length d4) (.int .i64 V.sp)
  obtain ⟨p0t, p1t, p2t, p3t, p4t, p5t, p6t, p7t, p8t⟩ := cells9 o3
  refine bodyPost_ret (v := .tuple #[.agg #[.slice B1 V.t.bs.length d1, .slice B2 V.t.fs.length d2, .slice B3 V.c.ls.length d3, .int .i64 V.c.hand, .int .i64 V.g.count, .int .i64 V.g.next, .int .i64 V.g.round, .slice B4 V.g.os.length d4, .int .i64 V.sp], .int .i64 (0), .int .i64 (4), .bool true]) (by simp [results, Tryz.results122, go_sem, p0t, p1t, p2t, p3t, p4t, p5t, p6t, p7t, p8t]) rfl ⟨_, rfl, _, _, _, _, by (rw [HVV.out, HAA.out, HRR.out, HOK.out]) <;> rfl, ?_, ?_⟩
  ·rw [HVV.out]
   exact (HM4.out.far9 HO4.out _ _ _ _ _ _ _ _ _).mono (by omega)
  ·repeat (refine bS ?_ (by simp <;> omega))
   exact HB4.out
 have HRR : Hid (fbR m p o n = R) := HR0.out
 have HAA : Hid (fbA m p o n = F * 64 + o) := HA1.out (by omega)
 have hw1 : IntKind.i64.wrap (F * 64) = F * 64 := IntWalk.i64_in _ (by omega)
 have hw2 : IntKind.i64.wrap (F * 64 + o) = F * 64 + o := IntWalk.i64_in _ (by omega)
 have h3b : (R == 3) = false := by rw [beq_eq_false_iff_ne]; exact h3
 have h4b : (R == 4) = false := by rw [beq_eq_false_iff_ne]; exact h4
 clear HR0 HA0 HA1 h3 h4
 obtain ⟨r0x, r1x, r2x, r3x, r4x, r5x, r6x, r7x, r8x⟩ := cells9 HO4.out
 obtain ⟨z0x, z1x, z2x, z3x, z4x, z5x, z6x, z7x, z8x⟩ := free9 HO4.out
 obtain ⟨p0o, p1o, p2o, p3o, p4o, p5o, p6o, p7o, p8o⟩ := cells9 HU4.out
 have hlr := HO4.out.lt
 have hlu := HU4.out.lt
 go_wp2
 have o3 := HO4.out.set9 (.slice B1 V.t.bs.length d1) (.slice B2 V.t.fs.length d2) (.slice B3 V.c.ls.length d3) (.int .i64 V.c.hand) (.int .i64 V.g.count) (.int .i64 V.g.next) (.int .i64 V.g.round) (.slice B4 V.g.os.length d4) (.int .i64 V.sp)
 obtain ⟨p0t, p1t, p2t, p3t, p4t, p5t, p6t, p7t, p8t⟩ := cells9 o3
 refine bodyPost_ret (v := .tuple #[.agg #[.slice B1 V.t.bs.length d1, .slice B2 V.t.fs.length d2, .slice B3 V.c.ls.length d3, .int .i64 V.c.hand, .int .i64 V.g.count, .int .i64 V.g.next, .int .i64 V.g.round, .slice B4 V.g.os.length d4, .int .i64 V.sp], .int .i64 (F * 64 + o), .int .i64 (R), .bool true]) (by simp [results, Tryz.results122, go_sem, p0t, p1t, p2t, p3t, p4t, p5t, p6t, p7t, p8t]) rfl ⟨_, rfl, _, _, _, _, by (rw [HVV.out, HAA.out, HRR.out, HOK.out]) <;> rfl, ?_, ?_⟩
 ·rw [HVV.out]
  exact (HM4.out.far9 HO4.out _ _ _ _ _ _ _ _ _).mono (by omega)
 ·repeat (refine bS ?_ (by simp <;> omega))
  exact HB4.out
end Go.Proofs.YtibpnlojlfcpmaaGreatDoor
