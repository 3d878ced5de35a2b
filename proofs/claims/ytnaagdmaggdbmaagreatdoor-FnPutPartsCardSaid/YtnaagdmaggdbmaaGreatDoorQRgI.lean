/- A part of the proofs of this seat: RgI. -/
import Derived.Test.YtnaagdmaggdbmaaGreatDoorQPr1
set_option linter.unusedVariables false
set_option linter.unusedSimpArgs false
namespace Go.Proofs.YtnaagdmaggdbmaaGreatDoor
open Go.RowKit
set_option maxRecDepth 1000000
set_option maxHeartbeats 2000000 in
theorem putRanged_any (vb vf vl vo : Value) (m : Ma) (s p r : Int) (gf gr : Nat) (A : Option Addr) (c : Nat) (fs : List Int) (w : World) (hM : MaR w vb vf vl vo m) (hfree : Free w) (hgf : gf < w.heap.size) (hgr : gr < w.heap.size)
  (hcf : w.cell? ⟨gf, 0, none⟩ = some (.slice A fs.length c)) (hcr : w.cell? ⟨gr, 0, none⟩ = some (.int .i64 r)) (hR : Rs intE w.heap.size w A fs) (hl : fs.length ≤ 1048576) :
  Calls Tryz.prog 50 #[.agg #[vb, vf, vl, .int .i64 m.c.hand, .int .i64 m.g.count, .int .i64 m.g.next, .int .i64 m.g.round, vo, .int .i64 m.sp], .agg #[.int .i64 s, .int .i64 p], .int .i64 fs.length, .func (.func 51) #[] #[.pointer (some ⟨gf, 0, none⟩), .pointer (some ⟨gr, 0, none⟩)]] w (Post2 fun v w' => ∃ v1 v2 v3 v4, v = .tuple #[.agg #[v1, v2, v3, .int .i64 (prgV m s p fs r).c.hand, .int .i64 (prgV m s p fs r).g.count, .int .i64 (prgV m s p fs r).g.next, .int .i64 (prgV m s p fs r).g.round, v4, .int .i64 (prgV m s p fs r).sp], .bool (prgO m s p fs r).isSome] ∧ MaM w.heap.size w' v1 v2 v3 v4 (prgV m s p fs r) ∧ Below w.heap.size w w') := by
 have hbx := ((Own.new_ w 34 #[vb, vf, vl, .int .i64 m.c.hand, .int .i64 m.g.count, .int .i64 m.g.next, .int .i64 m.g.round, vo, .int .i64 m.sp]).alloc (o := .cells #[.int .i64 s, .int .i64 p] 36)).alloc (o := .cells #[.slice none 0 0, .slice none 0 0, .slice none 0 0, .int .i64 0, .int .i64 0, .int .i64 0, .int .i64 0, .slice none 0 0, .int .i64 0] 34)
 have hbk := (ownAt (W := w.alloc (.cells #[vb, vf, vl, .int .i64 m.c.hand, .int .i64 m.g.count, .int .i64 m.g.next, .int .i64 m.g.round, vo, .int .i64 m.sp] 34)) (g := w.heap.size + 1) (t := 36) (cs := #[.int .i64 s, .int .i64 p]) (by simp)).alloc (o := .cells #[.slice none 0 0, .slice none 0 0, .slice none 0 0, .int .i64 0, .int .i64 0, .int .i64 0, .int .i64 0, .slice none 0 0, .int .i64 0] 34)
 have hbo := ownAt (W := (w.alloc (.cells #[vb, vf, vl, .int .i64 m.c.hand, .int .i64 m.g.count, .int .i64 m.g.next, .int .i64 m.g.round, vo, .int .i64 m.sp] 34)).alloc (.cells #[.int .i64 s, .int .i64 p] 36)) (g := w.heap.size + 1 + 1) (t := 34) (cs := #[.slice none 0 0, .slice none 0 0, .slice none 0 0, .int .i64 0, .int .i64 0, .int .i64 0, .int .i64 0, .slice none 0 0, .int .i64 0]) (by simp)
 have hb0 : Below w.heap.size w (((w.alloc (.cells #[vb, vf, vl, .int .i64 m.c.hand, .int .i64 m.g.count, .int .i64 m.g.next, .int .i64 m.g.round, vo, .int .i64 m.sp] 34)).alloc (.cells #[.int .i64 s, .int .i64 p] 36)).alloc (.cells #[.slice none 0 0, .slice none 0 0, .slice none 0 0, .int .i64 0, .int .i64 0, .int .i64 0, .int .i64 0, .slice none 0 0, .int .i64 0] 34)) := bA (bA (bA bR))
 have hs0 : (((w.alloc (.cells #[vb, vf, vl, .int .i64 m.c.hand, .int .i64 m.g.count, .int .i64 m.g.next, .int .i64 m.g.round, vo, .int .i64 m.sp] 34)).alloc (.cells #[.int .i64 s, .int .i64 p] 36)).alloc (.cells #[.slice none 0 0, .slice none 0 0, .slice none 0 0, .int .i64 0, .int .i64 0, .int .i64 0, .int .i64 0, .slice none 0 0, .int .i64 0] 34)).heap.size = w.heap.size + 3 := by simp
 generalize hW : ((w.alloc (.cells #[vb, vf, vl, .int .i64 m.c.hand, .int .i64 m.g.count, .int .i64 m.g.next, .int .i64 m.g.round, vo, .int .i64 m.sp] 34)).alloc (.cells #[.int .i64 s, .int .i64 p] 36)).alloc (.cells #[.slice none 0 0, .slice none 0 0, .slice none 0 0, .int .i64 0, .int .i64 0, .int .i64 0, .int .i64 0, .slice none 0 0, .int .i64 0] 34) = W0 at hbx hbk hbo hb0 hs0
 have HX0 := Lib.hid hbx
 have HK0 := Lib.hid hbk
 have HR0 := Lib.hid hbo
 have HB0 := Lib.hid hb0
 have HS0 : Hid (w.heap.size + 3 ≤ W0.heap.size) := Nat.le_of_eq hs0.symm
 clear hbx hbk hbo hb0
 have HM := Lib.hid hM
 have HF := Lib.hid hfree
 have HRF := Lib.hid hR
 clear hM hfree hR
 have m00 := HX0.out.cell_ 0 (v := vb) rfl
 have m10 := HX0.out.cell_ 1 (v := vf) rfl
 have m20 := HX0.out.cell_ 2 (v := vl) rfl
 have m30 := HX0.out.cell_ 3 (v := .int .i64 m.c.hand) rfl
 have m40 := HX0.out.cell_ 4 (v := .int .i64 m.g.count) rfl
 have m50 := HX0.out.cell_ 5 (v := .int .i64 m.g.next) rfl
 have m60 := HX0.out.cell_ 6 (v := .int .i64 m.g.round) rfl
 have m70 := HX0.out.cell_ 7 (v := vo) rfl
 have m80 := HX0.out.cell_ 8 (v := .int .i64 m.sp) rfl
 go_enter Tryz.func50, Tryz.ntmps50
 go_wp2_with fail
 refine (MachineValid_any vb vf vl vo m _ (HM.out.now HB0.out) (HF.out.now HB0.out)).mono ?_
 rintro e w1 ⟨rfl, hb1⟩
 have HX1 := Lib.hid (HX0.out.below hb1)
 have HK1 := Lib.hid (HK0.out.below hb1)
 have HR1 := Lib.hid (HR0.out.below hb1)
 have HB1 := Lib.hid (bT HB0.out hb1)
 have HS1 := Lib.hid (Nat.le_trans HS0.out hb1.size)
 clear hb1
 clear m00 m10 m20 m30 m40 m50 m60 m70 m80
 cases h1 : mav m with
 | false =>
  have HO : Hid (prgO m s p fs r = none) := prgO_no (fun h => by rw [h1] at h; cases h.1)
  have HA : Hid ((prgO m s p fs r).isSome = false) := by show _ = _; rw [HO.out]; rfl
  have HV : Hid (prgV m s p fs r = maz) := by show _ = _; unfold prgV; rw [HO.out]; rfl
  have r0x := HR1.out.cell_ 0 (v := .slice none 0 0) rfl
  have r1x := HR1.out.cell_ 1 (v := .slice none 0 0) rfl
  have r2x := HR1.out.cell_ 2 (v := .slice none 0 0) rfl
  have r3x := HR1.out.cell_ 3 (v := .int .i64 0) rfl
  have r4x := HR1.out.cell_ 4 (v := .int .i64 0) rfl
  have r5x := HR1.out.cell_ 5 (v := .int .i64 0) rfl
  have r6x := HR1.out.cell_ 6 (v := .int .i64 0) rfl
  have r7x := HR1.out.cell_ 7 (v := .slice none 0 0) rfl
  have r8x := HR1.out.cell_ 8 (v := .int .i64 0) rfl
  have z0x := HR1.out.free 0
  have z1x := HR1.out.free 1
  have z2x := HR1.out.free 2
  have z3x := HR1.out.free 3
  have z4x := HR1.out.free 4
  have z5x := HR1.out.free 5
  have z6x := HR1.out.free 6
  have z7x := HR1.out.free 7
  have z8x := HR1.out.free 8
  go_wp2
  have o3 := ((((((((HR1.out.set_ 0 (.slice none 0 0)).set_ 1 (.slice none 0 0)).set_ 2 (.slice none 0 0)).set_ 3 (.int .i64 0)).set_ 4 (.int .i64 0)).set_ 5 (.int .i64 0)).set_ 6 (.int .i64 0)).set_ 7 (.slice none 0 0)).set_ 8 (.int .i64 0)
  have t0 := o3.cell_ 0 (v := .slice none 0 0) (by simp)
  have t1 := o3.cell_ 1 (v := .slice none 0 0) (by simp)
  have t2 := o3.cell_ 2 (v := .slice none 0 0) (by simp)
  have t3 := o3.cell_ 3 (v := .int .i64 0) (by simp)
  have t4 := o3.cell_ 4 (v := .int .i64 0) (by simp)
  have t5 := o3.cell_ 5 (v := .int .i64 0) (by simp)
  have t6 := o3.cell_ 6 (v := .int .i64 0) (by simp)
  have t7 := o3.cell_ 7 (v := .slice none 0 0) (by simp)
  have t8 := o3.cell_ 8 (v := .int .i64 0) (by simp)
  refine bodyPost_ret (v := .tuple #[.agg #[.slice none 0 0, .slice none 0 0, .slice none 0 0, .int .i64 0, .int .i64 0, .int .i64 0, .int .i64 0, .slice none 0 0, .int .i64 0], .bool false]) (by simp [results, Tryz.results50, go_sem, t0, t1, t2, t3, t4, t5, t6, t7, t8]) rfl ⟨_, rfl, _, _, _, _, by rw [HA.out, HV.out]; rfl, by rw [HV.out]; exact mam_z, ?_⟩
  repeat (refine bS ?_ (by simp <;> omega))
  exact HB1.out
 | true =>
 have k01 := HK1.out.cell_ 0 (v := .int .i64 s) rfl
 have k11 := HK1.out.cell_ 1 (v := .int .i64 p) rfl
 go_wp2_with fail
 refine (keyValid_any s p _).mono ?_
 rintro e w2 ⟨rfl, hb2⟩
 have HX2 := Lib.hid (HX1.out.below hb2)
 have HK2 := Lib.hid (HK1.out.below hb2)
 have HR2 := Lib.hid (HR1.out.below hb2)
 have HB2 := Lib.hid (bT HB1.out hb2)
 have HS2 := Lib.hid (Nat.le_trans HS1.out hb2.size)
 clear hb2
 clear k01 k11
 cases h2k : kval (s, p) with
 | false =>
  have HO : Hid (prgO m s p fs r = none) := by
   show _ = _
   by_cases h : mav m = true ∧ 1 ≤ fs.length ∧ fs.length ≤ 16
   ·rw [prgO_yes h.1 h.2.1 h.2.2]
    cases e : putN s p r fs m fs.length with
    | none => rfl
    | some m' =>
     obtain ⟨j, hj⟩ : ∃ j, fs.length = j + 1 := ⟨fs.length - 1, by omega⟩
     rw [hj] at e
     rw [putN_kval e] at h2k
     cases h2k
   ·exact prgO_no h
  have HA : Hid ((prgO m s p fs r).isSome = false) := by show _ = _; rw [HO.out]; rfl
  have HV : Hid (prgV m s p fs r = maz) := by show _ = _; unfold prgV; rw [HO.out]; rfl
  have r0x := HR2.out.cell_ 0 (v := .slice none 0 0) rfl
  have r1x := HR2.out.cell_ 1 (v := .slice none 0 0) rfl
  have r2x := HR2.out.cell_ 2 (v := .slice none 0 0) rfl
  have r3x := HR2.out.cell_ 3 (v := .int .i64 0) rfl
  have r4x := HR2.out.cell_ 4 (v := .int .i64 0) rfl
  have r5x := HR2.out.cell_ 5 (v := .int .i64 0) rfl
  have r6x := HR2.out.cell_ 6 (v := .int .i64 0) rfl
  have r7x := HR2.out.cell_ 7 (v := .slice none 0 0) rfl
  have r8x := HR2.out.cell_ 8 (v := .int .i64 0) rfl
  have z0x := HR2.out.free 0
  have z1x := HR2.out.free 1
  have z2x := HR2.out.free 2
  have z3x := HR2.out.free 3
  have z4x := HR2.out.free 4
  have z5x := HR2.out.free 5
  have z6x := HR2.out.free 6
  have z7x := HR2.out.free 7
  have z8x := HR2.out.free 8
  go_wp2
  have o3 := ((((((((HR2.out.set_ 0 (.slice none 0 0)).set_ 1 (.slice none 0 0)).set_ 2 (.slice none 0 0)).set_ 3 (.int .i64 0)).set_ 4 (.int .i64 0)).set_ 5 (.int .i64 0)).set_ 6 (.int .i64 0)).set_ 7 (.slice none 0 0)).set_ 8 (.int .i64 0)
  have t0 := o3.cell_ 0 (v := .slice none 0 0) (by simp)
  have t1 := o3.cell_ 1 (v := .slice none 0 0) (by simp)
  have t2 := o3.cell_ 2 (v := .slice none 0 0) (by simp)
  have t3 := o3.cell_ 3 (v := .int .i64 0) (by simp)
  have t4 := o3.cell_ 4 (v := .int .i64 0) (by simp)
  have t5 := o3.cell_ 5 (v := .int .i64 0) (by simp)
  have t6 := o3.cell_ 6 (v := .int .i64 0) (by simp)
  have t7 := o3.cell_ 7 (v := .slice none 0 0) (by simp)
  have t8 := o3.cell_ 8 (v := .int .i64 0) (by simp)
  refine bodyPost_ret (v := .tuple #[.agg #[.slice none 0 0, .slice none 0 0, .slice none 0 0, .int .i64 0, .int .i64 0, .int .i64 0, .int .i64 0, .slice none 0 0, .int .i64 0], .bool false]) (by simp [results, Tryz.results50, go_sem, t0, t1, t2, t3, t4, t5, t6, t7, t8]) rfl ⟨_, rfl, _, _, _, _, by rw [HA.out, HV.out]; rfl, by rw [HV.out]; exact mam_z, ?_⟩
  repeat (refine bS ?_ (by simp <;> omega))
  exact HB2.out
 | true =>
 by_cases h2 : fs.length < 1
 ·have HO : Hid (prgO m s p fs r = none) := prgO_no (fun h => by omega)
  have HA : Hid ((prgO m s p fs r).isSome = false) := by show _ = _; rw [HO.out]; rfl
  have HV : Hid (prgV m s p fs r = maz) := by show _ = _; unfold prgV; rw [HO.out]; rfl
  have r0x := HR2.out.cell_ 0 (v := .slice none 0 0) rfl
  have r1x := HR2.out.cell_ 1 (v := .slice none 0 0) rfl
  have r2x := HR2.out.cell_ 2 (v := .slice none 0 0) rfl
  have r3x := HR2.out.cell_ 3 (v := .int .i64 0) rfl
  have r4x := HR2.out.cell_ 4 (v := .int .i64 0) rfl
  have r5x := HR2.out.cell_ 5 (v := .int .i64 0) rfl
  have r6x := HR2.out.cell_ 6 (v := .int .i64 0) rfl
  have r7x := HR2.out.cell_ 7 (v := .slice none 0 0) rfl
  have r8x := HR2.out.cell_ 8 (v := .int .i64 0) rfl
  have z0x := HR2.out.free 0
  have z1x := HR2.out.free 1
  have z2x := HR2.out.free 2
  have z3x := HR2.out.free 3
  have z4x := HR2.out.free 4
  have z5x := HR2.out.free 5
  have z6x := HR2.out.free 6
  have z7x := HR2.out.free 7
  have z8x := HR2.out.free 8
  go_wp2
  have o3 := ((((((((HR2.out.set_ 0 (.slice none 0 0)).set_ 1 (.slice none 0 0)).set_ 2 (.slice none 0 0)).set_ 3 (.int .i64 0)).set_ 4 (.int .i64 0)).set_ 5 (.int .i64 0)).set_ 6 (.int .i64 0)).set_ 7 (.slice none 0 0)).set_ 8 (.int .i64 0)
  have t0 := o3.cell_ 0 (v := .slice none 0 0) (by simp)
  have t1 := o3.cell_ 1 (v := .slice none 0 0) (by simp)
  have t2 := o3.cell_ 2 (v := .slice none 0 0) (by simp)
  have t3 := o3.cell_ 3 (v := .int .i64 0) (by simp)
  have t4 := o3.cell_ 4 (v := .int .i64 0) (by simp)
  have t5 := o3.cell_ 5 (v := .int .i64 0) (by simp)
  have t6 := o3.cell_ 6 (v := .int .i64 0) (by simp)
  have t7 := o3.cell_ 7 (v := .slice none 0 0) (by simp)
  have t8 := o3.cell_ 8 (v := .int .i64 0) (by simp)
  refine bodyPost_ret (v := .tuple #[.agg #[.slice none 0 0, .slice none 0 0, .slice none 0 0, .int .i64 0, .int .i64 0, .int .i64 0, .int .i64 0, .slice none 0 0, .int .i64 0], .bool false]) (by simp [results, Tryz.results50, go_sem, t0, t1, t2, t3, t4, t5, t6, t7, t8]) rfl ⟨_, rfl, _, _, _, _, by rw [HA.out, HV.out]; rfl, by rw [HV.out]; exact mam_z, ?_⟩
  repeat (refine bS ?_ (by simp <;> omega))
  exact HB2.out
 by_cases h3 : 16 < fs.length
 ·have HO : Hid (prgO m s p fs r = none) := prgO_no (fun h => by omega)
  have HA : Hid ((prgO m s p fs r).isSome = false) := by show _ = _; rw [HO.out]; rfl
  have HV : Hid (prgV m s p fs r = maz) := by show _ = _; unfold prgV; rw [HO.out]; rfl
  have r0x := HR2.out.cell_ 0 (v := .slice none 0 0) rfl
  have r1x := HR2.out.cell_ 1 (v := .slice none 0 0) rfl
  have r2x := HR2.out.cell_ 2 (v := .slice none 0 0) rfl
  have r3x := HR2.out.cell_ 3 (v := .int .i64 0) rfl
  have r4x := HR2.out.cell_ 4 (v := .int .i64 0) rfl
  have r5x := HR2.out.cell_ 5 (v := .int .i64 0) rfl
  have r6x := HR2.out.cell_ 6 (v := .int .i64 0) rfl
  have r7x := HR2.out.cell_ 7 (v := .slice none 0 0) rfl
  have r8x := HR2.out.cell_ 8 (v := .int .i64 0) rfl
  have z0x := HR2.out.free 0
  have z1x := HR2.out.free 1
  have z2x := HR2.out.free 2
  have z3x := HR2.out.free 3
  have z4x := HR2.out.free 4
  have z5x := HR2.out.free 5
  have z6x := HR2.out.free 6
  have z7x := HR2.out.free 7
  have z8x := HR2.out.free 8
  go_wp2
  have o3 := ((((((((HR2.out.set_ 0 (.slice none 0 0)).set_ 1 (.slice none 0 0)).set_ 2 (.slice none 0 0)).set_ 3 (.int .i64 0)).set_ 4 (.int .i64 0)).set_ 5 (.int .i64 0)).set_ 6 (.int .i64 0)).set_ 7 (.slice none 0 0)).set_ 8 (.int .i64 0)
  have t0 := o3.cell_ 0 (v := .slice none 0 0) (by simp)
  have t1 := o3.cell_ 1 (v := .slice none 0 0) (by simp)
  have t2 := o3.cell_ 2 (v := .slice none 0 0) (by simp)
  have t3 := o3.cell_ 3 (v := .int .i64 0) (by simp)
  have t4 := o3.cell_ 4 (v := .int .i64 0) (by simp)
  have t5 := o3.cell_ 5 (v := .int .i64 0) (by simp)
  have t6 := o3.cell_ 6 (v := .int .i64 0) (by simp)
  have t7 := o3.cell_ 7 (v := .slice none 0 0) (by simp)
  have t8 := o3.cell_ 8 (v := .int .i64 0) (by simp)
  refine bodyPost_ret (v := .tuple #[.agg #[.slice none 0 0, .slice none 0 0, .slice none 0 0, .int .i64 0, .int .i64 0, .int .i64 0, .int .i64 0, .slice none 0 0, .int .i64 0], .bool false]) (by simp [results, Tryz.results50, go_sem, t0, t1, t2, t3, t4, t5, t6, t7, t8]) rfl ⟨_, rfl, _, _, _, _, by rw [HA.out, HV.out]; rfl, by rw [HV.out]; exact mam_z, ?_⟩
  repeat (refine bS ?_ (by simp <;> omega))
  exact HB2.out
 have hi1 : 1 ≤ fs.length := by omega
 have hi2 : fs.length ≤ 16 := by omega
 obtain ⟨B1, d1, rfl, _⟩ := HM.out.t.b
 obtain ⟨B2, d2, rfl, _⟩ := HM.out.t.f
 obtain ⟨B3, d3, rfl, _⟩ := HM.out.l
 obtain ⟨B4, d4, rfl, _⟩ := HM.out.o
 have p0m := HX2.out.cell_ 0 (v := .slice B1 m.t.bs.length d1) rfl
 have p1m := HX2.out.cell_ 1 (v := .slice B2 m.t.fs.length d2) rfl
 have p2m := HX2.out.cell_ 2 (v := .slice B3 m.c.ls.length d3) rfl
 have p3m := HX2.out.cell_ 3 (v := .int .i64 m.c.hand) rfl
 have p4m := HX2.out.cell_ 4 (v := .int .i64 m.g.count) rfl
 have p5m := HX2.out.cell_ 5 (v := .int .i64 m.g.next) rfl
 have p6m := HX2.out.cell_ 6 (v := .int .i64 m.g.round) rfl
 have p7m := HX2.out.cell_ 7 (v := .slice B4 m.g.os.length d4) rfl
 have p8m := HX2.out.cell_ 8 (v := .int .i64 m.sp) rfl
 have hkv := kval_iff.1 h2k
 have HO2 := Lib.hid (Own.new_ w2 34 #[.slice B1 m.t.bs.length d1, .slice B2 m.t.fs.length d2, .slice B3 m.c.ls.length d3, .int .i64 m.c.hand, .int .i64 m.g.count, .int .i64 m.g.next, .int .i64 m.g.round, .slice B4 m.g.os.length d4, .int .i64 m.sp])
 have HK3 := Lib.hid (HK2.out.alloc (o := .cells #[.slice B1 m.t.bs.length d1, .slice B2 m.t.fs.length d2, .slice B3 m.c.ls.length d3, .int .i64 m.c.hand, .int .i64 m.g.count, .int .i64 m.g.next, .int .i64 m.g.round, .slice B4 m.g.os.length d4, .int .i64 m.sp] 34))
 have HR3 := Lib.hid (HR2.out.alloc (o := .cells #[.slice B1 m.t.bs.length d1, .slice B2 m.t.fs.length d2, .slice B3 m.c.ls.length d3, .int .i64 m.c.hand, .int .i64 m.g.count, .int .i64 m.g.next, .int .i64 m.g.round, .slice B4 m.g.os.length d4, .int .i64 m.sp] 34))
 have HM3 := Lib.hid (HM.out.now (bA HB2.out (o := .cells #[.slice B1 m.t.bs.length d1, .slice B2 m.t.fs.length d2, .slice B3 m.c.ls.length d3, .int .i64 m.c.hand, .int .i64 m.g.count, .int .i64 m.g.next, .int .i64 m.g.round, .slice B4 m.g.os.length d4, .int .i64 m.sp] 34)))
 have HB3 := Lib.hid (bA HB2.out (o := .cells #[.slice B1 m.t.bs.length d1, .slice B2 m.t.fs.length d2, .slice B3 m.c.ls.length d3, .int .i64 m.c.hand, .int .i64 m.g.count, .int .i64 m.g.next, .int .i64 m.g.round, .slice B4 m.g.os.length d4, .int .i64 m.sp] 34))
 have hgb := HR2.out.lt
 have hs2 := HS2.out
 go_wp2
 clear p0m p1m p2m p3m p4m p5m p6m p7m p8m
 go_loopw [33] (fun u wr => ∃ (k : Nat) (mk : Ma) (c1 c2 c3 c4 : Value), k ≤ fs.length ∧ u = .int .i64 k ∧ Hid (putN s p r fs m k = some mk) ∧ Own wr w2.heap.size 34 #[c1, c2, c3, .int .i64 mk.c.hand, .int .i64 mk.g.count, .int .i64 mk.g.next, .int .i64 mk.g.round, c4, .int .i64 mk.sp] ∧ MaR wr c1 c2 c3 c4 mk ∧ Hid (0 < k → MaM (w.heap.size + 3) wr c1 c2 c3 c4 mk) ∧ Own wr (w.heap.size + 1) 36 #[.int .i64 s, .int .i64 p] ∧ Own wr (w.heap.size + 1 + 1) 34 #[.slice none 0 0, .slice none 0 0, .slice none 0 0, .int .i64 0, .int .i64 0, .int .i64 0, .int .i64 0, .slice none 0 0, .int .i64 0] ∧ Below w.heap.size w wr) (fun u _ => fs.length - (intOf u).toNat)
 case atStart => exact ⟨0, m, _, _, _, _, by omega, rfl, rfl, HO2.out, HM3.out, (fun h => absurd h (by omega)), HK3.out, HR3.out, HB3.out⟩
 case round =>
  obtain ⟨k, mk, c1, c2, c3, c4, hk, rfl, hput, hob, hmk, hmm, hkb, hrb, hbw⟩ := hrel
  have HOB := Lib.hid hob
  have HMK := Lib.hid hmk
  have HKB := Lib.hid hkb
  have HRB := Lib.hid hrb
  have HBW := Lib.hid hbw
  clear hob hmk hkb hrb hbw
  by_cases hlt : k < fs.length
  ·obtain ⟨f, ef⟩ : ∃ f, fs[k]? = some f := ⟨_, List.getElem?_eq_getElem hlt⟩
   have hwk : IntKind.i64.wrap (p + (k : Int)) = p + k := IntWalk.i64_in _ (by omega)
   have EF := Lib.hid ef
   have HC := Lib.hid (PutRange1_any c1 c2 c3 c4 mk k s (p + k) f r gf gr A c fs wr HMK.out (HF.out.now HBW.out) ef (Nat.lt_of_lt_of_le hgf HBW.out.size) (Nat.lt_of_lt_of_le hgr HBW.out.size) ((HBW.out.cell (p := ⟨gf, 0, none⟩) hgf).trans hcf) ((HBW.out.cell (p := ⟨gr, 0, none⟩) hgr).trans hcr) (HRF.out.now (Nat.le_refl _) HBW.out) hi2)
   have p0y := HOB.out.cell_ 0 (v := c1) rfl
   have p1y := HOB.out.cell_ 1 (v := c2) rfl
   have p2y := HOB.out.cell_ 2 (v := c3) rfl
   have p3y := HOB.out.cell_ 3 (v := .int .i64 mk.c.hand) rfl
   have p4y := HOB.out.cell_ 4 (v := .int .i64 mk.g.count) rfl
   have p5y := HOB.out.cell_ 5 (v := .int .i64 mk.g.next) rfl
   have p6y := HOB.out.cell_ 6 (v := .int .i64 mk.g.round) rfl
   have p7y := HOB.out.cell_ 7 (v := c4) rfl
   have p8y := HOB.out.cell_ 8 (v := .int .i64 mk.sp) rfl
   have q0 := HKB.out.cell_ 0 (v := .int .i64 s) rfl
   have q1 := HKB.out.cell_ 1 (v := .int .i64 p) rfl
   clear ef
   go_wp2_with fail
   refine HC.out.mono ?_
   rintro e w5 ⟨_, rfl, e1, e2, e3, e4, rfl, hM5, hb5⟩
   have hsw : w.heap.size + 3 ≤ wr.heap.size := Nat.le_trans hs2 (Nat.le_of_lt HOB.out.lt)
   have HM5 := Lib.hid (hM5.mono hsw)
   obtain ⟨E1, n1, rfl, _⟩ := HM5.out.t.b
   obtain ⟨E2, n2, rfl, _⟩ := HM5.out.t.f
   obtain ⟨E3, n3, rfl, _⟩ := HM5.out.l
   obtain ⟨E4, n4, rfl, _⟩ := HM5.out.o
   have HOB5 := HOB.out.below hb5
   have hgl5 := HOB5.lt
   have hO6 := HOB5.alloc (o := .cells #[.slice E1 (putV mk s (p + k) f r).t.bs.length n1, .slice E2 (putV mk s (p + k) f r).t.fs.length n2, .slice E3 (putV mk s (p + k) f r).c.ls.length n3, .int .i64 (putV mk s (p + k) f r).c.hand, .int .i64 (putV mk s (p + k) f r).g.count, .int .i64 (putV mk s (p + k) f r).g.next, .int .i64 (putV mk s (p + k) f r).g.round, .slice E4 (putV mk s (p + k) f r).g.os.length n4, .int .i64 (putV mk s (p + k) f r).sp] 34)
   have hK6 := (HKB.out.below hb5).alloc (o := .cells #[.slice E1 (putV mk s (p + k) f r).t.bs.length n1, .slice E2 (putV mk s (p + k) f r).t.fs.length n2, .slice E3 (putV mk s (p + k) f r).c.ls.length n3, .int .i64 (putV mk s (p + k) f r).c.hand, .int .i64 (putV mk s (p + k) f r).g.count, .int .i64 (putV mk s (p + k) f r).g.next, .int .i64 (putV mk s (p + k) f r).g.round, .slice E4 (putV mk s (p + k) f r).g.os.length n4, .int .i64 (putV mk s (p + k) f r).sp] 34)
   have hR6 := (HRB.out.below hb5).alloc (o := .cells #[.slice E1 (putV mk s (p + k) f r).t.bs.length n1, .slice E2 (putV mk s (p + k) f r).t.fs.length n2, .slice E3 (putV mk s (p + k) f r).c.ls.length n3, .int .i64 (putV mk s (p + k) f r).c.hand, .int .i64 (putV mk s (p + k) f r).g.count, .int .i64 (putV mk s (p + k) f r).g.next, .int .i64 (putV mk s (p + k) f r).g.round, .slice E4 (putV mk s (p + k) f r).g.os.length n4, .int .i64 (putV mk s (p + k) f r).sp] 34)
   have hN6 := Own.new_ w5 34 #[.slice E1 (putV mk s (p + k) f r).t.bs.length n1, .slice E2 (putV mk s (p + k) f r).t.fs.length n2, .slice E3 (putV mk s (p + k) f r).c.ls.length n3, .int .i64 (putV mk s (p + k) f r).c.hand, .int .i64 (putV mk s (p + k) f r).g.count, .int .i64 (putV mk s (p + k) f r).g.next, .int .i64 (putV mk s (p + k) f r).g.round, .slice E4 (putV mk s (p + k) f r).g.os.length n4, .int .i64 (putV mk s (p + k) f r).sp]
   have hM6 := HM5.out.now (bA (bR (w := w5)) (o := .cells #[.slice E1 (putV mk s (p + k) f r).t.bs.length n1, .slice E2 (putV mk s (p + k) f r).t.fs.length n2, .slice E3 (putV mk s (p + k) f r).c.ls.length n3, .int .i64 (putV mk s (p + k) f r).c.hand, .int .i64 (putV mk s (p + k) f r).g.count, .int .i64 (putV mk s (p + k) f r).g.next, .int .i64 (putV mk s (p + k) f r).g.round, .slice E4 (putV mk s (p + k) f r).g.os.length n4, .int .i64 (putV mk s (p + k) f r).sp] 34))
   have hB6 := bA (bT HBW.out hb5) (o := .cells #[.slice E1 (putV mk s (p + k) f r).t.bs.length n1, .slice E2 (putV mk s (p + k) f r).t.fs.length n2, .slice E3 (putV mk s (p + k) f r).c.ls.length n3, .int .i64 (putV mk s (p + k) f r).c.hand, .int .i64 (putV mk s (p + k) f r).g.count, .int .i64 (putV mk s (p + k) f r).g.next, .int .i64 (putV mk s (p + k) f r).g.round, .slice E4 (putV mk s (p + k) f r).g.os.length n4, .int .i64 (putV mk s (p + k) f r).sp] 34)
   clear p0y p1y p2y p3y p4y p5y p6y p7y p8y q0 q1 hM5 hb5 HOB5
   have hne1 : w2.heap.size ≠ w5.heap.size := by omega
   generalize hW6 : w5.alloc (.cells #[.slice E1 (putV mk s (p + k) f r).t.bs.length n1, .slice E2 (putV mk s (p + k) f r).t.fs.length n2, .slice E3 (putV mk s (p + k) f r).c.ls.length n3, .int .i64 (putV mk s (p + k) f r).c.hand, .int .i64 (putV mk s (p + k) f r).g.count, .int .i64 (putV mk s (p + k) f r).g.next, .int .i64 (putV mk s (p + k) f r).g.round, .slice E4 (putV mk s (p + k) f r).g.os.length n4, .int .i64 (putV mk s (p + k) f r).sp] 34) = w6 at *
   have HO6 := Lib.hid hO6
   have HK6 := Lib.hid hK6
   have HR6 := Lib.hid hR6
   have HN6 := Lib.hid hN6
   have HM6 := Lib.hid hM6
   have HB6 := Lib.hid hB6
   clear hO6 hK6 hR6 hN6 hM6 hB6
   have hl6 := HO6.out.lt
   have hl7 := HR6.out.lt
   have hl8 := HN6.out.lt
   cases hok : putOK mk s (p + k) f r with
   | false =>
    have HO : Hid (prgO m s p fs r = none) := by show _ = _; rw [prgO_yes h1 hi1 hi2]; exact putN_none (putN_bad hput.out EF.out hok) (by omega)
    have HA : Hid ((prgO m s p fs r).isSome = false) := by show _ = _; rw [HO.out]; rfl
    have HV : Hid (prgV m s p fs r = maz) := by show _ = _; unfold prgV; rw [HO.out]; rfl
    have r0x := HR6.out.cell_ 0 (v := .slice none 0 0) rfl
    have r1x := HR6.out.cell_ 1 (v := .slice none 0 0) rfl
    have r2x := HR6.out.cell_ 2 (v := .slice none 0 0) rfl
    have r3x := HR6.out.cell_ 3 (v := .int .i64 0) rfl
    have r4x := HR6.out.cell_ 4 (v := .int .i64 0) rfl
    have r5x := HR6.out.cell_ 5 (v := .int .i64 0) rfl
    have r6x := HR6.out.cell_ 6 (v := .int .i64 0) rfl
    have r7x := HR6.out.cell_ 7 (v := .slice none 0 0) rfl
    have r8x := HR6.out.cell_ 8 (v := .int .i64 0) rfl
    have z0x := HR6.out.free 0
    have z1x := HR6.out.free 1
    have z2x := HR6.out.free 2
    have z3x := HR6.out.free 3
    have z4x := HR6.out.free 4
    have z5x := HR6.out.free 5
    have z6x := HR6.out.free 6
    have z7x := HR6.out.free 7
    have z8x := HR6.out.free 8
    go_wp2
    have o3 := ((((((((HR6.out.set_ 0 (.slice none 0 0)).set_ 1 (.slice none 0 0)).set_ 2 (.slice none 0 0)).set_ 3 (.int .i64 0)).set_ 4 (.int .i64 0)).set_ 5 (.int .i64 0)).set_ 6 (.int .i64 0)).set_ 7 (.slice none 0 0)).set_ 8 (.int .i64 0)
    have t0 := o3.cell_ 0 (v := .slice none 0 0) (by simp)
    have t1 := o3.cell_ 1 (v := .slice none 0 0) (by simp)
    have t2 := o3.cell_ 2 (v := .slice none 0 0) (by simp)
    have t3 := o3.cell_ 3 (v := .int .i64 0) (by simp)
    have t4 := o3.cell_ 4 (v := .int .i64 0) (by simp)
    have t5 := o3.cell_ 5 (v := .int .i64 0) (by simp)
    have t6 := o3.cell_ 6 (v := .int .i64 0) (by simp)
    have t7 := o3.cell_ 7 (v := .slice none 0 0) (by simp)
    have t8 := o3.cell_ 8 (v := .int .i64 0) (by simp)
    refine bodyPost_ret (v := .tuple #[.agg #[.slice none 0 0, .slice none 0 0, .slice none 0 0, .int .i64 0, .int .i64 0, .int .i64 0, .int .i64 0, .slice none 0 0, .int .i64 0], .bool false]) (by simp [results, Tryz.results50, go_sem, t0, t1, t2, t3, t4, t5, t6, t7, t8]) rfl ⟨_, rfl, _, _, _, _, by rw [HA.out, HV.out]; rfl, by rw [HV.out]; exact mam_z, ?_⟩
    repeat (refine bS ?_ (by simp <;> omega))
    exact HB6.out
   | true =>
    have HPUT := Lib.hid (putN_step hput.out EF.out hok)
    have p0z := HO6.out.cell_ 0 (v := c1) rfl
    have p1z := HO6.out.cell_ 1 (v := c2) rfl
    have p2z := HO6.out.cell_ 2 (v := c3) rfl
    have p3z := HO6.out.cell_ 3 (v := .int .i64 mk.c.hand) rfl
    have p4z := HO6.out.cell_ 4 (v := .int .i64 mk.g.count) rfl
    have p5z := HO6.out.cell_ 5 (v := .int .i64 mk.g.next) rfl
    have p6z := HO6.out.cell_ 6 (v := .int .i64 mk.g.round) rfl
    have p7z := HO6.out.cell_ 7 (v := c4) rfl
    have p8z := HO6.out.cell_ 8 (v := .int .i64 mk.sp) rfl
    have w0z := HO6.out.free 0
    have w1z := HO6.out.free 1
    have w2z := HO6.out.free 2
    have w3z := HO6.out.free 3
    have w4z := HO6.out.free 4
    have w5z := HO6.out.free 5
    have w6z := HO6.out.free 6
    have w7z := HO6.out.free 7
    have w8z := HO6.out.free 8
    have p0n := HN6.out.cell_ 0 (v := .slice E1 (putV mk s (p + k) f r).t.bs.length n1) rfl
    have p1n := HN6.out.cell_ 1 (v := .slice E2 (putV mk s (p + k) f r).t.fs.length n2) rfl
    have p2n := HN6.out.cell_ 2 (v := .slice E3 (putV mk s (p + k) f r).c.ls.length n3) rfl
    have p3n := HN6.out.cell_ 3 (v := .int .i64 (putV mk s (p + k) f r).c.hand) rfl
    have p4n := HN6.out.cell_ 4 (v := .int .i64 (putV mk s (p + k) f r).g.count) rfl
    have p5n := HN6.out.cell_ 5 (v := .int .i64 (putV mk s (p + k) f r).g.next) rfl
    have p6n := HN6.out.cell_ 6 (v := .int .i64 (putV mk s (p + k) f r).g.round) rfl
    have p7n := HN6.out.cell_ 7 (v := .slice E4 (putV mk s (p + k) f r).g.os.length n4) rfl
    have p8n := HN6.out.cell_ 8 (v := .int .i64 (putV mk s (p + k) f r).sp) rfl
    go_wp2
    go_roundw
    case rel =>
     refine ⟨k + 1, putV mk s (p + k) f r, _, _, _, _, by omega, by go_num, HPUT, HO6.out.set9 _ _ _ _ _ _ _ _ _, (HM6.out.far9 HO6.out _ _ _ _ _ _ _ _ _).r, (fun _ => HM6.out.far9 HO6.out _ _ _ _ _ _ _ _ _), HK6.out.far9 (by omega) _ _ _ _ _ _ _ _ _, HR6.out.far9 (by omega) _ _ _ _ _ _ _ _ _, ?_⟩
     repeat (refine bS ?_ (by simp <;> omega))
     exact HB6.out
    case measure => simp [intOf]; omega
  ·obtain rfl : k = fs.length := by omega
   have HO : Hid (prgO m s p fs r = some mk) := by show _ = _; rw [prgO_yes h1 hi1 hi2]; exact hput.out
   have HA : Hid ((prgO m s p fs r).isSome = true) := by show _ = _; rw [HO.out]; rfl
   have HV : Hid (prgV m s p fs r = mk) := by show _ = _; unfold prgV; rw [HO.out]; rfl
   have HMM := Lib.hid (hmm.out (by omega))
   obtain ⟨C1, n1, rfl, _⟩ := HMM.out.t.b
   obtain ⟨C2, n2, rfl, _⟩ := HMM.out.t.f
   obtain ⟨C3, n3, rfl, _⟩ := HMM.out.l
   obtain ⟨C4, n4, rfl, _⟩ := HMM.out.o
   have p0z := HOB.out.cell_ 0 (v := .slice C1 mk.t.bs.length n1) rfl
   have p1z := HOB.out.cell_ 1 (v := .slice C2 mk.t.fs.length n2) rfl
   have p2z := HOB.out.cell_ 2 (v := .slice C3 mk.c.ls.length n3) rfl
   have p3z := HOB.out.cell_ 3 (v := .int .i64 mk.c.hand) rfl
   have p4z := HOB.out.cell_ 4 (v := .int .i64 mk.g.count) rfl
   have p5z := HOB.out.cell_ 5 (v := .int .i64 mk.g.next) rfl
   have p6z := HOB.out.cell_ 6 (v := .int .i64 mk.g.round) rfl
   have p7z := HOB.out.cell_ 7 (v := .slice C4 mk.g.os.length n4) rfl
   have p8z := HOB.out.cell_ 8 (v := .int .i64 mk.sp) rfl
   have r0x := HRB.out.cell_ 0 (v := .slice none 0 0) rfl
   have r1x := HRB.out.cell_ 1 (v := .slice none 0 0) rfl
   have r2x := HRB.out.cell_ 2 (v := .slice none 0 0) rfl
   have r3x := HRB.out.cell_ 3 (v := .int .i64 0) rfl
   have r4x := HRB.out.cell_ 4 (v := .int .i64 0) rfl
   have r5x := HRB.out.cell_ 5 (v := .int .i64 0) rfl
   have r6x := HRB.out.cell_ 6 (v := .int .i64 0) rfl
   have r7x := HRB.out.cell_ 7 (v := .slice none 0 0) rfl
   have r8x := HRB.out.cell_ 8 (v := .int .i64 0) rfl
   have z0x := HRB.out.free 0
   have z1x := HRB.out.free 1
   have z2x := HRB.out.free 2
   have z3x := HRB.out.free 3
   have z4x := HRB.out.free 4
   have z5x := HRB.out.free 5
   have z6x := HRB.out.free 6
   have z7x := HRB.out.free 7
   have z8x := HRB.out.free 8
   have hgl := HOB.out.lt
   have hrl := HRB.out.lt
   go_wp2
   have o3 := HRB.out.set9 (.slice C1 mk.t.bs.length n1) (.slice C2 mk.t.fs.length n2) (.slice C3 mk.c.ls.length n3) (.int .i64 mk.c.hand) (.int .i64 mk.g.count) (.int .i64 mk.g.next) (.int .i64 mk.g.round) (.slice C4 mk.g.os.length n4) (.int .i64 mk.sp)
   have p0t := o3.cell_ 0 (v := .slice C1 mk.t.bs.length n1) rfl
   have p1t := o3.cell_ 1 (v := .slice C2 mk.t.fs.length n2) rfl
   have p2t := o3.cell_ 2 (v := .slice C3 mk.c.ls.length n3) rfl
   have p3t := o3.cell_ 3 (v := .int .i64 mk.c.hand) rfl
   have p4t := o3.cell_ 4 (v := .int .i64 mk.g.count) rfl
   have p5t := o3.cell_ 5 (v := .int .i64 mk.g.next) rfl
   have p6t := o3.cell_ 6 (v := .int .i64 mk.g.round) rfl
   have p7t := o3.cell_ 7 (v := .slice C4 mk.g.os.length n4) rfl
   have p8t := o3.cell_ 8 (v := .int .i64 mk.sp) rfl
   refine bodyPost_ret (v := .tuple #[.agg #[.slice C1 mk.t.bs.length n1, .slice C2 mk.t.fs.length n2, .slice C3 mk.c.ls.length n3, .int .i64 mk.c.hand, .int .i64 mk.g.count, .int .i64 mk.g.next, .int .i64 mk.g.round, .slice C4 mk.g.os.length n4, .int .i64 mk.sp], .bool true]) (by simp [results, Tryz.results50, go_sem, p0t, p1t, p2t, p3t, p4t, p5t, p6t, p7t, p8t]) rfl ⟨_, rfl, _, _, _, _, by rw [HA.out, HV.out], ?_, ?_⟩
   ·rw [HV.out]
    exact (HMM.out.far9 HRB.out _ _ _ _ _ _ _ _ _).mono (by omega)
   ·repeat (refine bS ?_ (by simp <;> omega))
    exact HBW.out
end Go.Proofs.YtnaagdmaggdbmaaGreatDoor
