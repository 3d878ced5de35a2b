/- A part of the proofs of this seat: WpS. -/
import Derived.Test.YtnaagdmaggdbmaaGreatDoorQMapI
import Derived.Test.YtnaagdmaggdbmaaGreatDoorQTchP
import Derived.Test.YtnaagdmaggdbmaaGreatDoorQWirS
set_option linter.unusedVariables false
set_option linter.unusedSimpArgs false
namespace Go.Proofs.YtnaagdmaggdbmaaGreatDoor
open Go.RowKit
set_option maxRecDepth 1000000
set_option maxHeartbeats 4000000 in
theorem sWirePage_any (vb vf vl vo : Value) (m : Ma) (p : Int) (w : World) (hM : MaR w vb vf vl vo m) :
    Calls Tryz.prog 181 #[.agg #[vb, vf, vl, .int .i64 m.c.hand, .int .i64 m.g.count, .int .i64 m.g.next, .int .i64 m.g.round, vo, .int .i64 m.sp], .int .i64 p] w (Post2 fun v w' => ∃ v1 v2 v3 v4, v = .tuple #[.agg #[v1, v2, v3, .int .i64 (wpV m p).c.hand, .int .i64 (wpV m p).g.count, .int .i64 (wpV m p).g.next, .int .i64 (wpV m p).g.round, v4, .int .i64 (wpV m p).sp], .bool (wpO m p)] ∧ MaM w.heap.size w' v1 v2 v3 v4 (wpV m p) ∧ Below w.heap.size w w') := by
  have hbx := (Own.new_ w 34 #[vb, vf, vl, .int .i64 m.c.hand, .int .i64 m.g.count, .int .i64 m.g.next, .int .i64 m.g.round, vo, .int .i64 m.sp]).alloc (o := .cells #[.slice none 0 0, .slice none 0 0, .slice none 0 0, .int .i64 0, .int .i64 0, .int .i64 0, .int .i64 0, .slice none 0 0, .int .i64 0] 34)
  have hbo := ownAt (W := w.alloc (.cells #[vb, vf, vl, .int .i64 m.c.hand, .int .i64 m.g.count, .int .i64 m.g.next, .int .i64 m.g.round, vo, .int .i64 m.sp] 34)) (g := w.heap.size + 1) (t := 34) (cs := #[.slice none 0 0, .slice none 0 0, .slice none 0 0, .int .i64 0, .int .i64 0, .int .i64 0, .int .i64 0, .slice none 0 0, .int .i64 0]) (by simp)
  have hb0 : Below w.heap.size w ((w.alloc (.cells #[vb, vf, vl, .int .i64 m.c.hand, .int .i64 m.g.count, .int .i64 m.g.next, .int .i64 m.g.round, vo, .int .i64 m.sp] 34)).alloc (.cells #[.slice none 0 0, .slice none 0 0, .slice none 0 0, .int .i64 0, .int .i64 0, .int .i64 0, .int .i64 0, .slice none 0 0, .int .i64 0] 34)) := bA (bA bR)
  have hs0 : ((w.alloc (.cells #[vb, vf, vl, .int .i64 m.c.hand, .int .i64 m.g.count, .int .i64 m.g.next, .int .i64 m.g.round, vo, .int .i64 m.sp] 34)).alloc (.cells #[.slice none 0 0, .slice none 0 0, .slice none 0 0, .int .i64 0, .int .i64 0, .int .i64 0, .int .i64 0, .slice none 0 0, .int .i64 0] 34)).heap.size = w.heap.size + 2 := by simp
  generalize hW : (w.alloc (.cells #[vb, vf, vl, .int .i64 m.c.hand, .int .i64 m.g.count, .int .i64 m.g.next, .int .i64 m.g.round, vo, .int .i64 m.sp] 34)).alloc (.cells #[.slice none 0 0, .slice none 0 0, .slice none 0 0, .int .i64 0, .int .i64 0, .int .i64 0, .int .i64 0, .slice none 0 0, .int .i64 0] 34) = W0 at hbx hbo hb0 hs0
  have m0q := hbx.cell_ 0 (v := vb) rfl
  have m1q := hbx.cell_ 1 (v := vf) rfl
  have m2q := hbx.cell_ 2 (v := vl) rfl
  have m3q := hbx.cell_ 3 (v := .int .i64 m.c.hand) rfl
  have m4q := hbx.cell_ 4 (v := .int .i64 m.g.count) rfl
  have m5q := hbx.cell_ 5 (v := .int .i64 m.g.next) rfl
  have m6q := hbx.cell_ 6 (v := .int .i64 m.g.round) rfl
  have m7q := hbx.cell_ 7 (v := vo) rfl
  have m8q := hbx.cell_ 8 (v := .int .i64 m.sp) rfl
  have HX0 := Lib.hid hbx
  have HO0 := Lib.hid hbo
  have HB0 := Lib.hid hb0
  have HM := Lib.hid hM
  clear hbx hbo hb0 hM
  clear m0q m1q m2q m3q m4q m5q m6q m7q m8q
  have HS0 : Hid (w.heap.size + 2 ≤ W0.heap.size) := Nat.le_of_eq hs0.symm
  have HR0 := HO0
  have m00 := HX0.out.cell_ 0 (v := vb) rfl
  have m10 := HX0.out.cell_ 1 (v := vf) rfl
  have m20 := HX0.out.cell_ 2 (v := vl) rfl
  have m30 := HX0.out.cell_ 3 (v := .int .i64 m.c.hand) rfl
  have m40 := HX0.out.cell_ 4 (v := .int .i64 m.g.count) rfl
  have m50 := HX0.out.cell_ 5 (v := .int .i64 m.g.next) rfl
  have m60 := HX0.out.cell_ 6 (v := .int .i64 m.g.round) rfl
  have m70 := HX0.out.cell_ 7 (v := vo) rfl
  have m80 := HX0.out.cell_ 8 (v := .int .i64 m.sp) rfl
  go_enter Tryz.func181, Tryz.ntmps181
  go_wp2_with fail
  refine (sTouchPage_any vb vf vl vo m p 0 _ (HM.out.now HB0.out)).mono ?_
  rintro e w1 ⟨_, rfl, q1, q2, q3, q4, rfl, hM1, hb1⟩
  have hM1' := hM1.mono HS0.out
  generalize hTV : tchV m p 0 = V at *
  obtain ⟨B1, d1, rfl, _⟩ := hM1.t.b
  obtain ⟨B2, d2, rfl, _⟩ := hM1.t.f
  obtain ⟨B3, d3, rfl, _⟩ := hM1.l
  obtain ⟨B4, d4, rfl, _⟩ := hM1.o
  have HR1 := Lib.hid (HR0.out.below hb1)
  have HB1 := Lib.hid (bT HB0.out hb1)
  have HS1 := Lib.hid (Nat.le_trans HS0.out hb1.size)
  have ho4 := Own.new_ w1 34 #[.slice B1 V.t.bs.length d1, .slice B2 V.t.fs.length d2, .slice B3 V.c.ls.length d3, .int .i64 V.c.hand, .int .i64 V.g.count, .int .i64 V.g.next, .int .i64 V.g.round, .slice B4 V.g.os.length d4, .int .i64 V.sp]
  have hb4 : Below w1.heap.size w1 (w1.alloc (.cells #[.slice B1 V.t.bs.length d1, .slice B2 V.t.fs.length d2, .slice B3 V.c.ls.length d3, .int .i64 V.c.hand, .int .i64 V.g.count, .int .i64 V.g.next, .int .i64 V.g.round, .slice B4 V.g.os.length d4, .int .i64 V.sp] 34)) := bA bR
  have hgt : w.heap.size + 2 ≤ w1.heap.size := HS1.out
  generalize hW4 : w1.alloc (.cells #[.slice B1 V.t.bs.length d1, .slice B2 V.t.fs.length d2, .slice B3 V.c.ls.length d3, .int .i64 V.c.hand, .int .i64 V.g.count, .int .i64 V.g.next, .int .i64 V.g.round, .slice B4 V.g.os.length d4, .int .i64 V.sp] 34) = w4 at ho4 hb4
  have HM4 := Lib.hid (hM1'.now hb4)
  have HU4 := Lib.hid ho4
  have HR4 := Lib.hid (HR1.out.below hb4)
  have HB4 := Lib.hid (bT HB1.out hb4)
  have HS4 := Lib.hid (Nat.le_trans HS1.out hb4.size)
  clear m00 m10 m20 m30 m40 m50 m60 m70 m80
  clear hM1 hM1' hb1 hb4 ho4
  have hlu := HU4.out.lt
  have hlr := HR4.out.lt
  have HTV := Lib.hid hTV
  clear hTV
  cases h1 : tchO m p 0 with
  | false =>
    have HA : Hid (wpO m p = false) := by show _ = _; unfold wpO; rw [h1]; rfl
    have HV := Lib.hid (wpO_no HA.out)
    have r0x := HR4.out.cell_ 0 (v := .slice none 0 0) rfl
    have r1x := HR4.out.cell_ 1 (v := .slice none 0 0) rfl
    have r2x := HR4.out.cell_ 2 (v := .slice none 0 0) rfl
    have r3x := HR4.out.cell_ 3 (v := .int .i64 0) rfl
    have r4x := HR4.out.cell_ 4 (v := .int .i64 0) rfl
    have r5x := HR4.out.cell_ 5 (v := .int .i64 0) rfl
    have r6x := HR4.out.cell_ 6 (v := .int .i64 0) rfl
    have r7x := HR4.out.cell_ 7 (v := .slice none 0 0) rfl
    have r8x := HR4.out.cell_ 8 (v := .int .i64 0) rfl
    have z0x := HR4.out.free 0
    have z1x := HR4.out.free 1
    have z2x := HR4.out.free 2
    have z3x := HR4.out.free 3
    have z4x := HR4.out.free 4
    have z5x := HR4.out.free 5
    have z6x := HR4.out.free 6
    have z7x := HR4.out.free 7
    have z8x := HR4.out.free 8
    go_wp2
    have o3 := ((((((((HR4.out.set_ 0 (.slice none 0 0)).set_ 1 (.slice none 0 0)).set_ 2 (.slice none 0 0)).set_ 3 (.int .i64 0)).set_ 4 (.int .i64 0)).set_ 5 (.int .i64 0)).set_ 6 (.int .i64 0)).set_ 7 (.slice none 0 0)).set_ 8 (.int .i64 0)
    have t0 := o3.cell_ 0 (v := .slice none 0 0) (by simp)
    have t1 := o3.cell_ 1 (v := .slice none 0 0) (by simp)
    have t2 := o3.cell_ 2 (v := .slice none 0 0) (by simp)
    have t3 := o3.cell_ 3 (v := .int .i64 0) (by simp)
    have t4 := o3.cell_ 4 (v := .int .i64 0) (by simp)
    have t5 := o3.cell_ 5 (v := .int .i64 0) (by simp)
    have t6 := o3.cell_ 6 (v := .int .i64 0) (by simp)
    have t7 := o3.cell_ 7 (v := .slice none 0 0) (by simp)
    have t8 := o3.cell_ 8 (v := .int .i64 0) (by simp)
    refine bodyPost_ret (v := .tuple #[.agg #[.slice none 0 0, .slice none 0 0, .slice none 0 0, .int .i64 0, .int .i64 0, .int .i64 0, .int .i64 0, .slice none 0 0, .int .i64 0], .bool false]) (by simp [results, Tryz.results181, go_sem, t0, t1, t2, t3, t4, t5, t6, t7, t8]) rfl ⟨_, rfl, _, _, _, _, by rw [HA.out, HV.out]; rfl, by rw [HV.out]; exact mam_z, ?_⟩
    repeat (refine bS ?_ (by simp <;> omega))
    exact HB4.out
  | true =>
  by_cases h2 : tchR m p 0 = 3
  · have HA : Hid (wpO m p = false) := by show _ = _; unfold wpO; rw [decide_eq_true h2]; simp
    have HV := Lib.hid (wpO_no HA.out)
    have r0x := HR4.out.cell_ 0 (v := .slice none 0 0) rfl
    have r1x := HR4.out.cell_ 1 (v := .slice none 0 0) rfl
    have r2x := HR4.out.cell_ 2 (v := .slice none 0 0) rfl
    have r3x := HR4.out.cell_ 3 (v := .int .i64 0) rfl
    have r4x := HR4.out.cell_ 4 (v := .int .i64 0) rfl
    have r5x := HR4.out.cell_ 5 (v := .int .i64 0) rfl
    have r6x := HR4.out.cell_ 6 (v := .int .i64 0) rfl
    have r7x := HR4.out.cell_ 7 (v := .slice none 0 0) rfl
    have r8x := HR4.out.cell_ 8 (v := .int .i64 0) rfl
    have z0x := HR4.out.free 0
    have z1x := HR4.out.free 1
    have z2x := HR4.out.free 2
    have z3x := HR4.out.free 3
    have z4x := HR4.out.free 4
    have z5x := HR4.out.free 5
    have z6x := HR4.out.free 6
    have z7x := HR4.out.free 7
    have z8x := HR4.out.free 8
    go_wp2
    have o3 := ((((((((HR4.out.set_ 0 (.slice none 0 0)).set_ 1 (.slice none 0 0)).set_ 2 (.slice none 0 0)).set_ 3 (.int .i64 0)).set_ 4 (.int .i64 0)).set_ 5 (.int .i64 0)).set_ 6 (.int .i64 0)).set_ 7 (.slice none 0 0)).set_ 8 (.int .i64 0)
    have t0 := o3.cell_ 0 (v := .slice none 0 0) (by simp)
    have t1 := o3.cell_ 1 (v := .slice none 0 0) (by simp)
    have t2 := o3.cell_ 2 (v := .slice none 0 0) (by simp)
    have t3 := o3.cell_ 3 (v := .int .i64 0) (by simp)
    have t4 := o3.cell_ 4 (v := .int .i64 0) (by simp)
    have t5 := o3.cell_ 5 (v := .int .i64 0) (by simp)
    have t6 := o3.cell_ 6 (v := .int .i64 0) (by simp)
    have t7 := o3.cell_ 7 (v := .slice none 0 0) (by simp)
    have t8 := o3.cell_ 8 (v := .int .i64 0) (by simp)
    refine bodyPost_ret (v := .tuple #[.agg #[.slice none 0 0, .slice none 0 0, .slice none 0 0, .int .i64 0, .int .i64 0, .int .i64 0, .int .i64 0, .slice none 0 0, .int .i64 0], .bool false]) (by simp [results, Tryz.results181, go_sem, t0, t1, t2, t3, t4, t5, t6, t7, t8]) rfl ⟨_, rfl, _, _, _, _, by rw [HA.out, HV.out]; rfl, by rw [HV.out]; exact mam_z, ?_⟩
    repeat (refine bS ?_ (by simp <;> omega))
    exact HB4.out
  have h2b : (tchR m p 0 == 3) = false := by rw [beq_eq_false_iff_ne]; exact h2
  by_cases h3 : p < 128
  · have HA : Hid (wpO m p = false) := by show _ = _; unfold wpO; rw [decide_eq_false (show ¬ 128 ≤ p by omega)]; simp
    have HV := Lib.hid (wpO_no HA.out)
    have r0x := HR4.out.cell_ 0 (v := .slice none 0 0) rfl
    have r1x := HR4.out.cell_ 1 (v := .slice none 0 0) rfl
    have r2x := HR4.out.cell_ 2 (v := .slice none 0 0) rfl
    have r3x := HR4.out.cell_ 3 (v := .int .i64 0) rfl
    have r4x := HR4.out.cell_ 4 (v := .int .i64 0) rfl
    have r5x := HR4.out.cell_ 5 (v := .int .i64 0) rfl
    have r6x := HR4.out.cell_ 6 (v := .int .i64 0) rfl
    have r7x := HR4.out.cell_ 7 (v := .slice none 0 0) rfl
    have r8x := HR4.out.cell_ 8 (v := .int .i64 0) rfl
    have z0x := HR4.out.free 0
    have z1x := HR4.out.free 1
    have z2x := HR4.out.free 2
    have z3x := HR4.out.free 3
    have z4x := HR4.out.free 4
    have z5x := HR4.out.free 5
    have z6x := HR4.out.free 6
    have z7x := HR4.out.free 7
    have z8x := HR4.out.free 8
    go_wp2
    have o3 := ((((((((HR4.out.set_ 0 (.slice none 0 0)).set_ 1 (.slice none 0 0)).set_ 2 (.slice none 0 0)).set_ 3 (.int .i64 0)).set_ 4 (.int .i64 0)).set_ 5 (.int .i64 0)).set_ 6 (.int .i64 0)).set_ 7 (.slice none 0 0)).set_ 8 (.int .i64 0)
    have t0 := o3.cell_ 0 (v := .slice none 0 0) (by simp)
    have t1 := o3.cell_ 1 (v := .slice none 0 0) (by simp)
    have t2 := o3.cell_ 2 (v := .slice none 0 0) (by simp)
    have t3 := o3.cell_ 3 (v := .int .i64 0) (by simp)
    have t4 := o3.cell_ 4 (v := .int .i64 0) (by simp)
    have t5 := o3.cell_ 5 (v := .int .i64 0) (by simp)
    have t6 := o3.cell_ 6 (v := .int .i64 0) (by simp)
    have t7 := o3.cell_ 7 (v := .slice none 0 0) (by simp)
    have t8 := o3.cell_ 8 (v := .int .i64 0) (by simp)
    refine bodyPost_ret (v := .tuple #[.agg #[.slice none 0 0, .slice none 0 0, .slice none 0 0, .int .i64 0, .int .i64 0, .int .i64 0, .int .i64 0, .slice none 0 0, .int .i64 0], .bool false]) (by simp [results, Tryz.results181, go_sem, t0, t1, t2, t3, t4, t5, t6, t7, t8]) rfl ⟨_, rfl, _, _, _, _, by rw [HA.out, HV.out]; rfl, by rw [HV.out]; exact mam_z, ?_⟩
    repeat (refine bS ?_ (by simp <;> omega))
    exact HB4.out
  have u2 := HU4.out.cell_ 2 (v := .slice B3 V.c.ls.length d3) rfl
  have u3 := HU4.out.cell_ 3 (v := .int .i64 V.c.hand) rfl
  have HN2 := Lib.hid h2
  have HN3 := Lib.hid h3
  clear h2
  go_wp2
  refine wp_region_rel1 (by kernel_rfl) [32, 33, 34, 35, 36, 37, 38, 31, 39, 40, 10, 11] [32, 33, 34, 35, 36, 37, 38, 31, 39, 40, 10, 10, 11] (fun v => Below w4.heap.size w4 v)
    (kds (S := stS 29 2) (si := 11) [KD.eq (.pointer (some ⟨w1.heap.size, 2, none⟩)), KD.eq (.agg #[.slice B3 V.c.ls.length d3, .int .i64 V.c.hand]), KD.eq (.pointer (some ⟨w1.heap.size, 2, none⟩)), KD.eq (.agg #[.slice B3 V.c.ls.length d3, .int .i64 V.c.hand]), KD.eq (.int .i64 p), KD.eq (.int .i64 (plcI V.c.ls (-1) p)),
      KD.row lnE 106 w4.heap.size (wirV V.c (plcI V.c.ls (-1) p) true).ls (by decide) (fun v1 => .tuple #[.agg #[v1, .int .i64 (wirV V.c (plcI V.c.ls (-1) p) true).hand], .bool (wirOK V.c (plcI V.c.ls (-1) p) true)]),
      KD.row lnE 106 w4.heap.size (wirV V.c (plcI V.c.ls (-1) p) true).ls (by decide) (fun v1 => .tuple #[.agg #[v1, .int .i64 (wirV V.c (plcI V.c.ls (-1) p) true).hand], .bool (wirOK V.c (plcI V.c.ls (-1) p) true)]),
      KD.row lnE 106 w4.heap.size (wirV V.c (plcI V.c.ls (-1) p) true).ls (by decide) (fun v1 => .agg #[v1, .int .i64 (wirV V.c (plcI V.c.ls (-1) p) true).hand]),
      KD.eq (.bool (wirOK V.c (plcI V.c.ls (-1) p) true)), KD.box w4.heap.size,
      KD.boxed lnE 106 w4.heap.size (wirV V.c (plcI V.c.ls (-1) p) true).ls (fun v1 => #[v1, .int .i64 (wirV V.c (plcI V.c.ls (-1) p) true).hand]),
      KD.eq (.bool (wirOK V.c (plcI V.c.ls (-1) p) true))]) (tK (stS 29 2) 11) (by kernel_rfl) rfl (bD bR)
    (fun i j x v v' hij h ht => kds_keep hij h ht) ?_ ?_
  · intro i o ho x v hC hd K hK
    match i, ho with
    | 0, ho =>
      simp only [List.getElem?_toArray, List.getElem?_cons_zero, List.getElem?_cons_succ, Option.some.injEq] at ho
      subst ho
      simp only [fillA, Act.put, List.setIfInBounds_toArray, List.set_cons_zero, List.set_cons_succ] at hK ⊢
      go_simp
      exact hK _ _ (tK_same (stS_same _ _)) hC rfl
    | 1, ho =>
      simp only [List.getElem?_toArray, List.getElem?_cons_zero, List.getElem?_cons_succ, Option.some.injEq] at ho
      subst ho
      simp only [fillA, Act.put, List.setIfInBounds_toArray, List.set_cons_zero, List.set_cons_succ] at hK ⊢
      have d0 := hd 0 ⟨⟨0, .data⟩, by simp, rfl, rfl⟩ (by decide)
      change x 32 = .pointer (some ⟨w1.heap.size, 2, none⟩) at d0
      have z2 := (HU4.out.below hC).cell_ 2 (v := .slice B3 V.c.ls.length d3) rfl
      have z3 := (HU4.out.below hC).cell_ 3 (v := .int .i64 V.c.hand) rfl
      simp only [d0] at hK ⊢
      go_simp
      exact hK _ _ (tK_same (stS_same _ _)) hC rfl
    | 2, ho =>
      simp only [List.getElem?_toArray, List.getElem?_cons_zero, List.getElem?_cons_succ, Option.some.injEq] at ho
      subst ho
      simp only [fillA, Act.put, List.setIfInBounds_toArray, List.set_cons_zero, List.set_cons_succ] at hK ⊢
      go_simp
      exact hK _ _ (tK_same (stS_same _ _)) hC rfl
    | 3, ho =>
      simp only [List.getElem?_toArray, List.getElem?_cons_zero, List.getElem?_cons_succ, Option.some.injEq] at ho
      subst ho
      simp only [fillA, Act.put, List.setIfInBounds_toArray, List.set_cons_zero, List.set_cons_succ] at hK ⊢
      have d0 := hd 2 ⟨⟨2, .data⟩, by simp, rfl, rfl⟩ (by decide)
      change x 34 = .pointer (some ⟨w1.heap.size, 2, none⟩) at d0
      have z2 := (HU4.out.below hC).cell_ 2 (v := .slice B3 V.c.ls.length d3) rfl
      have z3 := (HU4.out.below hC).cell_ 3 (v := .int .i64 V.c.hand) rfl
      simp only [d0] at hK ⊢
      go_simp
      exact hK _ _ (tK_same (stS_same _ _)) hC rfl
    | 4, ho =>
      simp only [List.getElem?_toArray, List.getElem?_cons_zero, List.getElem?_cons_succ, Option.some.injEq] at ho
      subst ho
      simp only [fillA, Act.put, List.setIfInBounds_toArray, List.set_cons_zero, List.set_cons_succ] at hK ⊢
      go_simp
      exact hK _ _ (tK_same (stS_same _ _)) hC rfl
    | 5, ho =>
      simp only [List.getElem?_toArray, List.getElem?_cons_zero, List.getElem?_cons_succ, Option.some.injEq] at ho
      subst ho
      simp only [fillA, Act.put, List.setIfInBounds_toArray, List.set_cons_zero, List.set_cons_succ] at hK ⊢
      have d3 := hd 3 ⟨⟨3, .data⟩, by simp, rfl, rfl⟩ (by decide)
      change x 35 = .agg #[.slice B3 V.c.ls.length _, .int .i64 V.c.hand] at d3
      have d4 := hd 4 ⟨⟨4, .data⟩, by simp, rfl, rfl⟩ (by decide)
      change x 36 = .int .i64 p at d4
      simp only [d3, d4] at hK ⊢
      go_wp2_with fail
      refine (l4Find_any _ V.c (-1) p _ ((HM4.out.l.now hC).r)).mono ?_
      rintro e v' ⟨rfl, hb⟩
      go_simp
      exact hK _ _ (tK_below (by decide) hb) (bT hC hb) rfl
    | 6, ho =>
      simp only [List.getElem?_toArray, List.getElem?_cons_zero, List.getElem?_cons_succ, Option.some.injEq] at ho
      subst ho
      simp only [fillA, Act.put, List.setIfInBounds_toArray, List.set_cons_zero, List.set_cons_succ] at hK ⊢
      have d1 := hd 1 ⟨⟨1, .data⟩, by simp, rfl, rfl⟩ (by decide)
      change x 33 = .agg #[.slice B3 V.c.ls.length _, .int .i64 V.c.hand] at d1
      have d5 := hd 5 ⟨⟨5, .data⟩, by simp, rfl, rfl⟩ (by decide)
      change x 37 = .int .i64 (plcI V.c.ls (-1) p) at d5
      simp only [d1, d5] at hK ⊢
      go_wp2_with fail
      refine (sWireLine_any _ V.c (plcI V.c.ls (-1) p) true _ ((HM4.out.l.now hC).r)).mono ?_
      rintro e v' ⟨_, rfl, v1, rfl, hL, hb⟩
      go_simp
      exact hK _ _ (tK_below (by decide) hb) (bT hC hb) ⟨_, rfl, hL.mono hC.size⟩
    | 7, ho =>
      simp only [List.getElem?_toArray, List.getElem?_cons_zero, List.getElem?_cons_succ, Option.some.injEq] at ho
      subst ho
      simp only [fillA, Act.put, List.setIfInBounds_toArray, List.set_cons_zero, List.set_cons_succ] at hK ⊢
      have d6 := hd 6 ⟨⟨6, .data⟩, by simp, rfl, rfl⟩ (by decide)
      obtain ⟨v1, d6, hL⟩ := d6
      change x 38 = _ at d6
      simp only [d6] at hK ⊢
      go_simp
      exact hK _ _ (tK_same (stS_same _ _)) hC ⟨_, rfl, hL⟩
    | 8, ho =>
      simp only [List.getElem?_toArray, List.getElem?_cons_zero, List.getElem?_cons_succ, Option.some.injEq] at ho
      subst ho
      simp only [fillA, Act.put, List.setIfInBounds_toArray, List.set_cons_zero, List.set_cons_succ] at hK ⊢
      have d6 := hd 7 ⟨⟨7, .data⟩, by simp, rfl, rfl⟩ (by decide)
      obtain ⟨v1, d6, hL⟩ := d6
      change x 31 = _ at d6
      simp only [d6] at hK ⊢
      go_simp
      exact hK _ _ (tK_same (stS_same _ _)) hC ⟨_, rfl, hL⟩
    | 9, ho =>
      simp only [List.getElem?_toArray, List.getElem?_cons_zero, List.getElem?_cons_succ, Option.some.injEq] at ho
      subst ho
      simp only [fillA, Act.put, List.setIfInBounds_toArray, List.set_cons_zero, List.set_cons_succ] at hK ⊢
      have d6 := hd 7 ⟨⟨7, .data⟩, by simp, rfl, rfl⟩ (by decide)
      obtain ⟨v1, d6, hL⟩ := d6
      change x 31 = _ at d6
      simp only [d6] at hK ⊢
      go_simp
      exact hK _ _ (tK_same (stS_same _ _)) hC rfl
    | 10, ho =>
      simp only [List.getElem?_toArray, List.getElem?_cons_zero, List.getElem?_cons_succ, Option.some.injEq] at ho
      subst ho
      simp only [fillA, Act.put, List.setIfInBounds_toArray, List.set_cons_zero, List.set_cons_succ] at hK ⊢
      go_simp
      exact hK _ _ (tK_below (by decide) (bA bR)) (bA hC) ⟨_, _, rfl, hC.size, rfl, Own.new_ _ _ _⟩
    | 11, ho =>
      simp only [List.getElem?_toArray, List.getElem?_cons_zero, List.getElem?_cons_succ, Option.some.injEq] at ho
      subst ho
      simp only [fillA, Act.put, List.setIfInBounds_toArray, List.set_cons_zero, List.set_cons_succ] at hK ⊢
      have d10 := hd 10 ⟨⟨10, .data⟩, by simp, rfl, rfl⟩ (by decide)
      obtain ⟨g, cs, d10, hg, hcs, ho⟩ := d10
      have d8 := hd 8 ⟨⟨8, .data⟩, by simp, rfl, rfl⟩ (by decide)
      obtain ⟨v1, d8, hL⟩ := d8
      change x 10 = _ at d10
      change x 39 = _ at d8
      have hL' := hL
      obtain ⟨A9, n9, rfl, _⟩ := hL'
      obtain ⟨cs⟩ := cs
      match cs, hcs with
      | [c0, c1], _ =>
        have z0 := ho.cell_ 0 (v := c0) rfl
        have z1 := ho.cell_ 1 (v := c1) rfl
        have y0 := ho.free 0
        have y1 := ho.free 1
        simp only [d8, d10] at hK ⊢
        go_simp
        have hst := stS_trans (n := 2) (stS_set (n := 2) (i := 0) (u := .slice A9 (wirV V.c (plcI V.c.ls (-1) p) true).ls.length n9) ho) (stS_set (n := 2) (i := 1) (u := .int .i64 (wirV V.c (plcI V.c.ls (-1) p) true).hand) (ho.set_ 0 (.slice A9 (wirV V.c (plcI V.c.ls (-1) p) true).ls.length n9)))
        refine hK undef _ (tK_store hst) ?_ ⟨rfl, g, _, d10, hg, (ho.set_ 0 (.slice A9 (wirV V.c (plcI V.c.ls (-1) p) true).ls.length n9)).set_ 1 _, hL.oth hst.1 (by decide)⟩
        refine bS (bS hC ?_) ?_
        · exact hg
        · exact hg
    | 12, ho =>
      simp only [List.getElem?_toArray, List.getElem?_cons_zero, List.getElem?_cons_succ, Option.some.injEq] at ho
      subst ho
      simp only [fillA, Act.put, List.setIfInBounds_toArray, List.set_cons_zero, List.set_cons_succ] at hK ⊢
      have d9 := hd 9 ⟨⟨9, .data⟩, by simp, rfl, rfl⟩ (by decide)
      change x 40 = .bool (wirOK V.c (plcI V.c.ls (-1) p) true) at d9
      simp only [d9] at hK ⊢
      go_simp
      exact hK _ _ (tK_same (stS_same _ _)) hC rfl
    | _ + 13, ho => simp at ho
  intro x w5 hC hd
  obtain ⟨_, gc, v1, dS, hgc, hoc, hLc⟩ := hd 11 (by decide)
  have dL := hd 12 (by decide)
  change x 10 = _ at dS
  change x 11 = .bool (wirOK V.c (plcI V.c.ls (-1) p) true) at dL
  simp only [fillA, Act.put, List.setIfInBounds_toArray, List.set_cons_zero, List.set_cons_succ, dS, dL]
  have HM5 := Lib.hid (HM4.out.now hC)
  have HU5 := Lib.hid (HU4.out.below hC)
  have HR5 := Lib.hid (HR4.out.below hC)
  have HB5 := Lib.hid (bT HB4.out hC)
  have HL5 := Lib.hid (hLc.mono (show w.heap.size + 2 ≤ w4.heap.size from HS4.out))
  obtain ⟨A9, n9, rfl, _⟩ := hLc
  have HC5 := Lib.hid hoc
  clear hd dS dL hoc u2 u3 hlu hlr
  have hWI : wpI m p = plcI V.c.ls (-1) p := by unfold wpI wpC; rw [HTV.out]
  have hWC : wpC m p = V.c := by unfold wpC; rw [HTV.out]
  have h2' : ¬ tchR m p 0 = 3 := HN2.out
  have h3' : 128 ≤ p := by have := HN3.out; omega
  have hWO : wpO m p = wirOK V.c (plcI V.c.ls (-1) p) true := by unfold wpO; rw [h1, decide_eq_false h2', decide_eq_true h3', hWC, hWI]; rfl
  have HWO := Lib.hid hWO
  cases hok : wirOK V.c (plcI V.c.ls (-1) p) true with
  | false =>
    have HA : Hid (wpO m p = false) := by show _ = _; rw [HWO.out, hok]
    have HV := Lib.hid (wpO_no HA.out)
    have hlr := HR5.out.lt
    clear hWI hWC h2' h3' hWO
    have r0x := HR5.out.cell_ 0 (v := .slice none 0 0) rfl
    have r1x := HR5.out.cell_ 1 (v := .slice none 0 0) rfl
    have r2x := HR5.out.cell_ 2 (v := .slice none 0 0) rfl
    have r3x := HR5.out.cell_ 3 (v := .int .i64 0) rfl
    have r4x := HR5.out.cell_ 4 (v := .int .i64 0) rfl
    have r5x := HR5.out.cell_ 5 (v := .int .i64 0) rfl
    have r6x := HR5.out.cell_ 6 (v := .int .i64 0) rfl
    have r7x := HR5.out.cell_ 7 (v := .slice none 0 0) rfl
    have r8x := HR5.out.cell_ 8 (v := .int .i64 0) rfl
    have z0x := HR5.out.free 0
    have z1x := HR5.out.free 1
    have z2x := HR5.out.free 2
    have z3x := HR5.out.free 3
    have z4x := HR5.out.free 4
    have z5x := HR5.out.free 5
    have z6x := HR5.out.free 6
    have z7x := HR5.out.free 7
    have z8x := HR5.out.free 8
    go_wp2
    have o3 := ((((((((HR5.out.set_ 0 (.slice none 0 0)).set_ 1 (.slice none 0 0)).set_ 2 (.slice none 0 0)).set_ 3 (.int .i64 0)).set_ 4 (.int .i64 0)).set_ 5 (.int .i64 0)).set_ 6 (.int .i64 0)).set_ 7 (.slice none 0 0)).set_ 8 (.int .i64 0)
    have t0 := o3.cell_ 0 (v := .slice none 0 0) (by simp)
    have t1 := o3.cell_ 1 (v := .slice none 0 0) (by simp)
    have t2 := o3.cell_ 2 (v := .slice none 0 0) (by simp)
    have t3 := o3.cell_ 3 (v := .int .i64 0) (by simp)
    have t4 := o3.cell_ 4 (v := .int .i64 0) (by simp)
    have t5 := o3.cell_ 5 (v := .int .i64 0) (by simp)
    have t6 := o3.cell_ 6 (v := .int .i64 0) (by simp)
    have t7 := o3.cell_ 7 (v := .slice none 0 0) (by simp)
    have t8 := o3.cell_ 8 (v := .int .i64 0) (by simp)
    refine bodyPost_ret (v := .tuple #[.agg #[.slice none 0 0, .slice none 0 0, .slice none 0 0, .int .i64 0, .int .i64 0, .int .i64 0, .int .i64 0, .slice none 0 0, .int .i64 0], .bool false]) (by simp [results, Tryz.results181, go_sem, t0, t1, t2, t3, t4, t5, t6, t7, t8]) rfl ⟨_, rfl, _, _, _, _, by rw [HA.out, HV.out]; rfl, by rw [HV.out]; exact mam_z, ?_⟩
    repeat (refine bS ?_ (by simp <;> omega))
    exact HB5.out
  | true =>
    have HA : Hid (wpO m p = true) := by show _ = _; rw [HWO.out, hok]
    have HV : Hid (wpV m p = { V with c := wirV V.c (plcI V.c.ls (-1) p) true }) := by
      show _ = _
      unfold wpV
      rw [HA.out, if_pos rfl, HTV.out, hWC, hWI, wirOK_true hok]
    clear hWI hWC h2' h3' hWO
    generalize wirV V.c (plcI V.c.ls (-1) p) true = C at *
    have c0 := HC5.out.cell_ 0 (v := .slice A9 C.ls.length n9) rfl
    have c1 := HC5.out.cell_ 1 (v := .int .i64 C.hand) rfl
    have hlc := HC5.out.lt
    have r0x := HR5.out.cell_ 0 (v := .slice none 0 0) rfl
    have r1x := HR5.out.cell_ 1 (v := .slice none 0 0) rfl
    have r2x := HR5.out.cell_ 2 (v := .slice none 0 0) rfl
    have r3x := HR5.out.cell_ 3 (v := .int .i64 0) rfl
    have r4x := HR5.out.cell_ 4 (v := .int .i64 0) rfl
    have r5x := HR5.out.cell_ 5 (v := .int .i64 0) rfl
    have r6x := HR5.out.cell_ 6 (v := .int .i64 0) rfl
    have r7x := HR5.out.cell_ 7 (v := .slice none 0 0) rfl
    have r8x := HR5.out.cell_ 8 (v := .int .i64 0) rfl
    have z0x := HR5.out.free 0
    have z1x := HR5.out.free 1
    have z2x := HR5.out.free 2
    have z3x := HR5.out.free 3
    have z4x := HR5.out.free 4
    have z5x := HR5.out.free 5
    have z6x := HR5.out.free 6
    have z7x := HR5.out.free 7
    have z8x := HR5.out.free 8
    have p0o := HU5.out.cell_ 0 (v := .slice B1 V.t.bs.length d1) rfl
    have p1o := HU5.out.cell_ 1 (v := .slice B2 V.t.fs.length d2) rfl
    have p2o := HU5.out.cell_ 2 (v := .slice B3 V.c.ls.length d3) rfl
    have p3o := HU5.out.cell_ 3 (v := .int .i64 V.c.hand) rfl
    have p4o := HU5.out.cell_ 4 (v := .int .i64 V.g.count) rfl
    have p5o := HU5.out.cell_ 5 (v := .int .i64 V.g.next) rfl
    have p6o := HU5.out.cell_ 6 (v := .int .i64 V.g.round) rfl
    have p7o := HU5.out.cell_ 7 (v := .slice B4 V.g.os.length d4) rfl
    have p8o := HU5.out.cell_ 8 (v := .int .i64 V.sp) rfl
    have g2 := HU5.out.free 2
    have g3 := HU5.out.free 3
    have hlr := HR5.out.lt
    have hlu := HU5.out.lt
    have hrn : w.heap.size + 1 ≠ w1.heap.size := by omega
    have hrm : w1.heap.size ≠ w.heap.size + 1 := by omega
    have hcn : gc ≠ w1.heap.size := HC5.out.ne HU5.out (by decide)
    have hcm : w1.heap.size ≠ gc := fun h => hcn h.symm
    go_wp2
    have g1 := (HR5.out.far (p := ⟨w1.heap.size, 2, none⟩) (u := .slice A9 C.ls.length n9) hrn).far (p := ⟨w1.heap.size, 3, none⟩) (u := .int .i64 C.hand) hrn
    have hmm : MaM (w.heap.size + 2) w5 (.slice B1 V.t.bs.length d1) (.slice B2 V.t.fs.length d2) (.slice A9 C.ls.length n9) (.slice B4 V.g.os.length d4) { V with c := C } := ⟨HM5.out.t, HL5.out, HM5.out.o⟩
    have hmm2 := (hmm.farT (u := .slice A9 C.ls.length n9) (i := 2) HU5.out).farT (u := .int .i64 C.hand) (i := 3) (HU5.out.set_ 2 (.slice A9 C.ls.length n9))
    have o3 := g1.set9 (.slice B1 V.t.bs.length d1) (.slice B2 V.t.fs.length d2) (.slice A9 C.ls.length n9) (.int .i64 C.hand) (.int .i64 V.g.count) (.int .i64 V.g.next) (.int .i64 V.g.round) (.slice B4 V.g.os.length d4) (.int .i64 V.sp)
    have p0t := o3.cell_ 0 (v := .slice B1 V.t.bs.length d1) rfl
    have p1t := o3.cell_ 1 (v := .slice B2 V.t.fs.length d2) rfl
    have p2t := o3.cell_ 2 (v := .slice A9 C.ls.length n9) rfl
    have p3t := o3.cell_ 3 (v := .int .i64 ({ V with c := C } : Ma).c.hand) rfl
    have p4t := o3.cell_ 4 (v := .int .i64 ({ V with c := C } : Ma).g.count) rfl
    have p5t := o3.cell_ 5 (v := .int .i64 ({ V with c := C } : Ma).g.next) rfl
    have p6t := o3.cell_ 6 (v := .int .i64 ({ V with c := C } : Ma).g.round) rfl
    have p7t := o3.cell_ 7 (v := .slice B4 V.g.os.length d4) rfl
    have p8t := o3.cell_ 8 (v := .int .i64 ({ V with c := C } : Ma).sp) rfl
    refine bodyPost_ret (v := .tuple #[.agg #[.slice B1 V.t.bs.length d1, .slice B2 V.t.fs.length d2, .slice A9 C.ls.length n9, .int .i64 ({ V with c := C } : Ma).c.hand, .int .i64 ({ V with c := C } : Ma).g.count, .int .i64 ({ V with c := C } : Ma).g.next, .int .i64 ({ V with c := C } : Ma).g.round, .slice B4 V.g.os.length d4, .int .i64 ({ V with c := C } : Ma).sp], .bool true]) (by simp [results, Tryz.results181, go_sem, p0t, p1t, p2t, p3t, p4t, p5t, p6t, p7t, p8t]) rfl ⟨_, rfl, _, _, _, _, by (rw [HA.out, HV.out]) <;> rfl, ?_, ?_⟩
    · rw [HV.out]
      exact (hmm2.far9 g1 _ _ _ _ _ _ _ _ _).mono (by omega)
    · repeat (refine bS ?_ (by simp <;> omega))
      exact HB5.out
end Go.Proofs.YtnaagdmaggdbmaaGreatDoor
