/- A part of the proofs of this seat: LTak. -/
import Derived.Test.YtkmocongdkacjaaGreatDoorKI
import Derived.Test.YtkmocongdkacjaaGreatDoorKD
set_option linter.unusedVariables false
set_option linter.unusedSimpArgs false
/- the walk of FnExactTakeRange, for any contracts of its two functions (printed by genlaw2.py) -/
namespace Go.Proofs.YtkmocongdkacjaaGreatDoor.lExactTakeRange
open Go.RowKit
set_option linter.unusedVariables false
set_option maxRecDepth 1000000
set_option maxHeartbeats 4000000 in
theorem walk0 (vb vf vl vo : Value) (m V : Ma) (s p : Int) (a0 : Int) (X0 : Bool) (w : World) (hM : MaR w vb vf vl vo m) (hfree : Free w) (hV : smallM V)
    (hS : ∀ (e1 e2 e3 e4 : Value) (W : World), MaR W e1 e2 e3 e4 m → Calls Tryz.prog 33 #[.agg #[e1, e2, e3, .int .i64 m.c.hand, .int .i64 m.g.count, .int .i64 m.g.next, .int .i64 m.g.round, e4, .int .i64 m.sp], .agg #[.int .i64 s, .int .i64 p], .int .i64 a0] W (Post2 fun v w' => ∃ v1 v2 v3 v4, v = .tuple #[.agg #[v1, v2, v3, .int .i64 V.c.hand, .int .i64 V.g.count, .int .i64 V.g.next, .int .i64 V.g.round, v4, .int .i64 V.sp], .bool X0] ∧ MaM W.heap.size w' v1 v2 v3 v4 V ∧ Below W.heap.size W w'))
    (hI : ∀ (e1 e2 e3 e4 : Value) (W : World), MaR W e1 e2 e3 e4 m → Free W → Calls Tryz.prog 32 #[.agg #[e1, e2, e3, .int .i64 m.c.hand, .int .i64 m.g.count, .int .i64 m.g.next, .int .i64 m.g.round, e4, .int .i64 m.sp], .agg #[.int .i64 s, .int .i64 p], .int .i64 a0] W (Post2 fun v w' => ∃ v1 v2 v3 v4, v = .tuple #[.agg #[v1, v2, v3, .int .i64 V.c.hand, .int .i64 V.g.count, .int .i64 V.g.next, .int .i64 V.g.round, v4, .int .i64 V.sp], .bool X0] ∧ MaM W.heap.size w' v1 v2 v3 v4 V ∧ Below W.heap.size W w')) :
    Calls Tryz.prog 9 #[.agg #[vb, vf, vl, .int .i64 m.c.hand, .int .i64 m.g.count, .int .i64 m.g.next, .int .i64 m.g.round, vo, .int .i64 m.sp], .agg #[.int .i64 s, .int .i64 p], .int .i64 a0] w fun e w' => e = .returned (.bool true) ∧ Below w.heap.size w w' := by
  obtain ⟨A1, c1, rfl, l1, l1', q1⟩ := hM.t.b
  obtain ⟨A2, c2, rfl, l2, l2', q2⟩ := hM.t.f
  obtain ⟨A3, c3, rfl, l3, l3', q3⟩ := hM.l
  obtain ⟨A4, c4, rfl, l4, l4', q4⟩ := hM.o
  have n1 : m.t.bs.length ≤ 9223372036854775807 := by simp only [maxLen] at l1'; omega
  have n2 : m.t.fs.length ≤ 9223372036854775807 := by simp only [maxLen] at l2'; omega
  have n3 : m.c.ls.length ≤ 9223372036854775807 := by simp only [maxLen] at l3'; omega
  have n4 : m.g.os.length ≤ 9223372036854775807 := by simp only [maxLen] at l4'; omega
  have HM := Lib.hid hM
  have HF := Lib.hid hfree
  have HSP := Lib.hid hS
  have HIM := Lib.hid hI
  clear hM hfree hS hI l1 l1' q1 l2 l2' q2 l3 l3' q3 l4 l4' q4
  have hx := (Own.new_ w 53 #[.slice A1 m.t.bs.length c1, .slice A2 m.t.fs.length c2, .slice A3 m.c.ls.length c3, .int .i64 m.c.hand, .int .i64 m.g.count, .int .i64 m.g.next, .int .i64 m.g.round, .slice A4 m.g.os.length c4, .int .i64 m.sp]).alloc (o := .cells #[.int .i64 s, .int .i64 p] 54)
  have hk := ownAt (W := w.alloc (.cells #[.slice A1 m.t.bs.length c1, .slice A2 m.t.fs.length c2, .slice A3 m.c.ls.length c3, .int .i64 m.c.hand, .int .i64 m.g.count, .int .i64 m.g.next, .int .i64 m.g.round, .slice A4 m.g.os.length c4, .int .i64 m.sp] 53)) (g := w.heap.size + 1) (t := 54) (cs := #[.int .i64 s, .int .i64 p]) (by simp)
  have hb0 : Below w.heap.size w ((w.alloc (.cells #[.slice A1 m.t.bs.length c1, .slice A2 m.t.fs.length c2, .slice A3 m.c.ls.length c3, .int .i64 m.c.hand, .int .i64 m.g.count, .int .i64 m.g.next, .int .i64 m.g.round, .slice A4 m.g.os.length c4, .int .i64 m.sp] 53)).alloc (.cells #[.int .i64 s, .int .i64 p] 54)) := bA (bA bR)
  generalize hW0 : (w.alloc (.cells #[.slice A1 m.t.bs.length c1, .slice A2 m.t.fs.length c2, .slice A3 m.c.ls.length c3, .int .i64 m.c.hand, .int .i64 m.g.count, .int .i64 m.g.next, .int .i64 m.g.round, .slice A4 m.g.os.length c4, .int .i64 m.sp] 53)).alloc (.cells #[.int .i64 s, .int .i64 p] 54) = W0 at hx hk hb0
  have HX0 := Lib.hid hx
  have HK0 := Lib.hid hk
  have HB0 := Lib.hid hb0
  clear hx hk hb0
  have x0 := (HX0.out).cell_ 0 (v := .slice A1 m.t.bs.length c1) rfl
  have x1 := (HX0.out).cell_ 1 (v := .slice A2 m.t.fs.length c2) rfl
  have x2 := (HX0.out).cell_ 2 (v := .slice A3 m.c.ls.length c3) rfl
  have x3 := (HX0.out).cell_ 3 (v := .int .i64 m.c.hand) rfl
  have x4 := (HX0.out).cell_ 4 (v := .int .i64 m.g.count) rfl
  have x5 := (HX0.out).cell_ 5 (v := .int .i64 m.g.next) rfl
  have x6 := (HX0.out).cell_ 6 (v := .int .i64 m.g.round) rfl
  have x7 := (HX0.out).cell_ 7 (v := .slice A4 m.g.os.length c4) rfl
  have x8 := (HX0.out).cell_ 8 (v := .int .i64 m.sp) rfl
  by_cases hsz : (1048576 : Int) < (m.t.bs.length : Int) + m.t.fs.length + m.c.ls.length + m.g.os.length
  · have HS : Hid (szOf m.t.bs.length m.t.fs.length m.c.ls.length m.g.os.length = -1) := if_pos hsz
    go_enter Tryz.func9, Tryz.ntmps9
    go_wp2_with fail
    refine (szMachine_any _ _ _ _ _ _ _ _ _ _ _ _ _ _ _ _ _ _ n1 n2 n3 n4).mono ?_
    rintro e w1 ⟨rfl, hb1⟩
    rw [HS.out]
    have HB1 := Lib.hid (bT HB0.out hb1)
    clear hb1
    go_wp2
    go_ret
    exact ⟨rfl, HB1.out⟩
  have HS : Hid (szOf m.t.bs.length m.t.fs.length m.c.ls.length m.g.os.length = 1048576 - m.t.bs.length - m.t.fs.length - m.c.ls.length - m.g.os.length) := if_neg hsz
  have hnn : ¬ (1048576 : Int) - m.t.bs.length - m.t.fs.length - m.c.ls.length - m.g.os.length < 0 := by omega
  go_enter Tryz.func9, Tryz.ntmps9
  go_wp2_with fail
  refine (szMachine_any _ _ _ _ _ _ _ _ _ _ _ _ _ _ _ _ _ _ n1 n2 n3 n4).mono ?_
  rintro e w1 ⟨rfl, hb1⟩
  rw [HS.out]
  have HB1 := Lib.hid (bT HB0.out hb1)
  have HX1 := Lib.hid (HX0.out.below hb1)
  have HK1 := Lib.hid (HK0.out.below hb1)
  clear hb1 x0 x1 x2 x3 x4 x5 x6 x7 x8
  go_wp2_with fail
  refine wp_region_rel1 (by kernel_rfl) [24, 25, 26, 27, 28, 29, 23, 30, 31, 8, 9] [24, 25, 26, 27, 28, 29, 23, 30, 31, 8, 8, 9] (fun v => Below w1.heap.size w1 v)
    (rls w1.heap.size 10 [RL.eq (.agg #[.slice A1 m.t.bs.length c1, .slice A2 m.t.fs.length c2, .slice A3 m.c.ls.length c3, .int .i64 m.c.hand, .int .i64 m.g.count, .int .i64 m.g.next, .int .i64 m.g.round, .slice A4 m.g.os.length c4, .int .i64 m.sp]), RL.ma m, RL.eq (.agg #[.int .i64 s, .int .i64 p]), RL.eq (.agg #[.int .i64 s, .int .i64 p]), RL.eq (.int .i64 a0), RL.tup V [.bool X0], RL.tup V [.bool X0], RL.ma V, RL.eq (.bool X0), RL.box, RL.boxed V, RL.eq (.bool X0)]) (tA 10) (by kernel_rfl) rfl (bD bR)
    (fun i j x v v' hij h ht => rls_keep hij h ht) ?_ ?_
  · intro i o ho x v hC hd K hK
    match i, ho with
    | 0, ho =>
      simp only [List.getElem?_toArray, List.getElem?_cons_zero, List.getElem?_cons_succ, Option.some.injEq] at ho
      subst ho
      simp only [fillA, Act.put, List.setIfInBounds_toArray, List.set_cons_zero, List.set_cons_succ] at hK ⊢
      have z0 := (HX1.out.below hC).cell_ 0 (v := .slice A1 m.t.bs.length c1) rfl
      have z1 := (HX1.out.below hC).cell_ 1 (v := .slice A2 m.t.fs.length c2) rfl
      have z2 := (HX1.out.below hC).cell_ 2 (v := .slice A3 m.c.ls.length c3) rfl
      have z3 := (HX1.out.below hC).cell_ 3 (v := .int .i64 m.c.hand) rfl
      have z4 := (HX1.out.below hC).cell_ 4 (v := .int .i64 m.g.count) rfl
      have z5 := (HX1.out.below hC).cell_ 5 (v := .int .i64 m.g.next) rfl
      have z6 := (HX1.out.below hC).cell_ 6 (v := .int .i64 m.g.round) rfl
      have z7 := (HX1.out.below hC).cell_ 7 (v := .slice A4 m.g.os.length c4) rfl
      have z8 := (HX1.out.below hC).cell_ 8 (v := .int .i64 m.sp) rfl
      go_simp
      exact hK _ _ tA_same hC rfl
    | 1, ho =>
      simp only [List.getElem?_toArray, List.getElem?_cons_zero, List.getElem?_cons_succ, Option.some.injEq] at ho
      subst ho
      simp only [fillA, Act.put, List.setIfInBounds_toArray, List.set_cons_zero, List.set_cons_succ] at hK ⊢
      have d0 := hd 0 ⟨⟨0, .data⟩, by simp, rfl, rfl⟩ (by decide)
      change x 24 = .agg #[.slice A1 m.t.bs.length c1, .slice A2 m.t.fs.length c2, .slice A3 m.c.ls.length c3, .int .i64 m.c.hand, .int .i64 m.g.count, .int .i64 m.g.next, .int .i64 m.g.round, .slice A4 m.g.os.length c4, .int .i64 m.sp] at d0
      simp only [d0] at hK ⊢
      go_wp2_with fail
      refine (toMachine_any _ _ _ _ m _ (HM.out.now (bT HB1.out hC)) (by omega) (by omega) (by omega) (by omega)).mono ?_
      rintro e v' ⟨_, rfl, f1, f2, f3, f4, rfl, hm1, hb⟩
      go_simp
      exact hK _ _ (tA_below (by decide) hb) (bT hC hb) ⟨_, _, _, _, rfl, hm1.mono hC.size⟩
    | 2, ho =>
      simp only [List.getElem?_toArray, List.getElem?_cons_zero, List.getElem?_cons_succ, Option.some.injEq] at ho
      subst ho
      simp only [fillA, Act.put, List.setIfInBounds_toArray, List.set_cons_zero, List.set_cons_succ] at hK ⊢
      have z0 := (HK1.out.below hC).cell_ 0 (v := .int .i64 s) rfl
      have z1 := (HK1.out.below hC).cell_ 1 (v := .int .i64 p) rfl
      go_simp
      exact hK _ _ tA_same hC rfl
    | 3, ho =>
      simp only [List.getElem?_toArray, List.getElem?_cons_zero, List.getElem?_cons_succ, Option.some.injEq] at ho
      subst ho
      simp only [fillA, Act.put, List.setIfInBounds_toArray, List.set_cons_zero, List.set_cons_succ] at hK ⊢
      have d2 := hd 2 ⟨⟨2, .data⟩, by simp, rfl, rfl⟩ (by decide)
      change x 26 = .agg #[.int .i64 s, .int .i64 p] at d2
      simp only [d2] at hK ⊢
      go_wp2_with fail
      refine (toKey_any _ _ _).mono ?_
      rintro e v' ⟨rfl, hb⟩
      go_simp
      exact hK _ _ (tA_below (by decide) hb) (bT hC hb) rfl
    | 4, ho =>
      simp only [List.getElem?_toArray, List.getElem?_cons_zero, List.getElem?_cons_succ, Option.some.injEq] at ho
      subst ho
      simp only [fillA, Act.put, List.setIfInBounds_toArray, List.set_cons_zero, List.set_cons_succ] at hK ⊢
      go_simp
      exact hK _ _ tA_same hC rfl
    | 5, ho =>
      simp only [List.getElem?_toArray, List.getElem?_cons_zero, List.getElem?_cons_succ, Option.some.injEq] at ho
      subst ho
      simp only [fillA, Act.put, List.setIfInBounds_toArray, List.set_cons_zero, List.set_cons_succ] at hK ⊢
      have d0 := hd 1 ⟨⟨1, .data⟩, by simp, rfl, rfl⟩ (by decide)
      have d1 := hd 3 ⟨⟨3, .data⟩, by simp, rfl, rfl⟩ (by decide)
      change x 27 = .agg #[.int .i64 s, .int .i64 p] at d1
      have d2 := hd 4 ⟨⟨4, .data⟩, by simp, rfl, rfl⟩ (by decide)
      change x 28 = .int .i64 a0 at d2
      obtain ⟨e1, e2, e3, e4, d0, hm1⟩ := d0
      change x 25 = _ at d0
      simp only [d0, d1, d2] at hK ⊢
      go_wp2_with fail
      refine (HSP.out _ _ _ _ _ hm1.r).mono ?_
      rintro e v' ⟨_, rfl, f1, f2, f3, f4, rfl, hm2, hb⟩
      go_simp
      exact hK _ _ (tA_below (by decide) hb) (bT hC hb) ⟨_, _, _, _, rfl, hm2.mono hC.size⟩
    | 6, ho =>
      simp only [List.getElem?_toArray, List.getElem?_cons_zero, List.getElem?_cons_succ, Option.some.injEq] at ho
      subst ho
      simp only [fillA, Act.put, List.setIfInBounds_toArray, List.set_cons_zero, List.set_cons_succ] at hK ⊢
      have d7 := hd 5 ⟨⟨5, .data⟩, by simp, rfl, rfl⟩ (by decide)
      obtain ⟨e1, e2, e3, e4, d7, hm1⟩ := d7
      change x 29 = _ at d7
      simp only [d7] at hK ⊢
      go_simp
      exact hK _ _ tA_same hC ⟨_, _, _, _, rfl, hm1⟩
    | 7, ho =>
      simp only [List.getElem?_toArray, List.getElem?_cons_zero, List.getElem?_cons_succ, Option.some.injEq] at ho
      subst ho
      simp only [fillA, Act.put, List.setIfInBounds_toArray, List.set_cons_zero, List.set_cons_succ] at hK ⊢
      have d7 := hd 6 ⟨⟨6, .data⟩, by simp, rfl, rfl⟩ (by decide)
      obtain ⟨e1, e2, e3, e4, d7, hm1⟩ := d7
      change x 23 = _ at d7
      simp only [d7] at hK ⊢
      go_simp
      exact hK _ _ tA_same hC ⟨_, _, _, _, rfl, hm1⟩
    | 8, ho =>
      simp only [List.getElem?_toArray, List.getElem?_cons_zero, List.getElem?_cons_succ, Option.some.injEq] at ho
      subst ho
      simp only [fillA, Act.put, List.setIfInBounds_toArray, List.set_cons_zero, List.set_cons_succ] at hK ⊢
      have d7 := hd 6 ⟨⟨6, .data⟩, by simp, rfl, rfl⟩ (by decide)
      obtain ⟨e1, e2, e3, e4, d7, hm1⟩ := d7
      change x 23 = _ at d7
      simp only [d7] at hK ⊢
      go_simp
      exact hK _ _ tA_same hC rfl
    | 9, ho =>
      simp only [List.getElem?_toArray, List.getElem?_cons_zero, List.getElem?_cons_succ, Option.some.injEq] at ho
      subst ho
      simp only [fillA, Act.put, List.setIfInBounds_toArray, List.set_cons_zero, List.set_cons_succ] at hK ⊢
      go_simp
      exact hK _ _ (tA_below (by decide) (bA bR)) (bA hC) ⟨_, _, _, _, _, _, _, _, _, _, rfl, hC.size, Own.new_ _ _ _⟩
    | 10, ho =>
      simp only [List.getElem?_toArray, List.getElem?_cons_zero, List.getElem?_cons_succ, Option.some.injEq] at ho
      subst ho
      simp only [fillA, Act.put, List.setIfInBounds_toArray, List.set_cons_zero, List.set_cons_succ] at hK ⊢
      have d11 := hd 9 ⟨⟨9, .data⟩, by simp, rfl, rfl⟩ (by decide)
      have d9 := hd 7 ⟨⟨7, .data⟩, by simp, rfl, rfl⟩ (by decide)
      obtain ⟨g, q0, q1, q2, q3, q4, q5, q6, q7, q8, d11, hg, ho⟩ := d11
      obtain ⟨e1, e2, e3, e4, d9, hm1⟩ := d9
      change x 8 = _ at d11
      change x 30 = _ at d9
      obtain ⟨E1, n1, rfl, _⟩ := hm1.t.b
      obtain ⟨E2, n2, rfl, _⟩ := hm1.t.f
      obtain ⟨E3, n3, rfl, _⟩ := hm1.l
      obtain ⟨E4, n4, rfl, _⟩ := hm1.o
      have z0 := ho.cell_ 0 (v := q0) rfl
      have y0 := ho.free 0
      have z1 := ho.cell_ 1 (v := q1) rfl
      have y1 := ho.free 1
      have z2 := ho.cell_ 2 (v := q2) rfl
      have y2 := ho.free 2
      have z3 := ho.cell_ 3 (v := q3) rfl
      have y3 := ho.free 3
      have z4 := ho.cell_ 4 (v := q4) rfl
      have y4 := ho.free 4
      have z5 := ho.cell_ 5 (v := q5) rfl
      have y5 := ho.free 5
      have z6 := ho.cell_ 6 (v := q6) rfl
      have y6 := ho.free 6
      have z7 := ho.cell_ 7 (v := q7) rfl
      have y7 := ho.free 7
      have z8 := ho.cell_ 8 (v := q8) rfl
      have y8 := ho.free 8
      simp only [d9, d11] at hK ⊢
      go_simp
      have ht := tA_store (si := 10) ho (.slice E1 V.t.bs.length n1) (.slice E2 V.t.fs.length n2) (.slice E3 V.c.ls.length n3) (.int .i64 V.c.hand) (.int .i64 V.g.count) (.int .i64 V.g.next) (.int .i64 V.g.round) (.slice E4 V.g.os.length n4) (.int .i64 V.sp)
      refine hK undef _ ht ?_ ⟨rfl, g, _, _, _, _, d11, hg, ho.set9 _ _ _ _ _ _ _ _ _, hm1.othM ht.oth⟩
      repeat (refine bS ?_ (by exact hg))
      exact hC
    | 11, ho =>
      simp only [List.getElem?_toArray, List.getElem?_cons_zero, List.getElem?_cons_succ, Option.some.injEq] at ho
      subst ho
      simp only [fillA, Act.put, List.setIfInBounds_toArray, List.set_cons_zero, List.set_cons_succ] at hK ⊢
      have d8 := hd 8 ⟨⟨8, .data⟩, by simp, rfl, rfl⟩ (by decide)
      change x 31 = .bool X0 at d8
      simp only [d8] at hK ⊢
      go_simp
      exact hK _ _ tA_same hC rfl
    | _ + 12, ho => simp at ho
  intro xa w2 hC hd
  obtain ⟨_, ga, e1a, e2a, e3a, e4a, dS, hga, ho, hm⟩ := hd 10 (by decide)
  change xa 8 = _ at dS
  have dL0 := hd 11 (by decide)
  change xa 9 = .bool X0 at dL0
  simp only [fillA, Act.put, List.setIfInBounds_toArray, List.set_cons_zero, List.set_cons_succ, dS, dL0]
  have HOa := Lib.hid ho
  have HMMa := Lib.hid hm
  have HCa := Lib.hid hC
  clear hd dS dL0 ho hm hC
  have HB2 := Lib.hid (bT HB1.out HCa.out)
  have HX2 := Lib.hid (HX1.out.below HCa.out)
  have HK2 := Lib.hid (HK1.out.below HCa.out)
  clear HX1 HK1
  have x0 := (HX2.out).cell_ 0 (v := .slice A1 m.t.bs.length c1) rfl
  have x1 := (HX2.out).cell_ 1 (v := .slice A2 m.t.fs.length c2) rfl
  have x2 := (HX2.out).cell_ 2 (v := .slice A3 m.c.ls.length c3) rfl
  have x3 := (HX2.out).cell_ 3 (v := .int .i64 m.c.hand) rfl
  have x4 := (HX2.out).cell_ 4 (v := .int .i64 m.g.count) rfl
  have x5 := (HX2.out).cell_ 5 (v := .int .i64 m.g.next) rfl
  have x6 := (HX2.out).cell_ 6 (v := .int .i64 m.g.round) rfl
  have x7 := (HX2.out).cell_ 7 (v := .slice A4 m.g.os.length c4) rfl
  have x8 := (HX2.out).cell_ 8 (v := .int .i64 m.sp) rfl
  go_wp2_with fail
  refine (toMachine_any _ _ _ _ m _ (HM.out.now HB2.out) (by omega) (by omega) (by omega) (by omega)).mono ?_
  rintro e w3 ⟨_, rfl, f1, f2, f3, f4, rfl, hm3, hb3⟩
  obtain ⟨F1, k1, rfl, _⟩ := hm3.t.b
  obtain ⟨F2, k2, rfl, _⟩ := hm3.t.f
  obtain ⟨F3, k3, rfl, _⟩ := hm3.l
  obtain ⟨F4, k4, rfl, _⟩ := hm3.o
  clear x0 x1 x2 x3 x4 x5 x6 x7 x8
  have ho4 := Own.new_ w3 34 #[.slice F1 m.t.bs.length k1, .slice F2 m.t.fs.length k2, .slice F3 m.c.ls.length k3, .int .i64 m.c.hand, .int .i64 m.g.count, .int .i64 m.g.next, .int .i64 m.g.round, .slice F4 m.g.os.length k4, .int .i64 m.sp]
  have hm4 := hm3.now (w' := w3.alloc (.cells #[.slice F1 m.t.bs.length k1, .slice F2 m.t.fs.length k2, .slice F3 m.c.ls.length k3, .int .i64 m.c.hand, .int .i64 m.g.count, .int .i64 m.g.next, .int .i64 m.g.round, .slice F4 m.g.os.length k4, .int .i64 m.sp] 34)) (bA bR)
  have hb4 : Below w2.heap.size w2 (w3.alloc (.cells #[.slice F1 m.t.bs.length k1, .slice F2 m.t.fs.length k2, .slice F3 m.c.ls.length k3, .int .i64 m.c.hand, .int .i64 m.g.count, .int .i64 m.g.next, .int .i64 m.g.round, .slice F4 m.g.os.length k4, .int .i64 m.sp] 34)) := bA hb3
  have hs4 : w3.heap.size < (w3.alloc (.cells #[.slice F1 m.t.bs.length k1, .slice F2 m.t.fs.length k2, .slice F3 m.c.ls.length k3, .int .i64 m.c.hand, .int .i64 m.g.count, .int .i64 m.g.next, .int .i64 m.g.round, .slice F4 m.g.os.length k4, .int .i64 m.sp] 34)).heap.size := by simp
  have hc3 := hb3.size
  generalize hW4 : w3.alloc (.cells #[.slice F1 m.t.bs.length k1, .slice F2 m.t.fs.length k2, .slice F3 m.c.ls.length k3, .int .i64 m.c.hand, .int .i64 m.g.count, .int .i64 m.g.next, .int .i64 m.g.round, .slice F4 m.g.os.length k4, .int .i64 m.sp] 34) = w5 at ho4 hm4 hb4 hs4
  have HO5 := Lib.hid ho4
  have HM5 := Lib.hid hm4
  have HD5 := Lib.hid hb4
  have HS4 := Lib.hid hs4
  have HS3 := Lib.hid hc3
  have HB5 := Lib.hid (bT HB2.out hb4)
  have HK5 := Lib.hid (HK2.out.below hb4)
  have I1 := Lib.hid hm4.t.b.mine
  have I2 := Lib.hid hm4.t.f.mine
  have I3 := Lib.hid hm4.l.mine
  have I4 := Lib.hid hm4.o.mine
  clear ho4 hm4 hb4 hs4 hm3 hb3 hc3
  go_wp2_with fail
  refine wp_region_rel1 (by kernel_rfl) [35, 36, 37, 38, 39, 34, 40, 41, 11, 12] [35, 36, 37, 38, 39, 34, 40, 41, 11, 11, 12] (fun v => Below w5.heap.size w5 v)
    (rls w5.heap.size 9 [RL.eq (.agg #[.slice F1 m.t.bs.length k1, .slice F2 m.t.fs.length k2, .slice F3 m.c.ls.length k3, .int .i64 m.c.hand, .int .i64 m.g.count, .int .i64 m.g.next, .int .i64 m.g.round, .slice F4 m.g.os.length k4, .int .i64 m.sp]), RL.eq (.agg #[.int .i64 s, .int .i64 p]), RL.eq (.agg #[.int .i64 s, .int .i64 p]), RL.eq (.int .i64 a0), RL.tup V [.bool X0], RL.tup V [.bool X0], RL.ma V, RL.eq (.bool X0), RL.box, RL.boxed V, RL.eq (.bool X0)]) (tA 9) (by kernel_rfl) rfl (bD bR)
    (fun i j x v v' hij h ht => rls_keep hij h ht) ?_ ?_
  · intro i o ho x v hC hd K hK
    match i, ho with
    | 0, ho =>
      simp only [List.getElem?_toArray, List.getElem?_cons_zero, List.getElem?_cons_succ, Option.some.injEq] at ho
      subst ho
      simp only [fillA, Act.put, List.setIfInBounds_toArray, List.set_cons_zero, List.set_cons_succ] at hK ⊢
      have z0 := (HO5.out.below hC).cell_ 0 (v := .slice F1 m.t.bs.length k1) rfl
      have z1 := (HO5.out.below hC).cell_ 1 (v := .slice F2 m.t.fs.length k2) rfl
      have z2 := (HO5.out.below hC).cell_ 2 (v := .slice F3 m.c.ls.length k3) rfl
      have z3 := (HO5.out.below hC).cell_ 3 (v := .int .i64 m.c.hand) rfl
      have z4 := (HO5.out.below hC).cell_ 4 (v := .int .i64 m.g.count) rfl
      have z5 := (HO5.out.below hC).cell_ 5 (v := .int .i64 m.g.next) rfl
      have z6 := (HO5.out.below hC).cell_ 6 (v := .int .i64 m.g.round) rfl
      have z7 := (HO5.out.below hC).cell_ 7 (v := .slice F4 m.g.os.length k4) rfl
      have z8 := (HO5.out.below hC).cell_ 8 (v := .int .i64 m.sp) rfl
      go_simp
      exact hK _ _ tA_same hC rfl
    | 1, ho =>
      simp only [List.getElem?_toArray, List.getElem?_cons_zero, List.getElem?_cons_succ, Option.some.injEq] at ho
      subst ho
      simp only [fillA, Act.put, List.setIfInBounds_toArray, List.set_cons_zero, List.set_cons_succ] at hK ⊢
      have z0 := (HK5.out.below hC).cell_ 0 (v := .int .i64 s) rfl
      have z1 := (HK5.out.below hC).cell_ 1 (v := .int .i64 p) rfl
      go_simp
      exact hK _ _ tA_same hC rfl
    | 2, ho =>
      simp only [List.getElem?_toArray, List.getElem?_cons_zero, List.getElem?_cons_succ, Option.some.injEq] at ho
      subst ho
      simp only [fillA, Act.put, List.setIfInBounds_toArray, List.set_cons_zero, List.set_cons_succ] at hK ⊢
      have d2 := hd 1 ⟨⟨1, .data⟩, by simp, rfl, rfl⟩ (by decide)
      change x 36 = .agg #[.int .i64 s, .int .i64 p] at d2
      simp only [d2] at hK ⊢
      go_wp2_with fail
      refine (toKey_any _ _ _).mono ?_
      rintro e v' ⟨rfl, hb⟩
      go_simp
      exact hK _ _ (tA_below (by decide) hb) (bT hC hb) rfl
    | 3, ho =>
      simp only [List.getElem?_toArray, List.getElem?_cons_zero, List.getElem?_cons_succ, Option.some.injEq] at ho
      subst ho
      simp only [fillA, Act.put, List.setIfInBounds_toArray, List.set_cons_zero, List.set_cons_succ] at hK ⊢
      go_simp
      exact hK _ _ tA_same hC rfl
    | 4, ho =>
      simp only [List.getElem?_toArray, List.getElem?_cons_zero, List.getElem?_cons_succ, Option.some.injEq] at ho
      subst ho
      simp only [fillA, Act.put, List.setIfInBounds_toArray, List.set_cons_zero, List.set_cons_succ] at hK ⊢
      have d0 := hd 0 ⟨⟨0, .data⟩, by simp, rfl, rfl⟩ (by decide)
      change x 35 = .agg #[.slice F1 m.t.bs.length k1, .slice F2 m.t.fs.length k2, .slice F3 m.c.ls.length k3, .int .i64 m.c.hand, .int .i64 m.g.count, .int .i64 m.g.next, .int .i64 m.g.round, .slice F4 m.g.os.length k4, .int .i64 m.sp] at d0
      have d1 := hd 2 ⟨⟨2, .data⟩, by simp, rfl, rfl⟩ (by decide)
      change x 37 = .agg #[.int .i64 s, .int .i64 p] at d1
      have d2 := hd 3 ⟨⟨3, .data⟩, by simp, rfl, rfl⟩ (by decide)
      change x 38 = .int .i64 a0 at d2
      simp only [d0, d1, d2] at hK ⊢
      go_wp2_with fail
      refine (HIM.out _ _ _ _ _ (HM5.out.now hC).r (HF.out.now (bT HB5.out hC))).mono ?_
      rintro e v' ⟨_, rfl, f1, f2, f3, f4, rfl, hm2, hb⟩
      go_simp
      exact hK _ _ (tA_below (by decide) hb) (bT hC hb) ⟨_, _, _, _, rfl, hm2.mono hC.size⟩
    | 5, ho =>
      simp only [List.getElem?_toArray, List.getElem?_cons_zero, List.getElem?_cons_succ, Option.some.injEq] at ho
      subst ho
      simp only [fillA, Act.put, List.setIfInBounds_toArray, List.set_cons_zero, List.set_cons_succ] at hK ⊢
      have d7 := hd 4 ⟨⟨4, .data⟩, by simp, rfl, rfl⟩ (by decide)
      obtain ⟨e1, e2, e3, e4, d7, hm1⟩ := d7
      change x 39 = _ at d7
      simp only [d7] at hK ⊢
      go_simp
      exact hK _ _ tA_same hC ⟨_, _, _, _, rfl, hm1⟩
    | 6, ho =>
      simp only [List.getElem?_toArray, List.getElem?_cons_zero, List.getElem?_cons_succ, Option.some.injEq] at ho
      subst ho
      simp only [fillA, Act.put, List.setIfInBounds_toArray, List.set_cons_zero, List.set_cons_succ] at hK ⊢
      have d7 := hd 5 ⟨⟨5, .data⟩, by simp, rfl, rfl⟩ (by decide)
      obtain ⟨e1, e2, e3, e4, d7, hm1⟩ := d7
      change x 34 = _ at d7
      simp only [d7] at hK ⊢
      go_simp
      exact hK _ _ tA_same hC ⟨_, _, _, _, rfl, hm1⟩
    | 7, ho =>
      simp only [List.getElem?_toArray, List.getElem?_cons_zero, List.getElem?_cons_succ, Option.some.injEq] at ho
      subst ho
      simp only [fillA, Act.put, List.setIfInBounds_toArray, List.set_cons_zero, List.set_cons_succ] at hK ⊢
      have d7 := hd 5 ⟨⟨5, .data⟩, by simp, rfl, rfl⟩ (by decide)
      obtain ⟨e1, e2, e3, e4, d7, hm1⟩ := d7
      change x 34 = _ at d7
      simp only [d7] at hK ⊢
      go_simp
      exact hK _ _ tA_same hC rfl
    | 8, ho =>
      simp only [List.getElem?_toArray, List.getElem?_cons_zero, List.getElem?_cons_succ, Option.some.injEq] at ho
      subst ho
      simp only [fillA, Act.put, List.setIfInBounds_toArray, List.set_cons_zero, List.set_cons_succ] at hK ⊢
      go_simp
      exact hK _ _ (tA_below (by decide) (bA bR)) (bA hC) ⟨_, _, _, _, _, _, _, _, _, _, rfl, hC.size, Own.new_ _ _ _⟩
    | 9, ho =>
      simp only [List.getElem?_toArray, List.getElem?_cons_zero, List.getElem?_cons_succ, Option.some.injEq] at ho
      subst ho
      simp only [fillA, Act.put, List.setIfInBounds_toArray, List.set_cons_zero, List.set_cons_succ] at hK ⊢
      have d11 := hd 8 ⟨⟨8, .data⟩, by simp, rfl, rfl⟩ (by decide)
      have d9 := hd 6 ⟨⟨6, .data⟩, by simp, rfl, rfl⟩ (by decide)
      obtain ⟨g, q0, q1, q2, q3, q4, q5, q6, q7, q8, d11, hg, ho⟩ := d11
      obtain ⟨e1, e2, e3, e4, d9, hm1⟩ := d9
      change x 11 = _ at d11
      change x 40 = _ at d9
      obtain ⟨E1, n1, rfl, _⟩ := hm1.t.b
      obtain ⟨E2, n2, rfl, _⟩ := hm1.t.f
      obtain ⟨E3, n3, rfl, _⟩ := hm1.l
      obtain ⟨E4, n4, rfl, _⟩ := hm1.o
      have z0 := ho.cell_ 0 (v := q0) rfl
      have y0 := ho.free 0
      have z1 := ho.cell_ 1 (v := q1) rfl
      have y1 := ho.free 1
      have z2 := ho.cell_ 2 (v := q2) rfl
      have y2 := ho.free 2
      have z3 := ho.cell_ 3 (v := q3) rfl
      have y3 := ho.free 3
      have z4 := ho.cell_ 4 (v := q4) rfl
      have y4 := ho.free 4
      have z5 := ho.cell_ 5 (v := q5) rfl
      have y5 := ho.free 5
      have z6 := ho.cell_ 6 (v := q6) rfl
      have y6 := ho.free 6
      have z7 := ho.cell_ 7 (v := q7) rfl
      have y7 := ho.free 7
      have z8 := ho.cell_ 8 (v := q8) rfl
      have y8 := ho.free 8
      simp only [d9, d11] at hK ⊢
      go_simp
      have ht := tA_store (si := 9) ho (.slice E1 V.t.bs.length n1) (.slice E2 V.t.fs.length n2) (.slice E3 V.c.ls.length n3) (.int .i64 V.c.hand) (.int .i64 V.g.count) (.int .i64 V.g.next) (.int .i64 V.g.round) (.slice E4 V.g.os.length n4) (.int .i64 V.sp)
      refine hK undef _ ht ?_ ⟨rfl, g, _, _, _, _, d11, hg, ho.set9 _ _ _ _ _ _ _ _ _, hm1.othM ht.oth⟩
      repeat (refine bS ?_ (by exact hg))
      exact hC
    | 10, ho =>
      simp only [List.getElem?_toArray, List.getElem?_cons_zero, List.getElem?_cons_succ, Option.some.injEq] at ho
      subst ho
      simp only [fillA, Act.put, List.setIfInBounds_toArray, List.set_cons_zero, List.set_cons_succ] at hK ⊢
      have d8 := hd 7 ⟨⟨7, .data⟩, by simp, rfl, rfl⟩ (by decide)
      change x 41 = .bool X0 at d8
      simp only [d8] at hK ⊢
      go_simp
      exact hK _ _ tA_same hC rfl
    | _ + 11, ho => simp at ho
  intro xb w6 hC hd
  obtain ⟨_, gb, e1b, e2b, e3b, e4b, dS, hgb, ho, hm⟩ := hd 9 (by decide)
  change xb 11 = _ at dS
  have dL0 := hd 10 (by decide)
  change xb 12 = .bool X0 at dL0
  simp only [fillA, Act.put, List.setIfInBounds_toArray, List.set_cons_zero, List.set_cons_succ, dS, dL0]
  have HOb := Lib.hid ho
  have HMMb := Lib.hid hm
  have HCb := Lib.hid hC
  clear hd dS dL0 ho hm hC
  obtain ⟨G1, j1, rfl, _⟩ := HMMb.out.t.b
  obtain ⟨G2, j2, rfl, _⟩ := HMMb.out.t.f
  obtain ⟨G3, j3, rfl, _⟩ := HMMb.out.l
  obtain ⟨G4, j4, rfl, _⟩ := HMMb.out.o
  have HD6 := Lib.hid (bT HD5.out HCb.out)
  have hqo0 := xne X0
  have y0 := (HOb.out).cell_ 0 (v := .slice G1 V.t.bs.length j1) rfl
  have y1 := (HOb.out).cell_ 1 (v := .slice G2 V.t.fs.length j2) rfl
  have y2 := (HOb.out).cell_ 2 (v := .slice G3 V.c.ls.length j3) rfl
  have y3 := (HOb.out).cell_ 3 (v := .int .i64 V.c.hand) rfl
  have y4 := (HOb.out).cell_ 4 (v := .int .i64 V.g.count) rfl
  have y5 := (HOb.out).cell_ 5 (v := .int .i64 V.g.next) rfl
  have y6 := (HOb.out).cell_ 6 (v := .int .i64 V.g.round) rfl
  have y7 := (HOb.out).cell_ 7 (v := .slice G4 V.g.os.length j4) rfl
  have y8 := (HOb.out).cell_ 8 (v := .int .i64 V.sp) rfl
  have z0 := (HOa.out.below HD6.out).cell_ 0 (v := e1a) rfl
  have z1 := (HOa.out.below HD6.out).cell_ 1 (v := e2a) rfl
  have z2 := (HOa.out.below HD6.out).cell_ 2 (v := e3a) rfl
  have z3 := (HOa.out.below HD6.out).cell_ 3 (v := .int .i64 V.c.hand) rfl
  have z4 := (HOa.out.below HD6.out).cell_ 4 (v := .int .i64 V.g.count) rfl
  have z5 := (HOa.out.below HD6.out).cell_ 5 (v := .int .i64 V.g.next) rfl
  have z6 := (HOa.out.below HD6.out).cell_ 6 (v := .int .i64 V.g.round) rfl
  have z7 := (HOa.out.below HD6.out).cell_ 7 (v := e4a) rfl
  have z8 := (HOa.out.below HD6.out).cell_ 8 (v := .int .i64 V.sp) rfl
  go_wp2_with fail
  refine (eqMachine_same _ _ _ _ _ _ _ _ V _ HMMb.out.r (HMMa.out.r.now HD6.out)).mono ?_
  rintro e w7 ⟨rfl, hb7⟩
  have HC7 := Lib.hid (bT HCb.out hb7)
  have HD7 := Lib.hid (bT HD5.out HC7.out)
  have HX7 := Lib.hid (HX2.out.below HD7.out)
  have HO7 := Lib.hid (HO5.out.below HC7.out)
  have HB7 := Lib.hid (bT HB2.out HD7.out)
  have HP7 := Lib.hid (HOb.out.below hb7)
  have HN7 := Lib.hid (HMMb.out.now hb7)
  have HM7 := Lib.hid (HM5.out.now HC7.out)
  clear hb7
  clear y0 y1 y2 y3 y4 y5 y6 y7 y8
  clear z0 z1 z2 z3 z4 z5 z6 z7 z8
  go_wp2_with fail
  refine wp_region_rel1 (by kernel_rfl) [51, 52, 53, 54, 55] [51, 52, 53, 54, 55] (fun v => Below w7.heap.size w7 v)
    (rls w7.heap.size 99 [RL.eq (.agg #[.slice F1 m.t.bs.length k1, .slice F2 m.t.fs.length k2, .slice F3 m.c.ls.length k3, .int .i64 m.c.hand, .int .i64 m.g.count, .int .i64 m.g.next, .int .i64 m.g.round, .slice F4 m.g.os.length k4, .int .i64 m.sp]), RL.eq (.agg #[.slice A1 m.t.bs.length c1, .slice A2 m.t.fs.length c2, .slice A3 m.c.ls.length c3, .int .i64 m.c.hand, .int .i64 m.g.count, .int .i64 m.g.next, .int .i64 m.g.round, .slice A4 m.g.os.length c4, .int .i64 m.sp]), RL.ma m, RL.eq (.bool true), RL.eq (.bool false)]) (tA 99) (by kernel_rfl) rfl (bD bR)
    (fun i j x v v' hij h ht => rls_keep hij h ht) ?_ ?_
  · intro i o ho x v hC hd K hK
    match i, ho with
    | 0, ho =>
      simp only [List.getElem?_toArray, List.getElem?_cons_zero, List.getElem?_cons_succ, Option.some.injEq] at ho
      subst ho
      simp only [fillA, Act.put, List.setIfInBounds_toArray, List.set_cons_zero, List.set_cons_succ] at hK ⊢
      have z0 := (HO7.out.below hC).cell_ 0 (v := .slice F1 m.t.bs.length k1) rfl
      have z1 := (HO7.out.below hC).cell_ 1 (v := .slice F2 m.t.fs.length k2) rfl
      have z2 := (HO7.out.below hC).cell_ 2 (v := .slice F3 m.c.ls.length k3) rfl
      have z3 := (HO7.out.below hC).cell_ 3 (v := .int .i64 m.c.hand) rfl
      have z4 := (HO7.out.below hC).cell_ 4 (v := .int .i64 m.g.count) rfl
      have z5 := (HO7.out.below hC).cell_ 5 (v := .int .i64 m.g.next) rfl
      have z6 := (HO7.out.below hC).cell_ 6 (v := .int .i64 m.g.round) rfl
      have z7 := (HO7.out.below hC).cell_ 7 (v := .slice F4 m.g.os.length k4) rfl
      have z8 := (HO7.out.below hC).cell_ 8 (v := .int .i64 m.sp) rfl
      go_simp
      exact hK _ _ tA_same hC rfl
    | 1, ho =>
      simp only [List.getElem?_toArray, List.getElem?_cons_zero, List.getElem?_cons_succ, Option.some.injEq] at ho
      subst ho
      simp only [fillA, Act.put, List.setIfInBounds_toArray, List.set_cons_zero, List.set_cons_succ] at hK ⊢
      have z0 := (HX7.out.below hC).cell_ 0 (v := .slice A1 m.t.bs.length c1) rfl
      have z1 := (HX7.out.below hC).cell_ 1 (v := .slice A2 m.t.fs.length c2) rfl
      have z2 := (HX7.out.below hC).cell_ 2 (v := .slice A3 m.c.ls.length c3) rfl
      have z3 := (HX7.out.below hC).cell_ 3 (v := .int .i64 m.c.hand) rfl
      have z4 := (HX7.out.below hC).cell_ 4 (v := .int .i64 m.g.count) rfl
      have z5 := (HX7.out.below hC).cell_ 5 (v := .int .i64 m.g.next) rfl
      have z6 := (HX7.out.below hC).cell_ 6 (v := .int .i64 m.g.round) rfl
      have z7 := (HX7.out.below hC).cell_ 7 (v := .slice A4 m.g.os.length c4) rfl
      have z8 := (HX7.out.below hC).cell_ 8 (v := .int .i64 m.sp) rfl
      go_simp
      exact hK _ _ tA_same hC rfl
    | 2, ho =>
      simp only [List.getElem?_toArray, List.getElem?_cons_zero, List.getElem?_cons_succ, Option.some.injEq] at ho
      subst ho
      simp only [fillA, Act.put, List.setIfInBounds_toArray, List.set_cons_zero, List.set_cons_succ] at hK ⊢
      have d0 := hd 1 ⟨⟨1, .data⟩, by simp, rfl, rfl⟩ (by decide)
      change x 52 = .agg #[.slice A1 m.t.bs.length c1, .slice A2 m.t.fs.length c2, .slice A3 m.c.ls.length c3, .int .i64 m.c.hand, .int .i64 m.g.count, .int .i64 m.g.next, .int .i64 m.g.round, .slice A4 m.g.os.length c4, .int .i64 m.sp] at d0
      simp only [d0] at hK ⊢
      go_wp2_with fail
      refine (toMachine_any _ _ _ _ m _ (HM.out.now (bT HB7.out hC)) (by omega) (by omega) (by omega) (by omega)).mono ?_
      rintro e v' ⟨_, rfl, f1, f2, f3, f4, rfl, hm1, hb⟩
      go_simp
      exact hK _ _ (tA_below (by decide) hb) (bT hC hb) ⟨_, _, _, _, rfl, hm1.mono hC.size⟩
    | 3, ho =>
      simp only [List.getElem?_toArray, List.getElem?_cons_zero, List.getElem?_cons_succ, Option.some.injEq] at ho
      subst ho
      simp only [fillA, Act.put, List.setIfInBounds_toArray, List.set_cons_zero, List.set_cons_succ] at hK ⊢
      have d0 := hd 0 ⟨⟨0, .data⟩, by simp, rfl, rfl⟩ (by decide)
      change x 51 = .agg #[.slice F1 m.t.bs.length k1, .slice F2 m.t.fs.length k2, .slice F3 m.c.ls.length k3, .int .i64 m.c.hand, .int .i64 m.g.count, .int .i64 m.g.next, .int .i64 m.g.round, .slice F4 m.g.os.length k4, .int .i64 m.sp] at d0
      have d2 := hd 2 ⟨⟨2, .data⟩, by simp, rfl, rfl⟩ (by decide)
      obtain ⟨e1, e2, e3, e4, d2, hm1⟩ := d2
      change x 53 = _ at d2
      simp only [d0, d2] at hK ⊢
      go_wp2_with fail
      refine (eqMachine_same _ _ _ _ _ _ _ _ m _ (HM7.out.now hC).r hm1.r).mono ?_
      rintro e v' ⟨rfl, hb⟩
      go_simp
      exact hK _ _ (tA_below (by decide) hb) (bT hC hb) rfl
    | 4, ho =>
      simp only [List.getElem?_toArray, List.getElem?_cons_zero, List.getElem?_cons_succ, Option.some.injEq] at ho
      subst ho
      simp only [fillA, Act.put, List.setIfInBounds_toArray, List.set_cons_zero, List.set_cons_succ] at hK ⊢
      have d3 := hd 3 ⟨⟨3, .data⟩, by simp, rfl, rfl⟩ (by decide)
      change x 54 = .bool true at d3
      simp only [d3] at hK ⊢
      go_simp
      exact hK _ _ tA_same hC rfl
    | _ + 5, ho => simp at ho
  intro xc w8 hC hd
  have dL := hd 4 (by decide)
  change xc 55 = .bool false at dL
  simp only [fillA, Act.put, List.setIfInBounds_toArray, List.set_cons_zero, List.set_cons_succ, dL]
  have HC10 := Lib.hid (bT HC7.out hC)
  have HP10 := Lib.hid (HP7.out.below hC)
  have HN10 := Lib.hid (HN7.out.now hC)
  have HF10 := Lib.hid (HC10.out)
  clear hd dL hC
  have x0 := (HO5.out.below HC10.out).cell_ 0 (v := .slice F1 m.t.bs.length k1) rfl
  have x1 := (HO5.out.below HC10.out).cell_ 1 (v := .slice F2 m.t.fs.length k2) rfl
  have x2 := (HO5.out.below HC10.out).cell_ 2 (v := .slice F3 m.c.ls.length k3) rfl
  have x3 := (HO5.out.below HC10.out).cell_ 3 (v := .int .i64 m.c.hand) rfl
  have x4 := (HO5.out.below HC10.out).cell_ 4 (v := .int .i64 m.g.count) rfl
  have x5 := (HO5.out.below HC10.out).cell_ 5 (v := .int .i64 m.g.next) rfl
  have x6 := (HO5.out.below HC10.out).cell_ 6 (v := .int .i64 m.g.round) rfl
  have x7 := (HO5.out.below HC10.out).cell_ 7 (v := .slice F4 m.g.os.length k4) rfl
  have x8 := (HO5.out.below HC10.out).cell_ 8 (v := .int .i64 m.sp) rfl
  go_wp2_with fail
  refine (markMachine_any w2.heap.size F1 F2 F3 F4 k1 k2 k3 k4 m _ 1 (I1.out.below HF10.out) (I2.out.below HF10.out) (I3.out.below HF10.out) (I4.out.below HF10.out) w5.heap.size (fun k hk => (I1.out.row k hk).2) (fun k hk => (I2.out.row k hk).2) (fun k hk => (I3.out.row k hk).2) (fun k hk => (I4.out.row k hk).2) (by omega) (by omega) (by omega) (by omega) (by omega) (by omega)).mono ?_
  rintro e w12 ⟨rfl, _, ht12, _⟩
  have HT12 := Lib.hid ht12
  have HL4 : w2.heap.size ≤ w5.heap.size := Nat.le_trans HS3.out (Nat.le_of_lt HS4.out)
  clear ht12
  clear x0 x1 x2 x3 x4 x5 x6 x7 x8
  have HP12 := Lib.hid (HP10.out.tch HT12.out (by omega))
  have HN12 := Lib.hid (HN10.out.tch HT12.out (Nat.le_refl _))
  have HD12 := Lib.hid (HT12.out.below (bT HD5.out HC10.out) (Nat.le_refl _))
  have hq1 : ¬ (1 + (m.t.bs.length : Int) + 5 * (m.t.fs.length : Int) + 6 * (m.c.ls.length : Int) + 2 * (m.g.os.length : Int)) < 0 := by omega
  have y0 := (HP12.out).cell_ 0 (v := .slice G1 V.t.bs.length j1) rfl
  have y1 := (HP12.out).cell_ 1 (v := .slice G2 V.t.fs.length j2) rfl
  have y2 := (HP12.out).cell_ 2 (v := .slice G3 V.c.ls.length j3) rfl
  have y3 := (HP12.out).cell_ 3 (v := .int .i64 V.c.hand) rfl
  have y4 := (HP12.out).cell_ 4 (v := .int .i64 V.g.count) rfl
  have y5 := (HP12.out).cell_ 5 (v := .int .i64 V.g.next) rfl
  have y6 := (HP12.out).cell_ 6 (v := .int .i64 V.g.round) rfl
  have y7 := (HP12.out).cell_ 7 (v := .slice G4 V.g.os.length j4) rfl
  have y8 := (HP12.out).cell_ 8 (v := .int .i64 V.sp) rfl
  have z0 := (HOa.out.below HD12.out).cell_ 0 (v := e1a) rfl
  have z1 := (HOa.out.below HD12.out).cell_ 1 (v := e2a) rfl
  have z2 := (HOa.out.below HD12.out).cell_ 2 (v := e3a) rfl
  have z3 := (HOa.out.below HD12.out).cell_ 3 (v := .int .i64 V.c.hand) rfl
  have z4 := (HOa.out.below HD12.out).cell_ 4 (v := .int .i64 V.g.count) rfl
  have z5 := (HOa.out.below HD12.out).cell_ 5 (v := .int .i64 V.g.next) rfl
  have z6 := (HOa.out.below HD12.out).cell_ 6 (v := .int .i64 V.g.round) rfl
  have z7 := (HOa.out.below HD12.out).cell_ 7 (v := e4a) rfl
  have z8 := (HOa.out.below HD12.out).cell_ 8 (v := .int .i64 V.sp) rfl
  go_wp2_with fail
  refine (eqMachine_same _ _ _ _ _ _ _ _ V _ HN12.out.r (HMMa.out.r.now HD12.out)).mono ?_
  rintro e w13 ⟨rfl, hb13⟩
  have HP13 := Lib.hid (HP12.out.below hb13)
  have HN13 := Lib.hid (HN12.out.now hb13)
  have HD13 := Lib.hid (bT HD12.out hb13)
  obtain ⟨t1, t2, t3, t4⟩ := hV
  clear hb13
  clear y0 y1 y2 y3 y4 y5 y6 y7 y8
  clear z0 z1 z2 z3 z4 z5 z6 z7 z8
  have y0 := (HP13.out).cell_ 0 (v := .slice G1 V.t.bs.length j1) rfl
  have y1 := (HP13.out).cell_ 1 (v := .slice G2 V.t.fs.length j2) rfl
  have y2 := (HP13.out).cell_ 2 (v := .slice G3 V.c.ls.length j3) rfl
  have y3 := (HP13.out).cell_ 3 (v := .int .i64 V.c.hand) rfl
  have y4 := (HP13.out).cell_ 4 (v := .int .i64 V.g.count) rfl
  have y5 := (HP13.out).cell_ 5 (v := .int .i64 V.g.next) rfl
  have y6 := (HP13.out).cell_ 6 (v := .int .i64 V.g.round) rfl
  have y7 := (HP13.out).cell_ 7 (v := .slice G4 V.g.os.length j4) rfl
  have y8 := (HP13.out).cell_ 8 (v := .int .i64 V.sp) rfl
  have L1 := Lib.hid HN13.out.t.b.mine
  have L2 := Lib.hid HN13.out.t.f.mine
  have L3 := Lib.hid HN13.out.l.mine
  have L4 := Lib.hid HN13.out.o.mine
  go_wp2_with fail
  refine (markMachine_any w5.heap.size G1 G2 G3 G4 j1 j2 j3 j4 V _ 1 L1.out L2.out L3.out L4.out w13.heap.size (fun k hk => (L1.out.row k hk).2) (fun k hk => (L2.out.row k hk).2) (fun k hk => (L3.out.row k hk).2) (fun k hk => (L4.out.row k hk).2) (by omega) (by omega) t1 t2 t3 t4).mono ?_
  rintro e w14 ⟨rfl, hmk, ht14, ho14⟩
  have HMK := Lib.hid hmk
  have HP14 := Lib.hid (ho14.2 _ _ _ HP13.out (by decide))
  have HD14 := Lib.hid (ht14.below HD13.out HD5.out.size)
  clear hmk ht14 ho14
  clear y0 y1 y2 y3 y4 y5 y6 y7 y8
  have y0 := (HP14.out).cell_ 0 (v := .slice G1 V.t.bs.length j1) rfl
  have y1 := (HP14.out).cell_ 1 (v := .slice G2 V.t.fs.length j2) rfl
  have y2 := (HP14.out).cell_ 2 (v := .slice G3 V.c.ls.length j3) rfl
  have y3 := (HP14.out).cell_ 3 (v := .int .i64 V.c.hand) rfl
  have y4 := (HP14.out).cell_ 4 (v := .int .i64 V.g.count) rfl
  have y5 := (HP14.out).cell_ 5 (v := .int .i64 V.g.next) rfl
  have y6 := (HP14.out).cell_ 6 (v := .int .i64 V.g.round) rfl
  have y7 := (HP14.out).cell_ 7 (v := .slice G4 V.g.os.length j4) rfl
  have y8 := (HP14.out).cell_ 8 (v := .int .i64 V.sp) rfl
  go_wp2_with fail
  refine (heldMachine_any G1 G2 G3 G4 j1 j2 j3 j4 V.t.bs.length V.t.fs.length V.c.ls.length V.g.os.length V.c.hand V.g.count V.g.next V.g.round V.sp _ 1 HMK.out (by omega) (by omega) t1 t2 t3 t4).mono ?_
  rintro e w15 ⟨rfl, hb15⟩
  have HP15 := Lib.hid (HP14.out.below hb15)
  have HMK15 := Lib.hid (HMK.out.now hb15)
  have HD15 := Lib.hid (bT HD14.out hb15)
  have HB15 := Lib.hid (bT HB2.out HD15.out)
  have HX15 := Lib.hid (HX2.out.below HD15.out)
  have HK15 := Lib.hid (HK2.out.below HD15.out)
  have hq2 : ¬ (1 + (V.t.bs.length : Int) + 5 * (V.t.fs.length : Int) + 6 * (V.c.ls.length : Int) + 2 * (V.g.os.length : Int)) < 0 := by omega
  have hq3 : ((1 + (V.t.bs.length : Int) + 5 * (V.t.fs.length : Int) + 6 * (V.c.ls.length : Int) + 2 * (V.g.os.length : Int)) != (1 + (V.t.bs.length : Int) + 5 * (V.t.fs.length : Int) + 6 * (V.c.ls.length : Int) + 2 * (V.g.os.length : Int))) = false := by simp
  clear hb15 HMK
  clear y0 y1 y2 y3 y4 y5 y6 y7 y8
  go_wp2_with fail
  refine wp_region_rel1 (by kernel_rfl) [84, 85, 86, 87, 88, 89, 83, 90, 91, 16, 17] [84, 85, 86, 87, 88, 89, 83, 90, 91, 16, 16, 17] (fun v => Below w15.heap.size w15 v)
    (rls w15.heap.size 10 [RL.eq (.agg #[.slice A1 m.t.bs.length c1, .slice A2 m.t.fs.length c2, .slice A3 m.c.ls.length c3, .int .i64 m.c.hand, .int .i64 m.g.count, .int .i64 m.g.next, .int .i64 m.g.round, .slice A4 m.g.os.length c4, .int .i64 m.sp]), RL.ma m, RL.eq (.agg #[.int .i64 s, .int .i64 p]), RL.eq (.agg #[.int .i64 s, .int .i64 p]), RL.eq (.int .i64 a0), RL.tup V [.bool X0], RL.tup V [.bool X0], RL.ma V, RL.eq (.bool X0), RL.box, RL.boxed V, RL.eq (.bool X0)]) (tA 10) (by kernel_rfl) rfl (bD bR)
    (fun i j x v v' hij h ht => rls_keep hij h ht) ?_ ?_
  · intro i o ho x v hC hd K hK
    match i, ho with
    | 0, ho =>
      simp only [List.getElem?_toArray, List.getElem?_cons_zero, List.getElem?_cons_succ, Option.some.injEq] at ho
      subst ho
      simp only [fillA, Act.put, List.setIfInBounds_toArray, List.set_cons_zero, List.set_cons_succ] at hK ⊢
      have z0 := (HX15.out.below hC).cell_ 0 (v := .slice A1 m.t.bs.length c1) rfl
      have z1 := (HX15.out.below hC).cell_ 1 (v := .slice A2 m.t.fs.length c2) rfl
      have z2 := (HX15.out.below hC).cell_ 2 (v := .slice A3 m.c.ls.length c3) rfl
      have z3 := (HX15.out.below hC).cell_ 3 (v := .int .i64 m.c.hand) rfl
      have z4 := (HX15.out.below hC).cell_ 4 (v := .int .i64 m.g.count) rfl
      have z5 := (HX15.out.below hC).cell_ 5 (v := .int .i64 m.g.next) rfl
      have z6 := (HX15.out.below hC).cell_ 6 (v := .int .i64 m.g.round) rfl
      have z7 := (HX15.out.below hC).cell_ 7 (v := .slice A4 m.g.os.length c4) rfl
      have z8 := (HX15.out.below hC).cell_ 8 (v := .int .i64 m.sp) rfl
      go_simp
      exact hK _ _ tA_same hC rfl
    | 1, ho =>
      simp only [List.getElem?_toArray, List.getElem?_cons_zero, List.getElem?_cons_succ, Option.some.injEq] at ho
      subst ho
      simp only [fillA, Act.put, List.setIfInBounds_toArray, List.set_cons_zero, List.set_cons_succ] at hK ⊢
      have d0 := hd 0 ⟨⟨0, .data⟩, by simp, rfl, rfl⟩ (by decide)
      change x 84 = .agg #[.slice A1 m.t.bs.length c1, .slice A2 m.t.fs.length c2, .slice A3 m.c.ls.length c3, .int .i64 m.c.hand, .int .i64 m.g.count, .int .i64 m.g.next, .int .i64 m.g.round, .slice A4 m.g.os.length c4, .int .i64 m.sp] at d0
      simp only [d0] at hK ⊢
      go_wp2_with fail
      refine (toMachine_any _ _ _ _ m _ (HM.out.now (bT HB15.out hC)) (by omega) (by omega) (by omega) (by omega)).mono ?_
      rintro e v' ⟨_, rfl, f1, f2, f3, f4, rfl, hm1, hb⟩
      go_simp
      exact hK _ _ (tA_below (by decide) hb) (bT hC hb) ⟨_, _, _, _, rfl, hm1.mono hC.size⟩
    | 2, ho =>
      simp only [List.getElem?_toArray, List.getElem?_cons_zero, List.getElem?_cons_succ, Option.some.injEq] at ho
      subst ho
      simp only [fillA, Act.put, List.setIfInBounds_toArray, List.set_cons_zero, List.set_cons_succ] at hK ⊢
      have z0 := (HK15.out.below hC).cell_ 0 (v := .int .i64 s) rfl
      have z1 := (HK15.out.below hC).cell_ 1 (v := .int .i64 p) rfl
      go_simp
      exact hK _ _ tA_same hC rfl
    | 3, ho =>
      simp only [List.getElem?_toArray, List.getElem?_cons_zero, List.getElem?_cons_succ, Option.some.injEq] at ho
      subst ho
      simp only [fillA, Act.put, List.setIfInBounds_toArray, List.set_cons_zero, List.set_cons_succ] at hK ⊢
      have d2 := hd 2 ⟨⟨2, .data⟩, by simp, rfl, rfl⟩ (by decide)
      change x 86 = .agg #[.int .i64 s, .int .i64 p] at d2
      simp only [d2] at hK ⊢
      go_wp2_with fail
      refine (toKey_any _ _ _).mono ?_
      rintro e v' ⟨rfl, hb⟩
      go_simp
      exact hK _ _ (tA_below (by decide) hb) (bT hC hb) rfl
    | 4, ho =>
      simp only [List.getElem?_toArray, List.getElem?_cons_zero, List.getElem?_cons_succ, Option.some.injEq] at ho
      subst ho
      simp only [fillA, Act.put, List.setIfInBounds_toArray, List.set_cons_zero, List.set_cons_succ] at hK ⊢
      go_simp
      exact hK _ _ tA_same hC rfl
    | 5, ho =>
      simp only [List.getElem?_toArray, List.getElem?_cons_zero, List.getElem?_cons_succ, Option.some.injEq] at ho
      subst ho
      simp only [fillA, Act.put, List.setIfInBounds_toArray, List.set_cons_zero, List.set_cons_succ] at hK ⊢
      have d0 := hd 1 ⟨⟨1, .data⟩, by simp, rfl, rfl⟩ (by decide)
      have d1 := hd 3 ⟨⟨3, .data⟩, by simp, rfl, rfl⟩ (by decide)
      change x 87 = .agg #[.int .i64 s, .int .i64 p] at d1
      have d2 := hd 4 ⟨⟨4, .data⟩, by simp, rfl, rfl⟩ (by decide)
      change x 88 = .int .i64 a0 at d2
      obtain ⟨e1, e2, e3, e4, d0, hm1⟩ := d0
      change x 85 = _ at d0
      simp only [d0, d1, d2] at hK ⊢
      go_wp2_with fail
      refine (HIM.out _ _ _ _ _ hm1.r (HF.out.now (bT HB15.out hC))).mono ?_
      rintro e v' ⟨_, rfl, f1, f2, f3, f4, rfl, hm2, hb⟩
      go_simp
      exact hK _ _ (tA_below (by decide) hb) (bT hC hb) ⟨_, _, _, _, rfl, hm2.mono hC.size⟩
    | 6, ho =>
      simp only [List.getElem?_toArray, List.getElem?_cons_zero, List.getElem?_cons_succ, Option.some.injEq] at ho
      subst ho
      simp only [fillA, Act.put, List.setIfInBounds_toArray, List.set_cons_zero, List.set_cons_succ] at hK ⊢
      have d7 := hd 5 ⟨⟨5, .data⟩, by simp, rfl, rfl⟩ (by decide)
      obtain ⟨e1, e2, e3, e4, d7, hm1⟩ := d7
      change x 89 = _ at d7
      simp only [d7] at hK ⊢
      go_simp
      exact hK _ _ tA_same hC ⟨_, _, _, _, rfl, hm1⟩
    | 7, ho =>
      simp only [List.getElem?_toArray, List.getElem?_cons_zero, List.getElem?_cons_succ, Option.some.injEq] at ho
      subst ho
      simp only [fillA, Act.put, List.setIfInBounds_toArray, List.set_cons_zero, List.set_cons_succ] at hK ⊢
      have d7 := hd 6 ⟨⟨6, .data⟩, by simp, rfl, rfl⟩ (by decide)
      obtain ⟨e1, e2, e3, e4, d7, hm1⟩ := d7
      change x 83 = _ at d7
      simp only [d7] at hK ⊢
      go_simp
      exact hK _ _ tA_same hC ⟨_, _, _, _, rfl, hm1⟩
    | 8, ho =>
      simp only [List.getElem?_toArray, List.getElem?_cons_zero, List.getElem?_cons_succ, Option.some.injEq] at ho
      subst ho
      simp only [fillA, Act.put, List.setIfInBounds_toArray, List.set_cons_zero, List.set_cons_succ] at hK ⊢
      have d7 := hd 6 ⟨⟨6, .data⟩, by simp, rfl, rfl⟩ (by decide)
      obtain ⟨e1, e2, e3, e4, d7, hm1⟩ := d7
      change x 83 = _ at d7
      simp only [d7] at hK ⊢
      go_simp
      exact hK _ _ tA_same hC rfl
    | 9, ho =>
      simp only [List.getElem?_toArray, List.getElem?_cons_zero, List.getElem?_cons_succ, Option.some.injEq] at ho
      subst ho
      simp only [fillA, Act.put, List.setIfInBounds_toArray, List.set_cons_zero, List.set_cons_succ] at hK ⊢
      go_simp
      exact hK _ _ (tA_below (by decide) (bA bR)) (bA hC) ⟨_, _, _, _, _, _, _, _, _, _, rfl, hC.size, Own.new_ _ _ _⟩
    | 10, ho =>
      simp only [List.getElem?_toArray, List.getElem?_cons_zero, List.getElem?_cons_succ, Option.some.injEq] at ho
      subst ho
      simp only [fillA, Act.put, List.setIfInBounds_toArray, List.set_cons_zero, List.set_cons_succ] at hK ⊢
      have d11 := hd 9 ⟨⟨9, .data⟩, by simp, rfl, rfl⟩ (by decide)
      have d9 := hd 7 ⟨⟨7, .data⟩, by simp, rfl, rfl⟩ (by decide)
      obtain ⟨g, q0, q1, q2, q3, q4, q5, q6, q7, q8, d11, hg, ho⟩ := d11
      obtain ⟨e1, e2, e3, e4, d9, hm1⟩ := d9
      change x 16 = _ at d11
      change x 90 = _ at d9
      obtain ⟨E1, n1, rfl, _⟩ := hm1.t.b
      obtain ⟨E2, n2, rfl, _⟩ := hm1.t.f
      obtain ⟨E3, n3, rfl, _⟩ := hm1.l
      obtain ⟨E4, n4, rfl, _⟩ := hm1.o
      have z0 := ho.cell_ 0 (v := q0) rfl
      have y0 := ho.free 0
      have z1 := ho.cell_ 1 (v := q1) rfl
      have y1 := ho.free 1
      have z2 := ho.cell_ 2 (v := q2) rfl
      have y2 := ho.free 2
      have z3 := ho.cell_ 3 (v := q3) rfl
      have y3 := ho.free 3
      have z4 := ho.cell_ 4 (v := q4) rfl
      have y4 := ho.free 4
      have z5 := ho.cell_ 5 (v := q5) rfl
      have y5 := ho.free 5
      have z6 := ho.cell_ 6 (v := q6) rfl
      have y6 := ho.free 6
      have z7 := ho.cell_ 7 (v := q7) rfl
      have y7 := ho.free 7
      have z8 := ho.cell_ 8 (v := q8) rfl
      have y8 := ho.free 8
      simp only [d9, d11] at hK ⊢
      go_simp
      have ht := tA_store (si := 10) ho (.slice E1 V.t.bs.length n1) (.slice E2 V.t.fs.length n2) (.slice E3 V.c.ls.length n3) (.int .i64 V.c.hand) (.int .i64 V.g.count) (.int .i64 V.g.next) (.int .i64 V.g.round) (.slice E4 V.g.os.length n4) (.int .i64 V.sp)
      refine hK undef _ ht ?_ ⟨rfl, g, _, _, _, _, d11, hg, ho.set9 _ _ _ _ _ _ _ _ _, hm1.othM ht.oth⟩
      repeat (refine bS ?_ (by exact hg))
      exact hC
    | 11, ho =>
      simp only [List.getElem?_toArray, List.getElem?_cons_zero, List.getElem?_cons_succ, Option.some.injEq] at ho
      subst ho
      simp only [fillA, Act.put, List.setIfInBounds_toArray, List.set_cons_zero, List.set_cons_succ] at hK ⊢
      have d8 := hd 8 ⟨⟨8, .data⟩, by simp, rfl, rfl⟩ (by decide)
      change x 91 = .bool X0 at d8
      simp only [d8] at hK ⊢
      go_simp
      exact hK _ _ tA_same hC rfl
    | _ + 12, ho => simp at ho
  intro xd w16 hC hd
  obtain ⟨_, gc, e1c, e2c, e3c, e4c, dS, hgc, ho, hm⟩ := hd 10 (by decide)
  change xd 16 = _ at dS
  have dL0 := hd 11 (by decide)
  change xd 17 = .bool X0 at dL0
  simp only [fillA, Act.put, List.setIfInBounds_toArray, List.set_cons_zero, List.set_cons_succ, dS, dL0]
  have HOc := Lib.hid ho
  have HMMc := Lib.hid hm
  have HCc := Lib.hid hC
  clear hd dS dL0 ho hm hC
  have HD16 := Lib.hid (bT HD15.out HCc.out)
  have y0 := (HOc.out).cell_ 0 (v := e1c) rfl
  have y1 := (HOc.out).cell_ 1 (v := e2c) rfl
  have y2 := (HOc.out).cell_ 2 (v := e3c) rfl
  have y3 := (HOc.out).cell_ 3 (v := .int .i64 V.c.hand) rfl
  have y4 := (HOc.out).cell_ 4 (v := .int .i64 V.g.count) rfl
  have y5 := (HOc.out).cell_ 5 (v := .int .i64 V.g.next) rfl
  have y6 := (HOc.out).cell_ 6 (v := .int .i64 V.g.round) rfl
  have y7 := (HOc.out).cell_ 7 (v := e4c) rfl
  have y8 := (HOc.out).cell_ 8 (v := .int .i64 V.sp) rfl
  have z0 := (HOa.out.below HD16.out).cell_ 0 (v := e1a) rfl
  have z1 := (HOa.out.below HD16.out).cell_ 1 (v := e2a) rfl
  have z2 := (HOa.out.below HD16.out).cell_ 2 (v := e3a) rfl
  have z3 := (HOa.out.below HD16.out).cell_ 3 (v := .int .i64 V.c.hand) rfl
  have z4 := (HOa.out.below HD16.out).cell_ 4 (v := .int .i64 V.g.count) rfl
  have z5 := (HOa.out.below HD16.out).cell_ 5 (v := .int .i64 V.g.next) rfl
  have z6 := (HOa.out.below HD16.out).cell_ 6 (v := .int .i64 V.g.round) rfl
  have z7 := (HOa.out.below HD16.out).cell_ 7 (v := e4a) rfl
  have z8 := (HOa.out.below HD16.out).cell_ 8 (v := .int .i64 V.sp) rfl
  go_wp2_with fail
  refine (eqMachine_same _ _ _ _ _ _ _ _ V _ HMMc.out.r (HMMa.out.r.now HD16.out)).mono ?_
  rintro e w17 ⟨rfl, hb17⟩
  have HC17 := Lib.hid (bT HCc.out hb17)
  have HD17 := Lib.hid (bT HD16.out hb17)
  clear hb17
  clear y0 y1 y2 y3 y4 y5 y6 y7 y8
  clear z0 z1 z2 z3 z4 z5 z6 z7 z8
  have y0 := (HP15.out.below HC17.out).cell_ 0 (v := .slice G1 V.t.bs.length j1) rfl
  have y1 := (HP15.out.below HC17.out).cell_ 1 (v := .slice G2 V.t.fs.length j2) rfl
  have y2 := (HP15.out.below HC17.out).cell_ 2 (v := .slice G3 V.c.ls.length j3) rfl
  have y3 := (HP15.out.below HC17.out).cell_ 3 (v := .int .i64 V.c.hand) rfl
  have y4 := (HP15.out.below HC17.out).cell_ 4 (v := .int .i64 V.g.count) rfl
  have y5 := (HP15.out.below HC17.out).cell_ 5 (v := .int .i64 V.g.next) rfl
  have y6 := (HP15.out.below HC17.out).cell_ 6 (v := .int .i64 V.g.round) rfl
  have y7 := (HP15.out.below HC17.out).cell_ 7 (v := .slice G4 V.g.os.length j4) rfl
  have y8 := (HP15.out.below HC17.out).cell_ 8 (v := .int .i64 V.sp) rfl
  go_wp2_with fail
  refine (heldMachine_any G1 G2 G3 G4 j1 j2 j3 j4 V.t.bs.length V.t.fs.length V.c.ls.length V.g.os.length V.c.hand V.g.count V.g.next V.g.round V.sp _ 1 (HMK15.out.now HC17.out) (by omega) (by omega) t1 t2 t3 t4).mono ?_
  rintro e w18 ⟨rfl, hb18⟩
  have HB18 := Lib.hid (bT HB2.out (bT HD17.out hb18))
  clear hb18
  go_wp2
  go_ret
  exact ⟨rfl, HB18.out⟩
end Go.Proofs.YtkmocongdkacjaaGreatDoor.lExactTakeRange
