/- A part of the proofs of this seat: RgS, RelC, RgB, UnmI, UnmS, TkI, TkS. -/
import Derived.Test.YtkmocongdkacjaaGreatDoorKH
import Derived.Test.YtkmocongdkacjaaGreatDoorKD
import Derived.Test.YtkmocongdkacjaaGreatDoorKB
import Derived.Test.YtkmocongdkacjaaGreatDoorZKeep
set_option linter.unusedVariables false
set_option linter.unusedSimpArgs false
namespace Go.Proofs.YtkmocongdkacjaaGreatDoor
open Go.RowKit
set_option maxRecDepth 1000000
set_option maxHeartbeats 4000000 in
theorem sGuardRange0_any (vb vf vl vo : Value) (m : Ma) (s p c r : Int) (O : Ma → Nat → Bool) (V : Ma → Nat → Ma) (w : World) (hM : MaR w vb vf vl vo m)
    (hkv : ∀ m', O m' 0 = true → kval (s, p) = true) (hp : -9223372036854775808 ≤ p ∧ p ≤ 9223372036854775807)
    (hC : ∀ (c1 c2 c3 c4 : Value) (mk : Ma) (k : Nat) (W : World), k < 16 → MaR W c1 c2 c3 c4 mk →
      Calls Tryz.prog 71 #[.agg #[c1, c2, c3, .int .i64 mk.c.hand, .int .i64 mk.g.count, .int .i64 mk.g.next, .int .i64 mk.g.round, c4, .int .i64 mk.sp], .agg #[.int .i64 s, .int .i64 (p + k)], .int .i64 r] W (Post2 fun v w' => ∃ v1 v2 v3 v4, v = .tuple #[.agg #[v1, v2, v3, .int .i64 (V mk k).c.hand, .int .i64 (V mk k).g.count, .int .i64 (V mk k).g.next, .int .i64 (V mk k).g.round, v4, .int .i64 (V mk k).sp], .bool (O mk k)] ∧ MaM W.heap.size w' v1 v2 v3 v4 (V mk k) ∧ Below W.heap.size W w')) :
    Calls Tryz.prog 28 #[.agg #[vb, vf, vl, .int .i64 m.c.hand, .int .i64 m.g.count, .int .i64 m.g.next, .int .i64 m.g.round, vo, .int .i64 m.sp], .agg #[.int .i64 s, .int .i64 p], .int .i64 c, .int .i64 r] w (Post2 fun v w' => ∃ v1 v2 v3 v4, v = .tuple #[.agg #[v1, v2, v3, .int .i64 (rgV O V m c).c.hand, .int .i64 (rgV O V m c).g.count, .int .i64 (rgV O V m c).g.next, .int .i64 (rgV O V m c).g.round, v4, .int .i64 (rgV O V m c).sp], .bool ((rgO O V m c).isSome)] ∧ MaM w.heap.size w' v1 v2 v3 v4 (rgV O V m c) ∧ Below w.heap.size w w') := by
  have hbx := ((Own.new_ w 34 #[vb, vf, vl, .int .i64 m.c.hand, .int .i64 m.g.count, .int .i64 m.g.next, .int .i64 m.g.round, vo, .int .i64 m.sp]).alloc (o := .cells #[.int .i64 s, .int .i64 p] 36)).alloc (o := .cells #[.slice none 0 0, .slice none 0 0, .slice none 0 0, .int .i64 0, .int .i64 0, .int .i64 0, .int .i64 0, .slice none 0 0, .int .i64 0] 34)
  have hbk := (ownAt (W := w.alloc (.cells #[vb, vf, vl, .int .i64 m.c.hand, .int .i64 m.g.count, .int .i64 m.g.next, .int .i64 m.g.round, vo, .int .i64 m.sp] 34)) (g := w.heap.size + 1) (t := 36) (cs := #[.int .i64 s, .int .i64 p]) (by simp)).alloc (o := .cells #[.slice none 0 0, .slice none 0 0, .slice none 0 0, .int .i64 0, .int .i64 0, .int .i64 0, .int .i64 0, .slice none 0 0, .int .i64 0] 34)
  have hbo := ownAt (W := (w.alloc (.cells #[vb, vf, vl, .int .i64 m.c.hand, .int .i64 m.g.count, .int .i64 m.g.next, .int .i64 m.g.round, vo, .int .i64 m.sp] 34)).alloc (.cells #[.int .i64 s, .int .i64 p] 36)) (g := w.heap.size + 1 + 1) (t := 34) (cs := #[.slice none 0 0, .slice none 0 0, .slice none 0 0, .int .i64 0, .int .i64 0, .int .i64 0, .int .i64 0, .slice none 0 0, .int .i64 0]) (by simp)
  have hb0 : Below w.heap.size w (((w.alloc (.cells #[vb, vf, vl, .int .i64 m.c.hand, .int .i64 m.g.count, .int .i64 m.g.next, .int .i64 m.g.round, vo, .int .i64 m.sp] 34)).alloc (.cells #[.int .i64 s, .int .i64 p] 36)).alloc (.cells #[.slice none 0 0, .slice none 0 0, .slice none 0 0, .int .i64 0, .int .i64 0, .int .i64 0, .int .i64 0, .slice none 0 0, .int .i64 0] 34)) := bA (bA (bA bR))
  have hs0 : (((w.alloc (.cells #[vb, vf, vl, .int .i64 m.c.hand, .int .i64 m.g.count, .int .i64 m.g.next, .int .i64 m.g.round, vo, .int .i64 m.sp] 34)).alloc (.cells #[.int .i64 s, .int .i64 p] 36)).alloc (.cells #[.slice none 0 0, .slice none 0 0, .slice none 0 0, .int .i64 0, .int .i64 0, .int .i64 0, .int .i64 0, .slice none 0 0, .int .i64 0] 34)).heap.size = w.heap.size + 3 := by simp
  generalize hW : ((w.alloc (.cells #[vb, vf, vl, .int .i64 m.c.hand, .int .i64 m.g.count, .int .i64 m.g.next, .int .i64 m.g.round, vo, .int .i64 m.sp] 34)).alloc (.cells #[.int .i64 s, .int .i64 p] 36)).alloc (.cells #[.slice none 0 0, .slice none 0 0, .slice none 0 0, .int .i64 0, .int .i64 0, .int .i64 0, .int .i64 0, .slice none 0 0, .int .i64 0] 34) = W0 at hbx hbk hbo hb0 hs0
  have HX0 := Lib.hid hbx
  have HK0 := Lib.hid hbk
  have HR0 := Lib.hid hbo
  have HB0 := Lib.hid hb0
  have HS0 : Hid (w.heap.size + 3 ≤ W0.heap.size) := Nat.le_of_eq hs0.symm
  clear hbx hbk hbo hb0
  have HM := Lib.hid hM
  clear hM
  have m00 := HX0.out.cell_ 0 (v := vb) rfl
  have m10 := HX0.out.cell_ 1 (v := vf) rfl
  have m20 := HX0.out.cell_ 2 (v := vl) rfl
  have m30 := HX0.out.cell_ 3 (v := .int .i64 m.c.hand) rfl
  have m40 := HX0.out.cell_ 4 (v := .int .i64 m.g.count) rfl
  have m50 := HX0.out.cell_ 5 (v := .int .i64 m.g.next) rfl
  have m60 := HX0.out.cell_ 6 (v := .int .i64 m.g.round) rfl
  have m70 := HX0.out.cell_ 7 (v := vo) rfl
  have m80 := HX0.out.cell_ 8 (v := .int .i64 m.sp) rfl
  go_enter Tryz.func28, Tryz.ntmps28
  go_wp2_with fail
  refine (sMachineValid_any vb vf vl vo m _ (HM.out.now HB0.out)).mono ?_
  rintro e w2 ⟨rfl, hb2⟩
  have HX2 := Lib.hid (HX0.out.below hb2)
  have HK2 := Lib.hid (HK0.out.below hb2)
  have HR2 := Lib.hid (HR0.out.below hb2)
  have HB2 := Lib.hid (bT HB0.out hb2)
  have HS2 := Lib.hid (Nat.le_trans HS0.out hb2.size)
  clear hb2
  clear m00 m10 m20 m30 m40 m50 m60 m70 m80
  cases h1 : mav m with
  | false =>
    have HO : Hid (rgO O V m c = none) := rgO_no (fun h => by rw [h1] at h; cases h.1)
    have HA : Hid ((rgO O V m c).isSome = false) := by show _ = _; rw [HO.out]; rfl
    have HV : Hid (rgV O V m c = maz) := by show _ = _; unfold rgV; rw [HO.out]; rfl
    have r0x := HR2.out.cell_ 0 (v := .slice none 0 0) rfl
    have r1x := HR2.out.cell_ 1 (v := .slice none 0 0) rfl
    have r2x := HR2.out.cell_ 2 (v := .slice none 0 0) rfl
    have r3x := HR2.out.cell_ 3 (v := .int .i64 0) rfl
    have r4x := HR2.out.cell_ 4 (v := .int .i64 0) rfl
    have r5x := HR2.out.cell_ 5 (v := .int .i64 0) rfl
    have r6x := HR2.out.cell_ 6 (v := .int .i64 0) rfl
    have r7x := HR2.out.cell_ 7 (v := .slice none 0 0) rfl
    have r8x := HR2.out.cell_ 8 (v := .int .i64 0) rfl
    have z0x := HR2.out.free 0
    have z1x := HR2.out.free 1
    have z2x := HR2.out.free 2
    have z3x := HR2.out.free 3
    have z4x := HR2.out.free 4
    have z5x := HR2.out.free 5
    have z6x := HR2.out.free 6
    have z7x := HR2.out.free 7
    have z8x := HR2.out.free 8
    go_wp2
    have o3 := ((((((((HR2.out.set_ 0 (.slice none 0 0)).set_ 1 (.slice none 0 0)).set_ 2 (.slice none 0 0)).set_ 3 (.int .i64 0)).set_ 4 (.int .i64 0)).set_ 5 (.int .i64 0)).set_ 6 (.int .i64 0)).set_ 7 (.slice none 0 0)).set_ 8 (.int .i64 0)
    have t0 := o3.cell_ 0 (v := .slice none 0 0) (by simp)
    have t1 := o3.cell_ 1 (v := .slice none 0 0) (by simp)
    have t2 := o3.cell_ 2 (v := .slice none 0 0) (by simp)
    have t3 := o3.cell_ 3 (v := .int .i64 0) (by simp)
    have t4 := o3.cell_ 4 (v := .int .i64 0) (by simp)
    have t5 := o3.cell_ 5 (v := .int .i64 0) (by simp)
    have t6 := o3.cell_ 6 (v := .int .i64 0) (by simp)
    have t7 := o3.cell_ 7 (v := .slice none 0 0) (by simp)
    have t8 := o3.cell_ 8 (v := .int .i64 0) (by simp)
    refine bodyPost_ret (v := .tuple #[.agg #[.slice none 0 0, .slice none 0 0, .slice none 0 0, .int .i64 0, .int .i64 0, .int .i64 0, .int .i64 0, .slice none 0 0, .int .i64 0], .bool false]) (by simp [results, Tryz.results28, go_sem, t0, t1, t2, t3, t4, t5, t6, t7, t8]) rfl ⟨_, rfl, _, _, _, _, by rw [HA.out, HV.out]; rfl, by rw [HV.out]; exact mam_z, ?_⟩
    repeat (refine bS ?_ (by simp <;> omega))
    exact HB2.out
  | true =>
  by_cases h2 : c < 1
  · have HO : Hid (rgO O V m c = none) := rgO_no (fun h => by omega)
    have HA : Hid ((rgO O V m c).isSome = false) := by show _ = _; rw [HO.out]; rfl
    have HV : Hid (rgV O V m c = maz) := by show _ = _; unfold rgV; rw [HO.out]; rfl
    have r0x := HR2.out.cell_ 0 (v := .slice none 0 0) rfl
    have r1x := HR2.out.cell_ 1 (v := .slice none 0 0) rfl
    have r2x := HR2.out.cell_ 2 (v := .slice none 0 0) rfl
    have r3x := HR2.out.cell_ 3 (v := .int .i64 0) rfl
    have r4x := HR2.out.cell_ 4 (v := .int .i64 0) rfl
    have r5x := HR2.out.cell_ 5 (v := .int .i64 0) rfl
    have r6x := HR2.out.cell_ 6 (v := .int .i64 0) rfl
    have r7x := HR2.out.cell_ 7 (v := .slice none 0 0) rfl
    have r8x := HR2.out.cell_ 8 (v := .int .i64 0) rfl
    have z0x := HR2.out.free 0
    have z1x := HR2.out.free 1
    have z2x := HR2.out.free 2
    have z3x := HR2.out.free 3
    have z4x := HR2.out.free 4
    have z5x := HR2.out.free 5
    have z6x := HR2.out.free 6
    have z7x := HR2.out.free 7
    have z8x := HR2.out.free 8
    go_wp2
    have o3 := ((((((((HR2.out.set_ 0 (.slice none 0 0)).set_ 1 (.slice none 0 0)).set_ 2 (.slice none 0 0)).set_ 3 (.int .i64 0)).set_ 4 (.int .i64 0)).set_ 5 (.int .i64 0)).set_ 6 (.int .i64 0)).set_ 7 (.slice none 0 0)).set_ 8 (.int .i64 0)
    have t0 := o3.cell_ 0 (v := .slice none 0 0) (by simp)
    have t1 := o3.cell_ 1 (v := .slice none 0 0) (by simp)
    have t2 := o3.cell_ 2 (v := .slice none 0 0) (by simp)
    have t3 := o3.cell_ 3 (v := .int .i64 0) (by simp)
    have t4 := o3.cell_ 4 (v := .int .i64 0) (by simp)
    have t5 := o3.cell_ 5 (v := .int .i64 0) (by simp)
    have t6 := o3.cell_ 6 (v := .int .i64 0) (by simp)
    have t7 := o3.cell_ 7 (v := .slice none 0 0) (by simp)
    have t8 := o3.cell_ 8 (v := .int .i64 0) (by simp)
    refine bodyPost_ret (v := .tuple #[.agg #[.slice none 0 0, .slice none 0 0, .slice none 0 0, .int .i64 0, .int .i64 0, .int .i64 0, .int .i64 0, .slice none 0 0, .int .i64 0], .bool false]) (by simp [results, Tryz.results28, go_sem, t0, t1, t2, t3, t4, t5, t6, t7, t8]) rfl ⟨_, rfl, _, _, _, _, by rw [HA.out, HV.out]; rfl, by rw [HV.out]; exact mam_z, ?_⟩
    repeat (refine bS ?_ (by simp <;> omega))
    exact HB2.out
  by_cases h3 : 16 < c
  · have HO : Hid (rgO O V m c = none) := rgO_no (fun h => by omega)
    have HA : Hid ((rgO O V m c).isSome = false) := by show _ = _; rw [HO.out]; rfl
    have HV : Hid (rgV O V m c = maz) := by show _ = _; unfold rgV; rw [HO.out]; rfl
    have r0x := HR2.out.cell_ 0 (v := .slice none 0 0) rfl
    have r1x := HR2.out.cell_ 1 (v := .slice none 0 0) rfl
    have r2x := HR2.out.cell_ 2 (v := .slice none 0 0) rfl
    have r3x := HR2.out.cell_ 3 (v := .int .i64 0) rfl
    have r4x := HR2.out.cell_ 4 (v := .int .i64 0) rfl
    have r5x := HR2.out.cell_ 5 (v := .int .i64 0) rfl
    have r6x := HR2.out.cell_ 6 (v := .int .i64 0) rfl
    have r7x := HR2.out.cell_ 7 (v := .slice none 0 0) rfl
    have r8x := HR2.out.cell_ 8 (v := .int .i64 0) rfl
    have z0x := HR2.out.free 0
    have z1x := HR2.out.free 1
    have z2x := HR2.out.free 2
    have z3x := HR2.out.free 3
    have z4x := HR2.out.free 4
    have z5x := HR2.out.free 5
    have z6x := HR2.out.free 6
    have z7x := HR2.out.free 7
    have z8x := HR2.out.free 8
    go_wp2
    have o3 := ((((((((HR2.out.set_ 0 (.slice none 0 0)).set_ 1 (.slice none 0 0)).set_ 2 (.slice none 0 0)).set_ 3 (.int .i64 0)).set_ 4 (.int .i64 0)).set_ 5 (.int .i64 0)).set_ 6 (.int .i64 0)).set_ 7 (.slice none 0 0)).set_ 8 (.int .i64 0)
    have t0 := o3.cell_ 0 (v := .slice none 0 0) (by simp)
    have t1 := o3.cell_ 1 (v := .slice none 0 0) (by simp)
    have t2 := o3.cell_ 2 (v := .slice none 0 0) (by simp)
    have t3 := o3.cell_ 3 (v := .int .i64 0) (by simp)
    have t4 := o3.cell_ 4 (v := .int .i64 0) (by simp)
    have t5 := o3.cell_ 5 (v := .int .i64 0) (by simp)
    have t6 := o3.cell_ 6 (v := .int .i64 0) (by simp)
    have t7 := o3.cell_ 7 (v := .slice none 0 0) (by simp)
    have t8 := o3.cell_ 8 (v := .int .i64 0) (by simp)
    refine bodyPost_ret (v := .tuple #[.agg #[.slice none 0 0, .slice none 0 0, .slice none 0 0, .int .i64 0, .int .i64 0, .int .i64 0, .int .i64 0, .slice none 0 0, .int .i64 0], .bool false]) (by simp [results, Tryz.results28, go_sem, t0, t1, t2, t3, t4, t5, t6, t7, t8]) rfl ⟨_, rfl, _, _, _, _, by rw [HA.out, HV.out]; rfl, by rw [HV.out]; exact mam_z, ?_⟩
    repeat (refine bS ?_ (by simp <;> omega))
    exact HB2.out
  obtain ⟨n, rfl⟩ := Int.eq_ofNat_of_zero_le (show 0 ≤ c by omega)
  have hi1 : 1 ≤ n := by omega
  have hi2 : n ≤ 16 := by omega
  obtain ⟨a1, a2, a3, a4⟩ := mav_len h1
  have m02 := HX2.out.cell_ 0 (v := vb) rfl
  have m12 := HX2.out.cell_ 1 (v := vf) rfl
  have m22 := HX2.out.cell_ 2 (v := vl) rfl
  have m32 := HX2.out.cell_ 3 (v := .int .i64 m.c.hand) rfl
  have m42 := HX2.out.cell_ 4 (v := .int .i64 m.g.count) rfl
  have m52 := HX2.out.cell_ 5 (v := .int .i64 m.g.next) rfl
  have m62 := HX2.out.cell_ 6 (v := .int .i64 m.g.round) rfl
  have m72 := HX2.out.cell_ 7 (v := vo) rfl
  have m82 := HX2.out.cell_ 8 (v := .int .i64 m.sp) rfl
  go_wp2_with fail
  refine (l6Copy_any vb vf vl vo m _ (HM.out.now HB2.out) a1 a2 a3 a4).mono ?_
  rintro e w3 ⟨_, rfl, q1, q2, q3, q4, rfl, hM3, hb3⟩
  have hs2 := HS2.out
  have hM3' := hM3.mono hs2
  obtain ⟨B1, d1, rfl, _⟩ := hM3.t.b
  obtain ⟨B2, d2, rfl, _⟩ := hM3.t.f
  obtain ⟨B3, d3, rfl, _⟩ := hM3.l
  obtain ⟨B4, d4, rfl, _⟩ := hM3.o
  have HX3 := Lib.hid (HX2.out.below hb3)
  have HK3 := Lib.hid (HK2.out.below hb3)
  have HR3 := Lib.hid (HR2.out.below hb3)
  have HB3 := Lib.hid (bT HB2.out hb3)
  have HS3 := Lib.hid (Nat.le_trans HS2.out hb3.size)
  clear hb3
  clear m02 m12 m22 m32 m42 m52 m62 m72 m82
  clear hM3
  have HO2 := Lib.hid (Own.new_ w3 34 #[.slice B1 m.t.bs.length d1, .slice B2 m.t.fs.length d2, .slice B3 m.c.ls.length d3, .int .i64 m.c.hand, .int .i64 m.g.count, .int .i64 m.g.next, .int .i64 m.g.round, .slice B4 m.g.os.length d4, .int .i64 m.sp])
  have HK4 := Lib.hid (HK3.out.alloc (o := .cells #[.slice B1 m.t.bs.length d1, .slice B2 m.t.fs.length d2, .slice B3 m.c.ls.length d3, .int .i64 m.c.hand, .int .i64 m.g.count, .int .i64 m.g.next, .int .i64 m.g.round, .slice B4 m.g.os.length d4, .int .i64 m.sp] 34))
  have HR4 := Lib.hid (HR3.out.alloc (o := .cells #[.slice B1 m.t.bs.length d1, .slice B2 m.t.fs.length d2, .slice B3 m.c.ls.length d3, .int .i64 m.c.hand, .int .i64 m.g.count, .int .i64 m.g.next, .int .i64 m.g.round, .slice B4 m.g.os.length d4, .int .i64 m.sp] 34))
  have HM4 := Lib.hid (hM3'.now (bA (bR (w := w3)) (o := .cells #[.slice B1 m.t.bs.length d1, .slice B2 m.t.fs.length d2, .slice B3 m.c.ls.length d3, .int .i64 m.c.hand, .int .i64 m.g.count, .int .i64 m.g.next, .int .i64 m.g.round, .slice B4 m.g.os.length d4, .int .i64 m.sp] 34)))
  have HB4 := Lib.hid (bA HB3.out (o := .cells #[.slice B1 m.t.bs.length d1, .slice B2 m.t.fs.length d2, .slice B3 m.c.ls.length d3, .int .i64 m.c.hand, .int .i64 m.g.count, .int .i64 m.g.next, .int .i64 m.g.round, .slice B4 m.g.os.length d4, .int .i64 m.sp] 34))
  have hgb := HR3.out.lt
  have hs3 := HS3.out
  clear hM3'
  go_wp2
  go_loopw [11] (fun u wr => ∃ (k : Nat) (mk : Ma) (c1 c2 c3 c4 : Value), k ≤ n ∧ u = .int .i64 k ∧ Hid (rgN O V m k = some mk) ∧ Own wr w3.heap.size 34 #[c1, c2, c3, .int .i64 mk.c.hand, .int .i64 mk.g.count, .int .i64 mk.g.next, .int .i64 mk.g.round, c4, .int .i64 mk.sp] ∧ MaM (w.heap.size + 3) wr c1 c2 c3 c4 mk ∧ Hid (0 < k → kval (s, p) = true) ∧ Own wr (w.heap.size + 1) 36 #[.int .i64 s, .int .i64 p] ∧ Own wr (w.heap.size + 1 + 1) 34 #[.slice none 0 0, .slice none 0 0, .slice none 0 0, .int .i64 0, .int .i64 0, .int .i64 0, .int .i64 0, .slice none 0 0, .int .i64 0] ∧ Below w.heap.size w wr) (fun u _ => n - (intOf u).toNat)
  case atStart => exact ⟨0, m, _, _, _, _, by omega, rfl, rfl, HO2.out, HM4.out, (fun h => absurd h (by omega)), HK4.out, HR4.out, HB4.out⟩
  case round =>
    obtain ⟨k, mk, c1, c2, c3, c4, hk, rfl, hput, hob, hmk, hkk, hkb, hrb, hbw⟩ := hrel
    have HOB := Lib.hid hob
    have HMK := Lib.hid hmk
    have HKB := Lib.hid hkb
    have HRB := Lib.hid hrb
    have HBW := Lib.hid hbw
    clear hob hmk hkb hrb hbw
    by_cases hlt : k < n
    · have hwk : IntKind.i64.wrap (p + (k : Int)) = p + k := by
        rcases Nat.eq_zero_or_pos k with h0 | h0
        · subst h0
          exact IntWalk.i64_in _ (by omega)
        · have := kval_iff.1 (hkk.out h0)
          exact IntWalk.i64_in _ (by omega)
      have HC := Lib.hid (fun W (h : MaR W c1 c2 c3 c4 mk) => hC c1 c2 c3 c4 mk k W (by omega) h)
      have p0y := HOB.out.cell_ 0 (v := c1) rfl
      have p1y := HOB.out.cell_ 1 (v := c2) rfl
      have p2y := HOB.out.cell_ 2 (v := c3) rfl
      have p3y := HOB.out.cell_ 3 (v := .int .i64 mk.c.hand) rfl
      have p4y := HOB.out.cell_ 4 (v := .int .i64 mk.g.count) rfl
      have p5y := HOB.out.cell_ 5 (v := .int .i64 mk.g.next) rfl
      have p6y := HOB.out.cell_ 6 (v := .int .i64 mk.g.round) rfl
      have p7y := HOB.out.cell_ 7 (v := c4) rfl
      have p8y := HOB.out.cell_ 8 (v := .int .i64 mk.sp) rfl
      have q0 := HKB.out.cell_ 0 (v := .int .i64 s) rfl
      have q1 := HKB.out.cell_ 1 (v := .int .i64 p) rfl
      have hgl0 := HOB.out.lt
      have hgl1 := HKB.out.lt
      go_wp2_with fail
      refine (HC.out _ HMK.out.r).mono ?_
      rintro e w5 ⟨_, rfl, e1, e2, e3, e4, rfl, hM5, hb5⟩
      have hsw : w.heap.size + 3 ≤ wr.heap.size := Nat.le_trans hs3 (Nat.le_of_lt HOB.out.lt)
      have HM5 := Lib.hid (hM5.mono hsw)
      obtain ⟨E1, n1, rfl, _⟩ := HM5.out.t.b
      obtain ⟨E2, n2, rfl, _⟩ := HM5.out.t.f
      obtain ⟨E3, n3, rfl, _⟩ := HM5.out.l
      obtain ⟨E4, n4, rfl, _⟩ := HM5.out.o
      have HOB5 := HOB.out.below hb5
      have hgl5 := HOB5.lt
      have hO6 := HOB5.alloc (o := .cells #[.slice E1 (V mk k).t.bs.length n1, .slice E2 (V mk k).t.fs.length n2, .slice E3 (V mk k).c.ls.length n3, .int .i64 (V mk k).c.hand, .int .i64 (V mk k).g.count, .int .i64 (V mk k).g.next, .int .i64 (V mk k).g.round, .slice E4 (V mk k).g.os.length n4, .int .i64 (V mk k).sp] 34)
      have hK6 := (HKB.out.below hb5).alloc (o := .cells #[.slice E1 (V mk k).t.bs.length n1, .slice E2 (V mk k).t.fs.length n2, .slice E3 (V mk k).c.ls.length n3, .int .i64 (V mk k).c.hand, .int .i64 (V mk k).g.count, .int .i64 (V mk k).g.next, .int .i64 (V mk k).g.round, .slice E4 (V mk k).g.os.length n4, .int .i64 (V mk k).sp] 34)
      have hR6 := (HRB.out.below hb5).alloc (o := .cells #[.slice E1 (V mk k).t.bs.length n1, .slice E2 (V mk k).t.fs.length n2, .slice E3 (V mk k).c.ls.length n3, .int .i64 (V mk k).c.hand, .int .i64 (V mk k).g.count, .int .i64 (V mk k).g.next, .int .i64 (V mk k).g.round, .slice E4 (V mk k).g.os.length n4, .int .i64 (V mk k).sp] 34)
      have hN6 := Own.new_ w5 34 #[.slice E1 (V mk k).t.bs.length n1, .slice E2 (V mk k).t.fs.length n2, .slice E3 (V mk k).c.ls.length n3, .int .i64 (V mk k).c.hand, .int .i64 (V mk k).g.count, .int .i64 (V mk k).g.next, .int .i64 (V mk k).g.round, .slice E4 (V mk k).g.os.length n4, .int .i64 (V mk k).sp]
      have hM6 := HM5.out.now (bA (bR (w := w5)) (o := .cells #[.slice E1 (V mk k).t.bs.length n1, .slice E2 (V mk k).t.fs.length n2, .slice E3 (V mk k).c.ls.length n3, .int .i64 (V mk k).c.hand, .int .i64 (V mk k).g.count, .int .i64 (V mk k).g.next, .int .i64 (V mk k).g.round, .slice E4 (V mk k).g.os.length n4, .int .i64 (V mk k).sp] 34))
      have hB6 := bA (bT HBW.out hb5) (o := .cells #[.slice E1 (V mk k).t.bs.length n1, .slice E2 (V mk k).t.fs.length n2, .slice E3 (V mk k).c.ls.length n3, .int .i64 (V mk k).c.hand, .int .i64 (V mk k).g.count, .int .i64 (V mk k).g.next, .int .i64 (V mk k).g.round, .slice E4 (V mk k).g.os.length n4, .int .i64 (V mk k).sp] 34)
      clear p0y p1y p2y p3y p4y p5y p6y p7y p8y q0 q1 hM5 hb5 HOB5
      have hne1 : w3.heap.size ≠ w5.heap.size := by omega
      generalize hW6 : w5.alloc (.cells #[.slice E1 (V mk k).t.bs.length n1, .slice E2 (V mk k).t.fs.length n2, .slice E3 (V mk k).c.ls.length n3, .int .i64 (V mk k).c.hand, .int .i64 (V mk k).g.count, .int .i64 (V mk k).g.next, .int .i64 (V mk k).g.round, .slice E4 (V mk k).g.os.length n4, .int .i64 (V mk k).sp] 34) = w6 at *
      have HO6 := Lib.hid hO6
      have HK6 := Lib.hid hK6
      have HR6 := Lib.hid hR6
      have HN6 := Lib.hid hN6
      have HM6 := Lib.hid hM6
      have HB6 := Lib.hid hB6
      clear hO6 hK6 hR6 hN6 hM6 hB6
      have hl6 := HO6.out.lt
      have hl7 := HR6.out.lt
      have hl8 := HN6.out.lt
      cases hok : O mk k with
      | false =>
        have HO : Hid (rgO O V m n = none) := by show _ = _; rw [rgO_yes h1 hi1 hi2]; exact rgN_none (rgN_bad hput.out hok) (by omega)
        have HA : Hid ((rgO O V m n).isSome = false) := by show _ = _; rw [HO.out]; rfl
        have HV : Hid (rgV O V m n = maz) := by show _ = _; unfold rgV; rw [HO.out]; rfl
        have r0x := HR6.out.cell_ 0 (v := .slice none 0 0) rfl
        have r1x := HR6.out.cell_ 1 (v := .slice none 0 0) rfl
        have r2x := HR6.out.cell_ 2 (v := .slice none 0 0) rfl
        have r3x := HR6.out.cell_ 3 (v := .int .i64 0) rfl
        have r4x := HR6.out.cell_ 4 (v := .int .i64 0) rfl
        have r5x := HR6.out.cell_ 5 (v := .int .i64 0) rfl
        have r6x := HR6.out.cell_ 6 (v := .int .i64 0) rfl
        have r7x := HR6.out.cell_ 7 (v := .slice none 0 0) rfl
        have r8x := HR6.out.cell_ 8 (v := .int .i64 0) rfl
        have z0x := HR6.out.free 0
        have z1x := HR6.out.free 1
        have z2x := HR6.out.free 2
        have z3x := HR6.out.free 3
        have z4x := HR6.out.free 4
        have z5x := HR6.out.free 5
        have z6x := HR6.out.free 6
        have z7x := HR6.out.free 7
        have z8x := HR6.out.free 8
        go_wp2
        have o3 := ((((((((HR6.out.set_ 0 (.slice none 0 0)).set_ 1 (.slice none 0 0)).set_ 2 (.slice none 0 0)).set_ 3 (.int .i64 0)).set_ 4 (.int .i64 0)).set_ 5 (.int .i64 0)).set_ 6 (.int .i64 0)).set_ 7 (.slice none 0 0)).set_ 8 (.int .i64 0)
        have t0 := o3.cell_ 0 (v := .slice none 0 0) (by simp)
        have t1 := o3.cell_ 1 (v := .slice none 0 0) (by simp)
        have t2 := o3.cell_ 2 (v := .slice none 0 0) (by simp)
        have t3 := o3.cell_ 3 (v := .int .i64 0) (by simp)
        have t4 := o3.cell_ 4 (v := .int .i64 0) (by simp)
        have t5 := o3.cell_ 5 (v := .int .i64 0) (by simp)
        have t6 := o3.cell_ 6 (v := .int .i64 0) (by simp)
        have t7 := o3.cell_ 7 (v := .slice none 0 0) (by simp)
        have t8 := o3.cell_ 8 (v := .int .i64 0) (by simp)
        refine bodyPost_ret (v := .tuple #[.agg #[.slice none 0 0, .slice none 0 0, .slice none 0 0, .int .i64 0, .int .i64 0, .int .i64 0, .int .i64 0, .slice none 0 0, .int .i64 0], .bool false]) (by simp [results, Tryz.results28, go_sem, t0, t1, t2, t3, t4, t5, t6, t7, t8]) rfl ⟨_, rfl, _, _, _, _, by rw [HA.out, HV.out]; rfl, by rw [HV.out]; exact mam_z, ?_⟩
        repeat (refine bS ?_ (by simp <;> omega))
        exact HB6.out
      | true =>
        have HPUT := Lib.hid (rgN_step hput.out hok)
        have p0z := HO6.out.cell_ 0 (v := c1) rfl
        have p1z := HO6.out.cell_ 1 (v := c2) rfl
        have p2z := HO6.out.cell_ 2 (v := c3) rfl
        have p3z := HO6.out.cell_ 3 (v := .int .i64 mk.c.hand) rfl
        have p4z := HO6.out.cell_ 4 (v := .int .i64 mk.g.count) rfl
        have p5z := HO6.out.cell_ 5 (v := .int .i64 mk.g.next) rfl
        have p6z := HO6.out.cell_ 6 (v := .int .i64 mk.g.round) rfl
        have p7z := HO6.out.cell_ 7 (v := c4) rfl
        have p8z := HO6.out.cell_ 8 (v := .int .i64 mk.sp) rfl
        have w0z := HO6.out.free 0
        have w1z := HO6.out.free 1
        have w2z := HO6.out.free 2
        have w3z := HO6.out.free 3
        have w4z := HO6.out.free 4
        have w5z := HO6.out.free 5
        have w6z := HO6.out.free 6
        have w7z := HO6.out.free 7
        have w8z := HO6.out.free 8
        have p0n := HN6.out.cell_ 0 (v := .slice E1 (V mk k).t.bs.length n1) rfl
        have p1n := HN6.out.cell_ 1 (v := .slice E2 (V mk k).t.fs.length n2) rfl
        have p2n := HN6.out.cell_ 2 (v := .slice E3 (V mk k).c.ls.length n3) rfl
        have p3n := HN6.out.cell_ 3 (v := .int .i64 (V mk k).c.hand) rfl
        have p4n := HN6.out.cell_ 4 (v := .int .i64 (V mk k).g.count) rfl
        have p5n := HN6.out.cell_ 5 (v := .int .i64 (V mk k).g.next) rfl
        have p6n := HN6.out.cell_ 6 (v := .int .i64 (V mk k).g.round) rfl
        have p7n := HN6.out.cell_ 7 (v := .slice E4 (V mk k).g.os.length n4) rfl
        have p8n := HN6.out.cell_ 8 (v := .int .i64 (V mk k).sp) rfl
        go_wp2
        go_roundw
        case rel =>
          refine ⟨k + 1, V mk k, _, _, _, _, by omega, by go_num, HPUT, HO6.out.set9 _ _ _ _ _ _ _ _ _, HM6.out.far9 HO6.out _ _ _ _ _ _ _ _ _, (fun _ => (Nat.eq_zero_or_pos k).elim (fun h0 => by subst h0; exact hkv mk hok) (fun h0 => hkk.out h0)), HK6.out.far9 (by omega) _ _ _ _ _ _ _ _ _, HR6.out.far9 (by omega) _ _ _ _ _ _ _ _ _, ?_⟩
          repeat (refine bS ?_ (by simp <;> omega))
          exact HB6.out
        case measure => simp [intOf]; omega
    · obtain rfl : k = n := by omega
      have HO : Hid (rgO O V m k = some mk) := by show _ = _; rw [rgO_yes h1 hi1 hi2]; exact hput.out
      have HA : Hid ((rgO O V m k).isSome = true) := by show _ = _; rw [HO.out]; rfl
      have HV : Hid (rgV O V m k = mk) := by show _ = _; unfold rgV; rw [HO.out]; rfl
      obtain ⟨C1, n1, rfl, _⟩ := HMK.out.t.b
      obtain ⟨C2, n2, rfl, _⟩ := HMK.out.t.f
      obtain ⟨C3, n3, rfl, _⟩ := HMK.out.l
      obtain ⟨C4, n4, rfl, _⟩ := HMK.out.o
      have p0z := HOB.out.cell_ 0 (v := .slice C1 mk.t.bs.length n1) rfl
      have p1z := HOB.out.cell_ 1 (v := .slice C2 mk.t.fs.length n2) rfl
      have p2z := HOB.out.cell_ 2 (v := .slice C3 mk.c.ls.length n3) rfl
      have p3z := HOB.out.cell_ 3 (v := .int .i64 mk.c.hand) rfl
      have p4z := HOB.out.cell_ 4 (v := .int .i64 mk.g.count) rfl
      have p5z := HOB.out.cell_ 5 (v := .int .i64 mk.g.next) rfl
      have p6z := HOB.out.cell_ 6 (v := .int .i64 mk.g.round) rfl
      have p7z := HOB.out.cell_ 7 (v := .slice C4 mk.g.os.length n4) rfl
      have p8z := HOB.out.cell_ 8 (v := .int .i64 mk.sp) rfl
      have r0x := HRB.out.cell_ 0 (v := .slice none 0 0) rfl
      have r1x := HRB.out.cell_ 1 (v := .slice none 0 0) rfl
      have r2x := HRB.out.cell_ 2 (v := .slice none 0 0) rfl
      have r3x := HRB.out.cell_ 3 (v := .int .i64 0) rfl
      have r4x := HRB.out.cell_ 4 (v := .int .i64 0) rfl
      have r5x := HRB.out.cell_ 5 (v := .int .i64 0) rfl
      have r6x := HRB.out.cell_ 6 (v := .int .i64 0) rfl
      have r7x := HRB.out.cell_ 7 (v := .slice none 0 0) rfl
      have r8x := HRB.out.cell_ 8 (v := .int .i64 0) rfl
      have z0x := HRB.out.free 0
      have z1x := HRB.out.free 1
      have z2x := HRB.out.free 2
      have z3x := HRB.out.free 3
      have z4x := HRB.out.free 4
      have z5x := HRB.out.free 5
      have z6x := HRB.out.free 6
      have z7x := HRB.out.free 7
      have z8x := HRB.out.free 8
      have hgl := HOB.out.lt
      have hrl := HRB.out.lt
      go_wp2
      have o3 := HRB.out.set9 (.slice C1 mk.t.bs.length n1) (.slice C2 mk.t.fs.length n2) (.slice C3 mk.c.ls.length n3) (.int .i64 mk.c.hand) (.int .i64 mk.g.count) (.int .i64 mk.g.next) (.int .i64 mk.g.round) (.slice C4 mk.g.os.length n4) (.int .i64 mk.sp)
      have p0t := o3.cell_ 0 (v := .slice C1 mk.t.bs.length n1) rfl
      have p1t := o3.cell_ 1 (v := .slice C2 mk.t.fs.length n2) rfl
      have p2t := o3.cell_ 2 (v := .slice C3 mk.c.ls.length n3) rfl
      have p3t := o3.cell_ 3 (v := .int .i64 mk.c.hand) rfl
      have p4t := o3.cell_ 4 (v := .int .i64 mk.g.count) rfl
      have p5t := o3.cell_ 5 (v := .int .i64 mk.g.next) rfl
      have p6t := o3.cell_ 6 (v := .int .i64 mk.g.round) rfl
      have p7t := o3.cell_ 7 (v := .slice C4 mk.g.os.length n4) rfl
      have p8t := o3.cell_ 8 (v := .int .i64 mk.sp) rfl
      refine bodyPost_ret (v := .tuple #[.agg #[.slice C1 mk.t.bs.length n1, .slice C2 mk.t.fs.length n2, .slice C3 mk.c.ls.length n3, .int .i64 mk.c.hand, .int .i64 mk.g.count, .int .i64 mk.g.next, .int .i64 mk.g.round, .slice C4 mk.g.os.length n4, .int .i64 mk.sp], .bool true]) (by simp [results, Tryz.results28, go_sem, p0t, p1t, p2t, p3t, p4t, p5t, p6t, p7t, p8t]) rfl ⟨_, rfl, _, _, _, _, by rw [HA.out, HV.out], ?_, ?_⟩
      · rw [HV.out]
        exact (HMK.out.far9 HRB.out _ _ _ _ _ _ _ _ _).mono (by omega)
      · repeat (refine bS ?_ (by simp <;> omega))
        exact HBW.out
theorem sGuardRange_any (vb vf vl vo : Value) (m : Ma) (s p c r : Int) (w : World) (hM : MaR w vb vf vl vo m) (hp : -9223372036854775808 ≤ p ∧ p ≤ 9223372036854775807) :
    Calls Tryz.prog 28 #[.agg #[vb, vf, vl, .int .i64 m.c.hand, .int .i64 m.g.count, .int .i64 m.g.next, .int .i64 m.g.round, vo, .int .i64 m.sp], .agg #[.int .i64 s, .int .i64 p], .int .i64 c, .int .i64 r] w (Post2 fun v w' => ∃ v1 v2 v3 v4, v = .tuple #[.agg #[v1, v2, v3, .int .i64 (rgV (fun m' k => grdO m' s (p + k) r) (fun m' k => grdV m' s (p + k) r) m c).c.hand, .int .i64 (rgV (fun m' k => grdO m' s (p + k) r) (fun m' k => grdV m' s (p + k) r) m c).g.count, .int .i64 (rgV (fun m' k => grdO m' s (p + k) r) (fun m' k => grdV m' s (p + k) r) m c).g.next, .int .i64 (rgV (fun m' k => grdO m' s (p + k) r) (fun m' k => grdV m' s (p + k) r) m c).g.round, v4, .int .i64 (rgV (fun m' k => grdO m' s (p + k) r) (fun m' k => grdV m' s (p + k) r) m c).sp], .bool ((rgO (fun m' k => grdO m' s (p + k) r) (fun m' k => grdV m' s (p + k) r) m c).isSome)] ∧ MaM w.heap.size w' v1 v2 v3 v4 (rgV (fun m' k => grdO m' s (p + k) r) (fun m' k => grdV m' s (p + k) r) m c) ∧ Below w.heap.size w w') :=
  sGuardRange0_any vb vf vl vo m s p c r (fun m' k => grdO m' s (p + k) r) (fun m' k => grdV m' s (p + k) r) w hM (fun m' h => grdO_kval h) hp (fun c1 c2 c3 c4 mk k W _ h => sGuardPage_any c1 c2 c3 c4 mk s (p + k) r W h)
end Go.Proofs.YtkmocongdkacjaaGreatDoor
namespace Go.Proofs.YtkmocongdkacjaaGreatDoor
open Go.RowKit
set_option maxRecDepth 1000000
/-- what an operation of a drawing region leaves: calls with more results -/
inductive RL where
  | eq (u : Value)
  | ma (m : Ma)
  | tup (m : Ma) (rs : List Value)
  | box
  | boxed (m : Ma)
def RL.at_ (b si j : Nat) : RL → Value → World → Prop
  | .eq u0, u, _ => u = u0
  | .ma m, u, v => ∃ e1 e2 e3 e4, u = .agg #[e1, e2, e3, .int .i64 m.c.hand, .int .i64 m.g.count, .int .i64 m.g.next, .int .i64 m.g.round, e4, .int .i64 m.sp] ∧ MaM b v e1 e2 e3 e4 m
  | .tup m rs, u, v => ∃ e1 e2 e3 e4, u = .tuple (List.toArray (.agg #[e1, e2, e3, .int .i64 m.c.hand, .int .i64 m.g.count, .int .i64 m.g.next, .int .i64 m.g.round, e4, .int .i64 m.sp] :: rs)) ∧ MaM b v e1 e2 e3 e4 m
  | .box, u, v => ∃ g a0 a1 a2 a3 a4 a5 a6 a7 a8, u = .pointer (some ⟨g, 0, none⟩) ∧ b ≤ g ∧ Own v g 34 #[a0, a1, a2, a3, a4, a5, a6, a7, a8]
  | .boxed m, u, v => j = si ∧ ∃ g e1 e2 e3 e4, u = .pointer (some ⟨g, 0, none⟩) ∧ b ≤ g ∧ Own v g 34 #[e1, e2, e3, .int .i64 m.c.hand, .int .i64 m.g.count, .int .i64 m.g.next, .int .i64 m.g.round, e4, .int .i64 m.sp] ∧ MaM b v e1 e2 e3 e4 m
def rls (b si : Nat) (ks : List RL) (j : Nat) (u : Value) (v : World) : Prop := match ks[j]? with | some k => k.at_ b si j u v | none => True
theorem rls_keep {b si : Nat} {ks : List RL} {i j : Nat} {u : Value} {v v' : World} (hij : i ≠ j) (h : rls b si ks j u v) (ht : tA si i v v') : rls b si ks j u v' := by
  have ho := ht.oth
  unfold rls at h ⊢
  cases hk : ks[j]? with
  | none => trivial
  | some k =>
    rw [hk] at h
    cases k with
    | eq u0 => exact h
    | ma m => obtain ⟨e1, e2, e3, e4, h1, h2⟩ := h; exact ⟨e1, e2, e3, e4, h1, h2.othM ho⟩
    | tup m o => obtain ⟨e1, e2, e3, e4, h1, h2⟩ := h; exact ⟨e1, e2, e3, e4, h1, h2.othM ho⟩
    | box =>
      obtain ⟨g, a0, a1, a2, a3, a4, a5, a6, a7, a8, h1, h2, h3⟩ := h
      unfold tA at ht
      split at ht
      · obtain ⟨b0, b1, b2, b3, b4, b5, b6, b7, b8, h4⟩ := ht.2 g _ _ _ _ _ _ _ _ _ h3
        exact ⟨g, b0, b1, b2, b3, b4, b5, b6, b7, b8, h1, h2, h4⟩
      · exact ⟨g, a0, a1, a2, a3, a4, a5, a6, a7, a8, h1, h2, h3.below ht⟩
    | boxed m =>
      obtain ⟨hj, g, e1, e2, e3, e4, h1, h2, h3, h4⟩ := h
      unfold tA at ht
      rw [if_neg (by omega)] at ht
      exact ⟨hj, g, e1, e2, e3, e4, h1, h2, h3.below ht, h4.othM ho⟩
end Go.Proofs.YtkmocongdkacjaaGreatDoor
namespace Go.Proofs.YtkmocongdkacjaaGreatDoor
open Go.RowKit
theorem rgV_small {O : Ma → Nat → Bool} {V : Ma → Nat → Ma} (hV : ∀ m' k, O m' k = true → smallM m' → smallM (V m' k)) (m : Ma) (c : Int) : smallM (rgV O V m c) := by
  unfold rgV
  cases h : rgO O V m c with
  | none => exact smallM_z
  | some m' =>
    unfold rgO at h
    split at h
    · rename_i hv
      exact rgN_keep hV (mav_len hv.1) _ m' h
    · cases h
theorem unmV_small {t : Tab} {s p : Int} (h1 : t.bs.length ≤ 1048576) (h2 : t.fs.length ≤ 1048576) : (unmV t s p).bs.length ≤ 1048576 ∧ (unmV t s p).fs.length ≤ 1048576 := by
  unfold unmV
  split
  · unfold unmT
    simp only
    split
    · simp only [List.length_set]; exact ⟨h1, h2⟩
    · simp only [List.length_set, List.length_map]; exact ⟨h1, h2⟩
  · exact ⟨Nat.zero_le _, Nat.zero_le _⟩
theorem prV_small {t : Tab} {s p r : Int} (h1 : t.bs.length ≤ 1048576) (h2 : t.fs.length ≤ 1048576) : (prV t s p r).bs.length ≤ 1048576 ∧ (prV t s p r).fs.length ≤ 1048576 := by
  unfold prV
  split
  · unfold prT
    simp only [List.length_set]; exact ⟨h1, h2⟩
  · exact ⟨Nat.zero_le _, Nat.zero_le _⟩
theorem drpM_small {m : Ma} {t : Tab} {s p : Int} (h : smallM m) (ht : t.bs.length ≤ 1048576 ∧ t.fs.length ≤ 1048576) : smallM (drpM m t s p) :=
  ⟨ht.1, ht.2, by show (drpC m s p).ls.length ≤ _; rw [drpC_len]; exact h.2.2.1, h.2.2.2⟩
theorem grdV_small {m : Ma} {s p r : Int} (h : smallM m) : smallM (grdV m s p r) := by
  unfold grdV
  split
  · exact drpM_small h (prV_small h.1 h.2.1)
  · exact smallM_z
theorem takV_small {m : Ma} {s p : Int} (h : smallM m) : smallM (takV m s p) := by
  unfold takV
  split
  · exact drpM_small h (unmV_small h.1 h.2.1)
  · exact smallM_z
end Go.Proofs.YtkmocongdkacjaaGreatDoor
namespace Go.Proofs.YtkmocongdkacjaaGreatDoor
open Go.RowKit
set_option maxRecDepth 1000000

theorem unmOK_false {t : Tab} {s p : Int} (h : fOK t s p = false) : unmV t s p = tabz := by unfold unmV; rw [h]; rfl
/-- the frames behind i rounds of relinking -/
def rl (fs : List Fr) (a n : Int) (i : Nat) : List Fr := (fs.take i).map (relink a n) ++ fs.drop i
theorem rl_zero (fs : List Fr) (a n : Int) : rl fs a n 0 = fs := by simp [rl]
theorem rl_all (fs : List Fr) (a n : Int) : rl fs a n fs.length = fs.map (relink a n) := by simp [rl]
theorem rl_len (fs : List Fr) (a n : Int) (i : Nat) : (rl fs a n i).length = fs.length := by simp [rl]; omega
theorem rl_at {fs : List Fr} {a n : Int} {i : Nat} {f : Fr} (h : fs[i]? = some f) : (rl fs a n i)[i]? = some f := by
  obtain ⟨hlt, _⟩ := List.getElem?_eq_some_iff.1 h
  unfold rl
  rw [List.getElem?_append_right (by simp; omega)]
  simp [Nat.min_eq_left (Nat.le_of_lt hlt), h]
theorem rl_step {fs : List Fr} {a n : Int} {i : Nat} {f : Fr} (h : fs[i]? = some f) : rl fs a n (i + 1) = (rl fs a n i).set i (relink a n f) := by
  obtain ⟨hlt, he⟩ := List.getElem?_eq_some_iff.1 h
  apply List.ext_getElem?
  intro j
  rw [List.getElem?_set]
  unfold rl
  by_cases hj : i = j
  · subst hj
    rw [if_pos rfl, if_pos (by simp; omega), List.getElem?_append_left (by simp; omega), List.getElem?_map, List.getElem?_take_of_lt (by omega), h]
    rfl
  · rw [if_neg hj]
    by_cases hj2 : j < i
    · rw [List.getElem?_append_left (by simp; omega), List.getElem?_append_left (by simp; omega), List.getElem?_map, List.getElem?_map, List.getElem?_take_of_lt (by omega), List.getElem?_take_of_lt (by omega)]
    · rw [List.getElem?_append_right (by simp; omega), List.getElem?_append_right (by simp; omega), List.getElem?_drop, List.getElem?_drop]
      simp
      congr 1
      omega
set_option maxHeartbeats 4000000 in
theorem UnmapPage_any (vb vf : Value) (t : Tab) (s p : Int) (w : World) (hT : TaR w vb vf t) (hfree : Free w) :
    Calls Tryz.prog 150 #[.agg #[vb, vf], .agg #[.int .i64 s, .int .i64 p]] w (Post2 fun v w' => ∃ v1 v2, v = .tuple #[.agg #[v1, v2], .bool (fOK t s p)] ∧ TaM w.heap.size w' v1 v2 (unmV t s p) ∧ Below w.heap.size w w') := by
  have ht0 := ((Own.new_ w 26 #[vb, vf]).alloc (o := .cells #[.int .i64 s, .int .i64 p] 36)).alloc (o := .cells #[.slice none 0 0, .slice none 0 0] 26)
  have hk0 := (Own.new_ (w.alloc (.cells #[vb, vf] 26)) 36 #[.int .i64 s, .int .i64 p]).alloc (o := .cells #[.slice none 0 0, .slice none 0 0] 26)
  have hr0 := Own.new_ ((w.alloc (.cells #[vb, vf] 26)).alloc (.cells #[.int .i64 s, .int .i64 p] 36)) 26 #[.slice none 0 0, .slice none 0 0]
  have hb0 : Below w.heap.size w (((w.alloc (.cells #[vb, vf] 26)).alloc (.cells #[.int .i64 s, .int .i64 p] 36)).alloc (.cells #[.slice none 0 0, .slice none 0 0] 26)) := bA (bA (bA bR))
  rw [show (w.alloc (.cells #[vb, vf] 26)).heap.size = w.heap.size + 1 by simp] at hk0
  rw [show ((w.alloc (.cells #[vb, vf] 26)).alloc (.cells #[.int .i64 s, .int .i64 p] 36)).heap.size = w.heap.size + 1 + 1 by simp] at hr0
  have hs0 : (((w.alloc (.cells #[vb, vf] 26)).alloc (.cells #[.int .i64 s, .int .i64 p] 36)).alloc (.cells #[.slice none 0 0, .slice none 0 0] 26)).heap.size = w.heap.size + 3 := by simp
  generalize hW : ((w.alloc (.cells #[vb, vf] 26)).alloc (.cells #[.int .i64 s, .int .i64 p] 36)).alloc (.cells #[.slice none 0 0, .slice none 0 0] 26) = W0 at ht0 hk0 hr0 hb0 hs0
  have HT0 := Lib.hid ht0
  have HK0 := Lib.hid hk0
  have HR0 := Lib.hid hr0
  have HB0 := Lib.hid hb0
  clear ht0 hk0 hr0 hb0
  have t00 := HT0.out.cell_ 0 (v := vb) rfl
  have t10 := HT0.out.cell_ 1 (v := vf) rfl
  have k00 := HK0.out.cell_ 0 (v := .int .i64 s) rfl
  have k10 := HK0.out.cell_ 1 (v := .int .i64 p) rfl
  have HTR := Lib.hid hT
  have HF := Lib.hid hfree
  clear hT hfree
  go_enter Tryz.func150, Tryz.ntmps150
  go_wp2_with fail
  refine (TableValid_any vb vf t _ (HTR.out.now HB0.out) (HF.out.now HB0.out)).mono ?_
  rintro e w1 ⟨rfl, hb1⟩
  have HT1 := Lib.hid (HT0.out.below hb1)
  have HK1 := Lib.hid (HK0.out.below hb1)
  have HR1 := Lib.hid (HR0.out.below hb1)
  have HB1 := Lib.hid (bT HB0.out hb1)
  clear hb1
  have t01 := HT1.out.cell_ 0 rfl
  have t11 := HT1.out.cell_ 1 rfl
  have k01 := HK1.out.cell_ 0 (v := .int .i64 s) rfl
  have k11 := HK1.out.cell_ 1 (v := .int .i64 p) rfl
  have r01 := HR1.out.cell_ 0 (v := .slice none 0 0) rfl
  have r11 := HR1.out.cell_ 1 (v := .slice none 0 0) rfl
  have fr01 := HR1.out.free 0
  have fr11 := HR1.out.free 1
  clear t00 t10 k00 k10
  try clear r00 r10 fr00 fr10
  cases h1 : tv t with
  | false =>
    have HA : Hid (fOK t s p = false) := by show _ = _; unfold fOK; rw [h1]; rfl
    have HV := Lib.hid (unmOK_false HA.out)
    go_wp2
    have o3 := (HR1.out.set_ 0 (.slice none 0 0)).set_ 1 (.slice none 0 0)
    have e0 := o3.cell_ 0 (v := .slice none 0 0) rfl
    have e1 := o3.cell_ 1 (v := .slice none 0 0) rfl
    refine bodyPost_ret (v := .tuple #[.agg #[.slice none 0 0, .slice none 0 0], .bool false]) (by simp [results, Tryz.results150, go_sem, e0, e1]) rfl ⟨_, rfl, _, _, by rw [HA.out], ?_, bS (bS HB1.out (by simp; omega)) (by simp; omega)⟩
    rw [HV.out]
    exact tam_z
  | true =>
    go_wp2_with fail
    refine (keyValid_any _ _ _).mono ?_
    rintro e w2 ⟨rfl, hb2⟩
    have HT2 := Lib.hid (HT1.out.below hb2)
    have HK2 := Lib.hid (HK1.out.below hb2)
    have HR2 := Lib.hid (HR1.out.below hb2)
    have HB2 := Lib.hid (bT HB1.out hb2)
    clear hb2
    have t02 := HT2.out.cell_ 0 rfl
    have t12 := HT2.out.cell_ 1 rfl
    have k02 := HK2.out.cell_ 0 (v := .int .i64 s) rfl
    have k12 := HK2.out.cell_ 1 (v := .int .i64 p) rfl
    have r02 := HR2.out.cell_ 0 (v := .slice none 0 0) rfl
    have r12 := HR2.out.cell_ 1 (v := .slice none 0 0) rfl
    have fr02 := HR2.out.free 0
    have fr12 := HR2.out.free 1
    clear t01 t11 k01 k11
    try clear r01 r11 fr01 fr11
    cases h2 : kval (s, p) with
    | false =>
      have HA : Hid (fOK t s p = false) := by show _ = _; unfold fOK; rw [h1, h2]; rfl
      have HV := Lib.hid (unmOK_false HA.out)
      go_wp2
      have o3 := (HR2.out.set_ 0 (.slice none 0 0)).set_ 1 (.slice none 0 0)
      have e0 := o3.cell_ 0 (v := .slice none 0 0) rfl
      have e1 := o3.cell_ 1 (v := .slice none 0 0) rfl
      refine bodyPost_ret (v := .tuple #[.agg #[.slice none 0 0, .slice none 0 0], .bool false]) (by simp [results, Tryz.results150, go_sem, e0, e1]) rfl ⟨_, rfl, _, _, by rw [HA.out], ?_, bS (bS HB2.out (by simp; omega)) (by simp; omega)⟩
      rw [HV.out]
      exact tam_z
    | true =>
      go_wp2_with fail
      refine (find_any vb vf t s p _ (HTR.out.now HB2.out)).mono ?_
      rintro e w3 ⟨rfl, hb3⟩
      have HT3 := Lib.hid (HT2.out.below hb3)
      have HK3 := Lib.hid (HK2.out.below hb3)
      have HR3 := Lib.hid (HR2.out.below hb3)
      have HB3 := Lib.hid (bT HB2.out hb3)
      clear hb3
      have t03 := HT3.out.cell_ 0 rfl
      have t13 := HT3.out.cell_ 1 rfl
      have k03 := HK3.out.cell_ 0 (v := .int .i64 s) rfl
      have k13 := HK3.out.cell_ 1 (v := .int .i64 p) rfl
      have r03 := HR3.out.cell_ 0 (v := .slice none 0 0) rfl
      have r13 := HR3.out.cell_ 1 (v := .slice none 0 0) rfl
      have fr03 := HR3.out.free 0
      have fr13 := HR3.out.free 1
      clear t02 t12 k02 k12
      try clear r02 r12 fr02 fr12
      by_cases h3 : 0 ≤ fndI t.fs s p
      case neg =>
        have HA : Hid (fOK t s p = false) := by show _ = _; unfold fOK; rw [h1, h2, decide_eq_false h3]; rfl
        have HV := Lib.hid (unmOK_false HA.out)
        have h3b : fndI t.fs s p < 0 := by omega
        go_wp2
        have o3 := (HR3.out.set_ 0 (.slice none 0 0)).set_ 1 (.slice none 0 0)
        have e0 := o3.cell_ 0 (v := .slice none 0 0) rfl
        have e1 := o3.cell_ 1 (v := .slice none 0 0) rfl
        refine bodyPost_ret (v := .tuple #[.agg #[.slice none 0 0, .slice none 0 0], .bool false]) (by simp [results, Tryz.results150, go_sem, e0, e1]) rfl ⟨_, rfl, _, _, by rw [HA.out], ?_, bS (bS HB3.out (by simp; omega)) (by simp; omega)⟩
        rw [HV.out]
        exact tam_z
      case pos =>
        obtain ⟨⟨_, hlen, hb1', hlen2⟩, _⟩ := tv_parts h1
        obtain ⟨k, f, hk, ef, hfu, hfk⟩ := fndI_lt h3
        have HA : Hid (fOK t s p = true) := by show _ = _; unfold fOK; rw [h1, h2, decide_eq_true h3]; rfl
        have HV : Hid (unmV t s p = unmT t s p) := by show _ = _; unfold unmV; rw [HA.out]; rfl
        have h3b : ¬ fndI t.fs s p < 0 := by omega
        have HN := Lib.hid hk
        rw [hk] at h3 h3b ⊢
        have HEF := Lib.hid ef
        clear hk ef hfk
        go_wp2_with fail
        refine (tclone_any vb _ t _ (HTR.out.now HB3.out) (by omega) (by omega)).mono ?_
        rintro e w4 ⟨v1, v2, rfl, hM4, hb4⟩
        have HM4S : Hid (w3.heap.size ≤ w4.heap.size) := hb4.size
        have HT4 := Lib.hid (HT3.out.below hb4)
        have HK4 := Lib.hid (HK3.out.below hb4)
        have HR4 := Lib.hid (HR3.out.below hb4)
        have HB4 := Lib.hid (bT HB3.out hb4)
        clear hb4
        have t04 := HT4.out.cell_ 0 rfl
        have t14 := HT4.out.cell_ 1 rfl
        have k04 := HK4.out.cell_ 0 (v := .int .i64 s) rfl
        have k14 := HK4.out.cell_ 1 (v := .int .i64 p) rfl
        have r04 := HR4.out.cell_ 0 (v := .slice none 0 0) rfl
        have r14 := HR4.out.cell_ 1 (v := .slice none 0 0) rfl
        have fr04 := HR4.out.free 0
        have fr14 := HR4.out.free 1
        clear t03 t13 k03 k13
        try clear r03 r13 fr03 fr13
        have hfl := (List.getElem?_eq_some_iff.1 HEF.out).1
        obtain ⟨g1, c1, g2, c2, rfl, rfl, e1, e2, l1, l2, hne, a1, a2, b1, b2, m1, m2⟩ := hM4.open_ hb1' (by omega)
        have ho5 := Own.new_ w4 26 #[.slice (some ⟨g1, 0, none⟩) t.bs.length c1, .slice (some ⟨g2, 0, none⟩) t.fs.length c2]
        have hb5 : Below w4.heap.size w4 (w4.alloc (.cells #[.slice (some ⟨g1, 0, none⟩) t.bs.length c1, .slice (some ⟨g2, 0, none⟩) t.fs.length c2] 26)) := bA bR
        generalize hW5 : w4.alloc (.cells #[.slice (some ⟨g1, 0, none⟩) t.bs.length c1, .slice (some ⟨g2, 0, none⟩) t.fs.length c2] 26) = w5 at ho5 hb5
        have M1 := Lib.hid (m1.below hb5)
        have M2 := Lib.hid (m2.below hb5)
        have HT5 := Lib.hid (HT4.out.below hb5)
        have HK5 := Lib.hid (HK4.out.below hb5)
        have HR5 := Lib.hid (HR4.out.below hb5)
        have HB5 := Lib.hid (bT HB4.out hb5)
        clear hb5
        have t05 := HT5.out.cell_ 0 rfl
        have t15 := HT5.out.cell_ 1 rfl
        have k05 := HK5.out.cell_ 0 (v := .int .i64 s) rfl
        have k15 := HK5.out.cell_ 1 (v := .int .i64 p) rfl
        have r05 := HR5.out.cell_ 0 (v := .slice none 0 0) rfl
        have r15 := HR5.out.cell_ 1 (v := .slice none 0 0) rfl
        have fr05 := HR5.out.free 0
        have fr15 := HR5.out.free 1
        clear t04 t14 k04 k14
        try clear r04 r14 fr04 fr14
        have o50 := ho5.cell_ 0 (v := .slice (some ⟨g1, 0, none⟩) t.bs.length c1) rfl
        have o51 := ho5.cell_ 1 (v := .slice (some ⟨g2, 0, none⟩) t.fs.length c2) rfl
        have HO5 := Lib.hid ho5
        clear hM4 ho5 m1 m2
        go_wp2_with fail
        refine (find_any vb vf t s p _ (HTR.out.now HB5.out)).mono ?_
        rintro e w6 ⟨rfl, hb6⟩
        rw [HN.out]
        have O6 := Lib.hid (HO5.out.below hb6)
        have M16 := Lib.hid (M1.out.below hb6)
        have M26 := Lib.hid (M2.out.below hb6)
        have HT6 := Lib.hid (HT5.out.below hb6)
        have HK6 := Lib.hid (HK5.out.below hb6)
        have HR6 := Lib.hid (HR5.out.below hb6)
        have HB6 := Lib.hid (bT HB5.out hb6)
        clear hb6
        have t06 := HT6.out.cell_ 0 rfl
        have t16 := HT6.out.cell_ 1 rfl
        have k06 := HK6.out.cell_ 0 (v := .int .i64 s) rfl
        have k16 := HK6.out.cell_ 1 (v := .int .i64 p) rfl
        have r06 := HR6.out.cell_ 0 (v := .slice none 0 0) rfl
        have r16 := HR6.out.cell_ 1 (v := .slice none 0 0) rfl
        have fr06 := HR6.out.free 0
        have fr16 := HR6.out.free 1
        clear t05 t15 k05 k15
        try clear r05 r15 fr05 fr15
        obtain ⟨Ab, cb, rfl, hbc, hbm, hB⟩ := HTR.out.b
        obtain ⟨Af, cf, rfl, hfc, hfm, hF⟩ := HTR.out.f
        obtain ⟨b4, o4, rfl, hb4, d0, d1, d2, d3, d4⟩ := (hF.now (Nat.le_refl _) HB6.out).fr HEF.out
        clear d0 d1 d2 d3
        go_wp2_with fail
        refine (hash_any s p t.bs.length _ h2 ⟨by omega, by omega⟩).mono ?_
        rintro e w7 ⟨rfl, hb7⟩
        have O7 := O6.out.below hb7
        have o70 := O7.cell_ 0 (v := .slice (some ⟨g1, 0, none⟩) t.bs.length c1) rfl
        have o71 := O7.cell_ 1 (v := .slice (some ⟨g2, 0, none⟩) t.fs.length c2) rfl
        have M17 := Lib.hid (M16.out.below hb7)
        have M27 := Lib.hid (M26.out.below hb7)
        have HO7 := Lib.hid O7
        have HT7 := Lib.hid (HT6.out.below hb7)
        have HK7 := Lib.hid (HK6.out.below hb7)
        have HR7 := Lib.hid (HR6.out.below hb7)
        have HB7 := Lib.hid (bT HB6.out hb7)
        clear hb7
        have t07 := HT7.out.cell_ 0 rfl
        have t17 := HT7.out.cell_ 1 rfl
        have k07 := HK7.out.cell_ 0 (v := .int .i64 s) rfl
        have k17 := HK7.out.cell_ 1 (v := .int .i64 p) rfl
        have r07 := HR7.out.cell_ 0 (v := .slice none 0 0) rfl
        have r17 := HR7.out.cell_ 1 (v := .slice none 0 0) rfl
        have fr07 := HR7.out.free 0
        have fr17 := HR7.out.free 1
        clear t06 t16 k06 k16
        try clear r06 r16 fr06 fr16
        obtain ⟨hbk, heq⟩ := bkt_in h2 hb1'
        rw [heq]
        have HBK := Lib.hid hbk
        generalize hbb : bkt t s p = b at *
        obtain ⟨n0, en0⟩ : ∃ n0, t.bs[b]? = some n0 := ⟨_, List.getElem?_eq_getElem hbk⟩
        obtain ⟨bq, oq, eq1, _, z0⟩ := M17.out.is.i1 en0
        injection eq1 with eq1
        injection eq1 with eq1 eq2
        subst eq1 eq2
        rw [Nat.zero_add] at z0
        have hpos := HF.out.lt
        have hsz3 := HB3.out.size
        have hsz4 := HM4S.out
        have hg1 : 0 < g1 := by omega
        have hg2 : 0 < g2 := by omega
        obtain ⟨_, cs1, u1, _, Q1, _⟩ := M17.out.own (by omega)
        injection u1 with u1
        injection u1 with u1
        subst u1
        have z1 := Q1.free b
        have hut : unmT t s p = if n0 = (k : Int) then ⟨t.bs.set b f.n, t.fs.set k frz⟩ else ⟨t.bs, (t.fs.map (relink k f.n)).set k frz⟩ := by
          unfold unmT
          simp only [HN.out, Int.toNat_natCast, List.getD_eq_getElem?_getD, HEF.out, Option.getD_some]
          rw [hbb, en0]
          rfl
        have HUT := Lib.hid hut
        clear Q1 hut en0 d4
        have HRO := HR7.out
        have hr1 : w.heap.size + 1 + 1 ≠ g1 := by have := HR3.out.lt; omega
        have hr2 : w.heap.size + 1 + 1 ≠ g2 := by have := HR3.out.lt; omega
        have hr3 : g1 ≠ w.heap.size + 1 + 1 := fun h => hr1 h.symm
        have hr4 : g2 ≠ w.heap.size + 1 + 1 := fun h => hr2 h.symm
        have hne' : g2 ≠ g1 := fun h => hne h.symm
        obtain ⟨_, cs2, u2, _, Q2, _⟩ := M27.out.own (by omega)
        injection u2 with u2
        injection u2 with u2
        subst u2
        have ho1 : w4.heap.size ≠ g2 := HO7.out.ne Q2 (by decide)
        have ho2 : g2 ≠ w4.heap.size := fun h => ho1 h.symm
        obtain ⟨_, cs1, u1, _, Q1, _⟩ := M17.out.own (by omega)
        injection u1 with u1
        injection u1 with u1
        subst u1
        have ho3 : w4.heap.size ≠ g1 := HO7.out.ne Q1 (by decide)
        have ho4 : g1 ≠ w4.heap.size := fun h => ho3 h.symm
        clear Q1 Q2 HRO
        by_cases hbe : n0 = (k : Int)
        · subst hbe
          clear o70 o71
          have o70 := HO7.out.cell_ 0 (v := .slice (some ⟨g1, 0, none⟩) t.bs.length c1) rfl
          have nb := M17.out.wint hbk f.n
          have nf := M27.out.other (p := ⟨g1, b, none⟩) (u := .int .i64 f.n) hne
          have hr8 := HR7.out.far (p := ⟨g1, b, none⟩) (u := .int .i64 f.n) hr1
          have ho8 := HO7.out.far (p := ⟨g1, b, none⟩) (u := .int .i64 f.n) ho3
          have hb8 : Below w.heap.size w (w7.setCell ⟨g1, b, none⟩ (.int .i64 f.n)) := bS HB7.out (by show w.heap.size ≤ g1; omega)
          have hf8 := HF.out.now hb8
          generalize hW8 : w7.setCell ⟨g1, b, none⟩ (.int .i64 f.n) = w8 at nb nf hr8 ho8 hf8 hb8
          have NB8 := Lib.hid nb
          have NF8 := Lib.hid nf
          have HR8 := Lib.hid hr8
          have HO8 := Lib.hid ho8
          have HF8 := Lib.hid hf8
          have HB8 := Lib.hid hb8
          have HLEN : Hid ((t.fs)[k]? = some f) := HEF.out
          have hut : unmT t s p = ⟨t.bs.set b f.n, t.fs.set k frz⟩ := by rw [HUT.out, if_pos rfl]
          clear nb nf hr8 ho8 hf8 hb8 r07 r17 fr07 fr17
          have o80 := HO8.out.cell_ 0 (v := .slice (some ⟨g1, 0, none⟩) t.bs.length c1) rfl
          have o81 := HO8.out.cell_ 1 (v := .slice (some ⟨g2, 0, none⟩) t.fs.length c2) rfl
          have y0 := HF8.out.c0
          have y1 := HF8.out.c1
          have y2 := HF8.out.c2
          have y3 := HF8.out.c3
          have y4 := HF8.out.c4
          obtain ⟨_, cs9, u9, _, Q9, _⟩ := NF8.out.own (by have := (List.getElem?_eq_some_iff.1 HLEN.out).1; omega)
          injection u9 with u9
          injection u9 with u9
          subst u9
          have z2 := Q9.free (k * 5)
          have z3 := Q9.free (k * 5 + 1)
          have z4 := Q9.free (k * 5 + 2)
          have z5 := Q9.free (k * 5 + 3)
          have z6 := Q9.free (k * 5 + 4)
          obtain ⟨bq, oq, eq1, _, v0, v1, v2, v3, v4⟩ := NF8.out.is.fr HLEN.out
          injection eq1 with eq1
          injection eq1 with eq1 eq2
          subst eq1 eq2
          rw [Nat.zero_add] at v0 v1 v2 v3 v4
          have r08 := HR8.out.cell_ 0 (v := .slice none 0 0) rfl
          have r18 := HR8.out.cell_ 1 (v := .slice none 0 0) rfl
          have fr08 := HR8.out.free 0
          have fr18 := HR8.out.free 1
          have hrl := HR8.out.lt
          have hol := HO8.out.lt
          have hkf := (List.getElem?_eq_some_iff.1 HLEN.out).1
          clear Q9
          go_wp2
          have nf2 := NF8.out.wfr hkf frz
          have nb2 := ((((NB8.out.other (p := ⟨g2, k * 5, none⟩) (u := .bool false) hne').other (p := ⟨g2, k * 5 + 1, none⟩) (u := .int .i64 0) hne').other (p := ⟨g2, k * 5 + 2, none⟩) (u := .int .i64 0) hne').other (p := ⟨g2, k * 5 + 3, none⟩) (u := .int .i64 0) hne').other (p := ⟨g2, k * 5 + 4, none⟩) (u := .int .i64 (-1)) hne'
          have hr2 := ((((HR8.out.far (p := ⟨g2, k * 5, none⟩) (u := .bool false) hr2).far (p := ⟨g2, k * 5 + 1, none⟩) (u := .int .i64 0) hr2).far (p := ⟨g2, k * 5 + 2, none⟩) (u := .int .i64 0) hr2).far (p := ⟨g2, k * 5 + 3, none⟩) (u := .int .i64 0) hr2).far (p := ⟨g2, k * 5 + 4, none⟩) (u := .int .i64 (-1)) hr2
          have o3 := (hr2.set_ 0 (.slice (some ⟨g1, 0, none⟩) t.bs.length c1)).set_ 1 (.slice (some ⟨g2, 0, none⟩) t.fs.length c2)
          have e0 := o3.cell_ 0 (v := .slice (some ⟨g1, 0, none⟩) t.bs.length c1) rfl
          have e1 := o3.cell_ 1 (v := .slice (some ⟨g2, 0, none⟩) t.fs.length c2) rfl
          have hlt3 := HR3.out.lt
          have Q3 := (nf2.far (p := ⟨w.heap.size + 1 + 1, 0, none⟩) (u := .slice (some ⟨g1, 0, none⟩) t.bs.length c1) hlt3).far (p := ⟨w.heap.size + 1 + 1, 1, none⟩) (u := .slice (some ⟨g2, 0, none⟩) t.fs.length c2) hlt3
          have Q4 := (nb2.far (p := ⟨w.heap.size + 1 + 1, 0, none⟩) (u := .slice (some ⟨g1, 0, none⟩) t.bs.length c1) hlt3).far (p := ⟨w.heap.size + 1 + 1, 1, none⟩) (u := .slice (some ⟨g2, 0, none⟩) t.fs.length c2) hlt3
          refine bodyPost_ret (v := .tuple #[.agg #[.slice (some ⟨g1, 0, none⟩) t.bs.length c1, .slice (some ⟨g2, 0, none⟩) t.fs.length c2], .bool true]) (by simp [results, Tryz.results150, go_sem, e0, e1]) rfl ⟨_, rfl, _, _, by rw [HA.out], ?_, ?_⟩
          · rw [HV.out, hut]
            exact ⟨slm_of (by simp) (by simpa using a1) a2 (Q4.mono hsz3), slm_of (by simp) (by simpa using b1) b2 (Q3.mono hsz3)⟩
          · repeat (refine bS ?_ (by simp <;> omega))
            exact HB8.out
        · have hne1 : (n0 == (k : Int)) = false := by rw [beq_eq_false_iff_ne]; exact hbe
          have hut : unmT t s p = ⟨t.bs, (t.fs.map (relink k f.n)).set k frz⟩ := by rw [HUT.out, if_neg hbe]
          clear r07 r17 fr07 fr17
          go_wp2
          go_loopw [57] (fun u wr => ∃ i : Nat, i ≤ t.fs.length ∧ u = .int .i64 i ∧ MineE intE 3 w3.heap.size wr (some ⟨g1, 0, none⟩) t.bs ∧ MineE frE 68 w3.heap.size wr (some ⟨g2, 0, none⟩) (rl t.fs k f.n i) ∧ Own wr (w.heap.size + 1 + 1) 26 #[.slice none 0 0, .slice none 0 0] ∧ Own wr w4.heap.size 26 #[.slice (some ⟨g1, 0, none⟩) t.bs.length c1, .slice (some ⟨g2, 0, none⟩) t.fs.length c2] ∧ Below w.heap.size w wr) (fun u _ => t.fs.length - (intOf u).toNat)
          case atStart => exact ⟨0, by omega, rfl, M17.out, by rw [rl_zero]; exact M27.out, HR7.out, HO7.out, HB7.out⟩
          case round =>
            obtain ⟨i, hi, rfl, hnb, hnf, hhr, hho, hhb⟩ := hrel
            have NB8 := Lib.hid hnb
            have NF8 := Lib.hid hnf
            have HR8 := Lib.hid hhr
            have HO8 := Lib.hid hho
            have HB8 := Lib.hid hhb
            clear hnb hnf hhr hho hhb o70 o71 z0 z1
            by_cases hlt : i < t.fs.length
            · obtain ⟨fi, ei⟩ : ∃ fi, t.fs[i]? = some fi := ⟨_, List.getElem?_eq_getElem hlt⟩
              have hat := rl_at (a := (k : Int)) (n := f.n) ei
              have hll := rl_len t.fs (k : Int) f.n i
              obtain ⟨bq, oq, eq1, _, v0, v1, v2, v3, v4⟩ := NF8.out.is.fr hat
              injection eq1 with eq1
              injection eq1 with eq1 eq2
              subst eq1 eq2
              rw [Nat.zero_add] at v0 v1 v2 v3 v4
              obtain ⟨_, cs9, u9, _, Q9, _⟩ := NF8.out.own (by omega)
              injection u9 with u9
              injection u9 with u9
              subst u9
              have z6 := Q9.free (i * 5 + 4)
              have o81 := HO8.out.cell_ 1 (v := .slice (some ⟨g2, 0, none⟩) t.fs.length c2) rfl
              have hol := HO8.out.lt
              have HST := Lib.hid (rl_step (a := (k : Int)) (n := f.n) ei)
              have HAT := Lib.hid hat
              clear Q9 v1 v2 v3 ei hat
              by_cases hre : fi.used = true ∧ fi.n = (k : Int)
              · have HRE : Hid (relink k f.n fi = { fi with n := f.n }) := if_pos hre
                have hu := hre.1
                have hn := hre.2
                rw [hu] at v0
                rw [hn] at v4
                have nf9 := NF8.out.wnext HAT.out f.n
                have nb9 := NB8.out.other (p := ⟨g2, i * 5 + 4, none⟩) (u := .int .i64 f.n) hne'
                have hr9 := HR8.out.far (p := ⟨g2, i * 5 + 4, none⟩) (u := .int .i64 f.n) hr2
                have ho9 := HO8.out.far (p := ⟨g2, i * 5 + 4, none⟩) (u := .int .i64 f.n) ho1
                have NF9 := Lib.hid nf9
                have NB9 := Lib.hid nb9
                have HR9 := Lib.hid hr9
                have HO9 := Lib.hid ho9
                clear nf9 nb9 hr9 ho9 hre hu hn
                go_wp2
                go_roundw
                case rel => exact ⟨i + 1, by omega, by go_num, NB9.out, by rw [HST.out, HRE.out]; exact NF9.out, HR9.out, HO9.out, bS HB8.out (by show w.heap.size ≤ g2; omega)⟩
                case measure => simp [intOf]; omega
              · have HRE : Hid (relink k f.n fi = fi) := if_neg hre
                have HSM : Hid (rl t.fs k f.n (i + 1) = rl t.fs k f.n i) := by
                  show _ = _
                  rw [HST.out, HRE.out]
                  exact List.ext_getElem? fun j => by
                    rw [List.getElem?_set]
                    split
                    · rename_i hij
                      subst hij
                      rw [HAT.out, if_pos (by omega)]
                    · rfl
                cases hu : fi.used with
                | false =>
                  rw [hu] at v0
                  clear v4 z6 hre hu
                  go_wp2
                  go_roundw
                  case rel => exact ⟨i + 1, by omega, by go_num, NB8.out, by rw [HSM.out]; exact NF8.out, HR8.out, HO8.out, HB8.out⟩
                  case measure => simp [intOf]; omega
                | true =>
                  rw [hu] at v0
                  have hn2 : (fi.n == (k : Int)) = false := by rw [beq_eq_false_iff_ne]; exact fun h => hre ⟨hu, h⟩
                  clear z6 hre hu
                  go_wp2
                  go_roundw
                  case rel => exact ⟨i + 1, by omega, by go_num, NB8.out, by rw [HSM.out]; exact NF8.out, HR8.out, HO8.out, HB8.out⟩
                  case measure => simp [intOf]; omega
            · obtain rfl : i = t.fs.length := by omega
              have HF8 := Lib.hid (HF.out.now HB8.out)
              have hra := rl_all t.fs k f.n
              rw [hra] at NF8
              have HLEN : Hid ((t.fs.map (relink k f.n))[k]? = some (relink k f.n f)) := by show _ = _; rw [List.getElem?_map, HEF.out]; rfl
              have hll : (t.fs.map (relink k f.n)).length = t.fs.length := List.length_map ..
              have o80 := HO8.out.cell_ 0 (v := .slice (some ⟨g1, 0, none⟩) t.bs.length c1) rfl
              have o81 := HO8.out.cell_ 1 (v := .slice (some ⟨g2, 0, none⟩) t.fs.length c2) rfl
              have y0 := HF8.out.c0
              have y1 := HF8.out.c1
              have y2 := HF8.out.c2
              have y3 := HF8.out.c3
              have y4 := HF8.out.c4
              obtain ⟨_, cs9, u9, _, Q9, _⟩ := NF8.out.own (by have := (List.getElem?_eq_some_iff.1 HLEN.out).1; omega)
              injection u9 with u9
              injection u9 with u9
              subst u9
              have z2 := Q9.free (k * 5)
              have z3 := Q9.free (k * 5 + 1)
              have z4 := Q9.free (k * 5 + 2)
              have z5 := Q9.free (k * 5 + 3)
              have z6 := Q9.free (k * 5 + 4)
              obtain ⟨bq, oq, eq1, _, v0, v1, v2, v3, v4⟩ := NF8.out.is.fr HLEN.out
              injection eq1 with eq1
              injection eq1 with eq1 eq2
              subst eq1 eq2
              rw [Nat.zero_add] at v0 v1 v2 v3 v4
              have r08 := HR8.out.cell_ 0 (v := .slice none 0 0) rfl
              have r18 := HR8.out.cell_ 1 (v := .slice none 0 0) rfl
              have fr08 := HR8.out.free 0
              have fr18 := HR8.out.free 1
              have hrl := HR8.out.lt
              have hol := HO8.out.lt
              have hkf := (List.getElem?_eq_some_iff.1 HLEN.out).1
              clear Q9
              go_wp2
              have nf2 := NF8.out.wfr hkf frz
              have nb2 := ((((NB8.out.other (p := ⟨g2, k * 5, none⟩) (u := .bool false) hne').other (p := ⟨g2, k * 5 + 1, none⟩) (u := .int .i64 0) hne').other (p := ⟨g2, k * 5 + 2, none⟩) (u := .int .i64 0) hne').other (p := ⟨g2, k * 5 + 3, none⟩) (u := .int .i64 0) hne').other (p := ⟨g2, k * 5 + 4, none⟩) (u := .int .i64 (-1)) hne'
              have hr2 := ((((HR8.out.far (p := ⟨g2, k * 5, none⟩) (u := .bool false) hr2).far (p := ⟨g2, k * 5 + 1, none⟩) (u := .int .i64 0) hr2).far (p := ⟨g2, k * 5 + 2, none⟩) (u := .int .i64 0) hr2).far (p := ⟨g2, k * 5 + 3, none⟩) (u := .int .i64 0) hr2).far (p := ⟨g2, k * 5 + 4, none⟩) (u := .int .i64 (-1)) hr2
              have o3 := (hr2.set_ 0 (.slice (some ⟨g1, 0, none⟩) t.bs.length c1)).set_ 1 (.slice (some ⟨g2, 0, none⟩) t.fs.length c2)
              have e0 := o3.cell_ 0 (v := .slice (some ⟨g1, 0, none⟩) t.bs.length c1) rfl
              have e1 := o3.cell_ 1 (v := .slice (some ⟨g2, 0, none⟩) t.fs.length c2) rfl
              have hlt3 := HR3.out.lt
              have Q3 := (nf2.far (p := ⟨w.heap.size + 1 + 1, 0, none⟩) (u := .slice (some ⟨g1, 0, none⟩) t.bs.length c1) hlt3).far (p := ⟨w.heap.size + 1 + 1, 1, none⟩) (u := .slice (some ⟨g2, 0, none⟩) t.fs.length c2) hlt3
              have Q4 := (nb2.far (p := ⟨w.heap.size + 1 + 1, 0, none⟩) (u := .slice (some ⟨g1, 0, none⟩) t.bs.length c1) hlt3).far (p := ⟨w.heap.size + 1 + 1, 1, none⟩) (u := .slice (some ⟨g2, 0, none⟩) t.fs.length c2) hlt3
              refine bodyPost_ret (v := .tuple #[.agg #[.slice (some ⟨g1, 0, none⟩) t.bs.length c1, .slice (some ⟨g2, 0, none⟩) t.fs.length c2], .bool true]) (by simp [results, Tryz.results150, go_sem, e0, e1]) rfl ⟨_, rfl, _, _, by rw [HA.out], ?_, ?_⟩
              · rw [HV.out, hut]
                exact ⟨slm_of (by simp) (by simpa using a1) a2 (Q4.mono hsz3), slm_of (by simp) (by simpa using b1) b2 (Q3.mono hsz3)⟩
              · repeat (refine bS ?_ (by simp <;> omega))
                exact HB8.out
end Go.Proofs.YtkmocongdkacjaaGreatDoor
namespace Go.Proofs.YtkmocongdkacjaaGreatDoor
open Go.RowKit
set_option maxRecDepth 1000000
/-- a used frame of a valid table is not its own next -/
theorem self_ne {t : Tab} (h : tv t = true) {k : Nat} {f : Fr} (e : t.fs[k]? = some f) (hu : f.used = true) : f.n ≠ (k : Int) := by
  intro hn
  obtain ⟨b, ch, _, hc, hm⟩ := (tv_TV.1 h).cov k f e hu
  obtain ⟨x, _, hx⟩ := bch_some hc
  obtain ⟨_, a, r, har⟩ := chn_next hx hm e hn
  have hd := chn_nodup hx
  rw [har] at hd
  have := (List.nodup_append.1 hd).2.1
  simp at this
set_option maxHeartbeats 4000000 in
theorem l3Unmap_any (vb vf : Value) (t : Tab) (s p : Int) (k : Nat) (f : Fr) (w : World) (hT : TaR w vb vf t) (htv : tv t = true) (hkv : kval (s, p) = true) (hk : fndI t.fs s p = (k : Int)) (ef : t.fs[k]? = some f) (hu : f.used = true) (hfk : (f.s, f.p) = (s, p)) :
    Calls Tryz.prog 195 #[.agg #[vb, vf], .int .i64 k] w (Post2 fun v w' => ∃ v1 v2, v = .agg #[v1, v2] ∧ TaM w.heap.size w' v1 v2 (unmT t s p) ∧ Below w.heap.size w w') := by
  obtain ⟨⟨_, hfl, hb1, hbl⟩, _⟩ := tv_parts htv
  obtain ⟨hbk, heq⟩ := bkt_in hkv hb1
  injection hfk with hfs hfp
  have hsn := self_ne htv ef hu
  have hx := (Own.new_ w 26 #[vb, vf]).alloc (o := .cells #[.slice none 0 0, .slice none 0 0] 26)
  have hr := ownAt (W := w.alloc (.cells #[vb, vf] 26)) (g := w.heap.size + 1) (t := 26) (cs := #[.slice none 0 0, .slice none 0 0]) (by simp)
  have hb0 : Below w.heap.size w ((w.alloc (.cells #[vb, vf] 26)).alloc (.cells #[.slice none 0 0, .slice none 0 0] 26)) := bA (bA bR)
  generalize hW : (w.alloc (.cells #[vb, vf] 26)).alloc (.cells #[.slice none 0 0, .slice none 0 0] 26) = W0 at hx hr hb0
  have HTR := Lib.hid hT
  have HX0 := Lib.hid hx
  have HR0 := Lib.hid hr
  have HB0 := Lib.hid hb0
  clear hT hx hr hb0
  have t00 := HX0.out.cell_ 0 (v := vb) rfl
  have t10 := HX0.out.cell_ 1 (v := vf) rfl
  have HEF := Lib.hid ef
  have HN := Lib.hid hk
  clear ef hk
  go_enter Tryz.func195, Tryz.ntmps195
  go_wp2_with fail
  refine (l3Copy_any vb vf t _ (HTR.out.now HB0.out) (by omega) (by omega)).mono ?_
  rintro e w4 ⟨_, rfl, v1, v2, rfl, hM4, hb4⟩
  clear t00 t10
  obtain ⟨g1, c1, g2, c2, rfl, rfl, e1, e2, l1, l2, hne, a1, a2, b1, b2, m1, m2⟩ := hM4.open_ (by omega) (by omega)
  have ho5 := Own.new_ w4 26 #[.slice (some ⟨g1, 0, none⟩) t.bs.length c1, .slice (some ⟨g2, 0, none⟩) t.fs.length c2]
  have hb5 : Below w4.heap.size w4 (w4.alloc (.cells #[.slice (some ⟨g1, 0, none⟩) t.bs.length c1, .slice (some ⟨g2, 0, none⟩) t.fs.length c2] 26)) := bA bR
  generalize hW5 : w4.alloc (.cells #[.slice (some ⟨g1, 0, none⟩) t.bs.length c1, .slice (some ⟨g2, 0, none⟩) t.fs.length c2] 26) = w5 at ho5 hb5
  have M1 := Lib.hid (m1.below hb5)
  have M2 := Lib.hid (m2.below hb5)
  have HX5 := Lib.hid ((HX0.out.below hb4).below hb5)
  have HR5 := Lib.hid ((HR0.out.below hb4).below hb5)
  have HO5 := Lib.hid ho5
  have HB5 := Lib.hid (bT HB0.out (bT hb4 hb5))
  have HS4 : Hid (W0.heap.size ≤ w4.heap.size) := hb4.size
  clear hM4 m1 m2 ho5 hb4 hb5
  obtain ⟨Ab, cb, rfl, hbc, hbm, hB⟩ := HTR.out.b
  obtain ⟨Af, cf, rfl, hfc, hfm, hF⟩ := HTR.out.f
  obtain ⟨n0, en0⟩ : ∃ n0, t.bs[bkt t s p]? = some n0 := ⟨_, List.getElem?_eq_getElem hbk⟩
  obtain ⟨b4, o4, rfl, hb4, d0, d1, d2, d3, d4⟩ := (hF.now (Nat.le_refl _) HB5.out).fr HEF.out
  obtain ⟨b5, o5, rfl, hb5, f0⟩ := (hB.now (Nat.le_refl _) HB5.out).i1 en0
  have hfl2 := (List.getElem?_eq_some_iff.1 HEF.out).1
  have hut : unmT t s p = if n0 = (k : Int) then ⟨t.bs.set (bkt t s p) f.n, t.fs.set k frz⟩ else ⟨t.bs, (t.fs.map (relink k f.n)).set k frz⟩ := by
    unfold unmT
    simp only [HN.out, Int.toNat_natCast, List.getD_eq_getElem?_getD, HEF.out, Option.getD_some]
    rw [en0]
    rfl
  have HUT := Lib.hid hut
  have HFR := Lib.hid hF
  have HBR := Lib.hid hB
  have HH := Lib.hid (fun W => l2Hash_any s p t.bs.length W hkv ⟨by omega, by omega⟩)
  rw [heq] at HH
  generalize hbb : bkt t s p = b at *
  rw [hfs] at d1
  rw [hfp] at d2
  have x0 := xcell (HX5.out.cell_ 0 (v := .slice (some ⟨b5, o5, none⟩) t.bs.length cb) rfl) HX5.out.lt
  have x1 := xcell (HX5.out.cell_ 1 (v := .slice (some ⟨b4, o4, none⟩) t.fs.length cf) rfl) HX5.out.lt
  have x2 := xcell d0 hb4
  have x3 := xcell d1 hb4
  have x4 := xcell d2 hb4
  have x5 := xcell d4 hb4
  have x6 := xcell f0 hb5
  clear hut d0 d1 d2 d3 d4 f0 hF hB
  go_wp2
  refine wp_region_ext (by kernel_rfl) (by kernel_rfl) ?_
  repeat (go_big_quiet_step ((go_at_call 155; exact ext_call (HH.out _))))
  refine wpQuiet_nil ?_
  intro _ hw'
  obtain ⟨⟨wq, hq⟩, hw''⟩ := hw'
  subst hw''
  try dsimp only
  rename_i w6
  clear x0 x1 x2 x3 x4 x5 x6
  have M16 := Lib.hid (M1.out.below hq)
  have M26 := Lib.hid (M2.out.below hq)
  have HX6 := Lib.hid (HX5.out.below hq)
  have HR6 := Lib.hid (HR5.out.below hq)
  have HO6 := Lib.hid (HO5.out.below hq)
  have HB6 := Lib.hid (bT HB5.out hq)
  clear hq
  obtain ⟨_, cs2, u2, _, Q2, _⟩ := M26.out.own (by omega)
  injection u2 with u2
  injection u2 with u2
  subst u2
  have ho1 : w4.heap.size ≠ g2 := HO6.out.ne Q2 (by decide)
  have ho2 : g2 ≠ w4.heap.size := fun h => ho1 h.symm
  have hr2 : w.heap.size + 1 ≠ g2 := HR6.out.ne Q2 (by decide)
  have hr4 : g2 ≠ w.heap.size + 1 := fun h => hr2 h.symm
  have hx2 : w.heap.size ≠ g2 := HX6.out.ne Q2 (by decide)
  have hx4 : g2 ≠ w.heap.size := fun h => hx2 h.symm
  obtain ⟨_, cs1, u1, _, Q1, _⟩ := M16.out.own (by omega)
  injection u1 with u1
  injection u1 with u1
  subst u1
  have ho3 : w4.heap.size ≠ g1 := HO6.out.ne Q1 (by decide)
  have ho4 : g1 ≠ w4.heap.size := fun h => ho3 h.symm
  have hr1 : w.heap.size + 1 ≠ g1 := HR6.out.ne Q1 (by decide)
  have hr3 : g1 ≠ w.heap.size + 1 := fun h => hr1 h.symm
  have hx1 : w.heap.size ≠ g1 := HX6.out.ne Q1 (by decide)
  have hx3 : g1 ≠ w.heap.size := fun h => hx1 h.symm
  have hne' : g2 ≠ g1 := fun h => hne h.symm
  have z2 := Q2.free (k * 5)
  have z3 := Q2.free (k * 5 + 1)
  have z4 := Q2.free (k * 5 + 2)
  have z5 := Q2.free (k * 5 + 3)
  have z6 := Q2.free (k * 5 + 4)
  obtain ⟨bq, oq, eq1, _, v0, v1, v2, v3, v4⟩ := M26.out.is.fr HEF.out
  injection eq1 with eq1
  injection eq1 with eq1 eq2
  subst eq1 eq2
  rw [Nat.zero_add] at v0 v1 v2 v3 v4
  have x0 := HX6.out.cell_ 0 (v := .slice (some ⟨b5, o5, none⟩) t.bs.length cb) rfl
  have x1 := HX6.out.cell_ 1 (v := .slice (some ⟨b4, o4, none⟩) t.fs.length cf) rfl
  have o60 := HO6.out.cell_ 0 (v := .slice (some ⟨g1, 0, none⟩) t.bs.length c1) rfl
  have o61 := HO6.out.cell_ 1 (v := .slice (some ⟨g2, 0, none⟩) t.fs.length c2) rfl
  obtain ⟨bz, oz, eq1, hbz, d0, d1, d2, d3, d4⟩ := (HFR.out.now (Nat.le_refl _) HB6.out).fr HEF.out
  injection eq1 with eq1
  injection eq1 with eq1 eq2
  subst eq1 eq2
  have nf := M26.out.wfr hfl2 frz
  have nb := ((((M16.out.other (p := ⟨g2, k * 5, none⟩) (u := .bool false) hne').other (p := ⟨g2, k * 5 + 1, none⟩) (u := .int .i64 0) hne').other (p := ⟨g2, k * 5 + 2, none⟩) (u := .int .i64 0) hne').other (p := ⟨g2, k * 5 + 3, none⟩) (u := .int .i64 0) hne').other (p := ⟨g2, k * 5 + 4, none⟩) (u := .int .i64 (-1)) hne'
  have hr := ((((HR6.out.far (p := ⟨g2, k * 5, none⟩) (u := .bool false) hr2).far (p := ⟨g2, k * 5 + 1, none⟩) (u := .int .i64 0) hr2).far (p := ⟨g2, k * 5 + 2, none⟩) (u := .int .i64 0) hr2).far (p := ⟨g2, k * 5 + 3, none⟩) (u := .int .i64 0) hr2).far (p := ⟨g2, k * 5 + 4, none⟩) (u := .int .i64 (-1)) hr2
  have ho := ((((HO6.out.far (p := ⟨g2, k * 5, none⟩) (u := .bool false) ho1).far (p := ⟨g2, k * 5 + 1, none⟩) (u := .int .i64 0) ho1).far (p := ⟨g2, k * 5 + 2, none⟩) (u := .int .i64 0) ho1).far (p := ⟨g2, k * 5 + 3, none⟩) (u := .int .i64 0) ho1).far (p := ⟨g2, k * 5 + 4, none⟩) (u := .int .i64 (-1)) ho1
  have hxx := ((((HX6.out.far (p := ⟨g2, k * 5, none⟩) (u := .bool false) hx2).far (p := ⟨g2, k * 5 + 1, none⟩) (u := .int .i64 0) hx2).far (p := ⟨g2, k * 5 + 2, none⟩) (u := .int .i64 0) hx2).far (p := ⟨g2, k * 5 + 3, none⟩) (u := .int .i64 0) hx2).far (p := ⟨g2, k * 5 + 4, none⟩) (u := .int .i64 (-1)) hx2
  have hg2 : w.heap.size ≤ g2 := by have := HB0.out.size; have := HS4.out; omega
  have hg1 : w.heap.size ≤ g1 := by have := HB0.out.size; have := HS4.out; omega
  have hb := bS (bS (bS (bS (bS HB6.out (p := ⟨g2, k * 5, none⟩) hg2 (u := .bool false)) (p := ⟨g2, k * 5 + 1, none⟩) hg2 (u := .int .i64 0)) (p := ⟨g2, k * 5 + 2, none⟩) hg2 (u := .int .i64 0)) (p := ⟨g2, k * 5 + 3, none⟩) hg2 (u := .int .i64 0)) (p := ⟨g2, k * 5 + 4, none⟩) hg2 (u := .int .i64 (-1))
  have hlx := HX6.out.lt
  have hlo := HO6.out.lt
  generalize hW7 : ((((w6.setCell ⟨g2, k * 5, none⟩ (.bool false)).setCell ⟨g2, k * 5 + 1, none⟩ (.int .i64 0)).setCell ⟨g2, k * 5 + 2, none⟩ (.int .i64 0)).setCell ⟨g2, k * 5 + 3, none⟩ (.int .i64 0)).setCell ⟨g2, k * 5 + 4, none⟩ (.int .i64 (-1)) = w7 at nf nb hr ho hxx hb
  have nf : MineE frE 68 W0.heap.size w7 (some ⟨g2, 0, none⟩) (t.fs.set k frz) := by rw [← hW7]; exact M26.out.wfr hfl2 frz
  have NF7 := Lib.hid nf
  have NB7 := Lib.hid nb
  have HR7 := Lib.hid hr
  have HO7 := Lib.hid ho
  have HX7 := Lib.hid hxx
  have HB7 := Lib.hid hb
  clear nf nb hr ho hxx hb Q1 Q2
  have x70 := HX7.out.cell_ 0 (v := .slice (some ⟨b5, o5, none⟩) t.bs.length cb) rfl
  obtain ⟨bz, oz, eq1, hbz, e0⟩ := (HBR.out.now (Nat.le_refl _) HB7.out).i1 en0
  injection eq1 with eq1
  injection eq1 with eq1 eq2
  subst eq1 eq2
  have x71 := HX7.out.cell_ 1 (v := .slice (some ⟨b4, o4, none⟩) t.fs.length cf) rfl
  have hlx7 := HX7.out.lt
  have hlo7 := HO7.out.lt
  have hlr7 := HR7.out.lt
  by_cases hbe : n0 = (k : Int)
  · subst hbe
    have HU : Hid (unmT t s p = ⟨t.bs.set b f.n, t.fs.set k frz⟩) := by show _ = _; rw [HUT.out, if_pos rfl]
    have o70 := HO7.out.cell_ 0 (v := .slice (some ⟨g1, 0, none⟩) t.bs.length c1) rfl
    obtain ⟨_, cs1, u1, _, Q1, _⟩ := NB7.out.own (by omega)
    injection u1 with u1
    injection u1 with u1
    subst u1
    have z1 := Q1.free b
    obtain ⟨bz, oz, eq1, hbz, w0⟩ := NB7.out.is.i1 en0
    injection eq1 with eq1
    injection eq1 with eq1 eq2
    subst eq1 eq2
    rw [Nat.zero_add] at w0
    have nb := NB7.out.wint hbk f.n
    have nf := NF7.out.other (p := ⟨g1, b, none⟩) (u := .int .i64 f.n) hne
    have hr8 := HR7.out.far (p := ⟨g1, b, none⟩) (u := .int .i64 f.n) hr1
    have ho8 := HO7.out.far (p := ⟨g1, b, none⟩) (u := .int .i64 f.n) ho3
    have hb8 : Below w.heap.size w (w7.setCell ⟨g1, b, none⟩ (.int .i64 f.n)) := bS HB7.out hg1
    generalize hW8 : w7.setCell ⟨g1, b, none⟩ (.int .i64 f.n) = w8 at nb nf hr8 ho8 hb8
    have NB8 := Lib.hid nb
    have NF8 := Lib.hid nf
    have HR8 := Lib.hid hr8
    have HO8 := Lib.hid ho8
    have HB8 := Lib.hid hb8
    clear nb nf hr8 ho8 hb8 Q1 en0
    have r08 := HR8.out.cell_ 0 (v := .slice none 0 0) rfl
    have r18 := HR8.out.cell_ 1 (v := .slice none 0 0) rfl
    have fr08 := HR8.out.free 0
    have fr18 := HR8.out.free 1
    have o80 := HO8.out.cell_ 0 (v := .slice (some ⟨g1, 0, none⟩) t.bs.length c1) rfl
    have o81 := HO8.out.cell_ 1 (v := .slice (some ⟨g2, 0, none⟩) t.fs.length c2) rfl
    have hrl := HR8.out.lt
    have hol := HO8.out.lt
    go_wp2
    have o3 := (HR8.out.set_ 0 (.slice (some ⟨g1, 0, none⟩) t.bs.length c1)).set_ 1 (.slice (some ⟨g2, 0, none⟩) t.fs.length c2)
    have e0 := o3.cell_ 0 (v := .slice (some ⟨g1, 0, none⟩) t.bs.length c1) rfl
    have e1 := o3.cell_ 1 (v := .slice (some ⟨g2, 0, none⟩) t.fs.length c2) rfl
    have hlt3 := HR0.out.lt
    have Q3 := (NF8.out.far (p := ⟨w.heap.size + 1, 0, none⟩) (u := .slice (some ⟨g1, 0, none⟩) t.bs.length c1) hlt3).far (p := ⟨w.heap.size + 1, 1, none⟩) (u := .slice (some ⟨g2, 0, none⟩) t.fs.length c2) hlt3
    have Q4 := (NB8.out.far (p := ⟨w.heap.size + 1, 0, none⟩) (u := .slice (some ⟨g1, 0, none⟩) t.bs.length c1) hlt3).far (p := ⟨w.heap.size + 1, 1, none⟩) (u := .slice (some ⟨g2, 0, none⟩) t.fs.length c2) hlt3
    refine bodyPost_ret (v := .agg #[.slice (some ⟨g1, 0, none⟩) t.bs.length c1, .slice (some ⟨g2, 0, none⟩) t.fs.length c2]) (by simp [results, Tryz.results195, go_sem, e0, e1]) rfl ⟨_, rfl, _, _, rfl, ?_, ?_⟩
    · rw [HU.out]
      exact ⟨slm_of (by simp) (by simpa using a1) a2 (Q4.mono HB0.out.size), slm_of (by simp) (by simpa using b1) b2 (Q3.mono HB0.out.size)⟩
    · repeat (refine bS ?_ (by simp <;> omega))
      exact HB8.out
  · have HU : Hid (unmT t s p = ⟨t.bs, (t.fs.map (relink k f.n)).set k frz⟩) := by show _ = _; rw [HUT.out, if_neg hbe]
    have hne1 : (n0 == (k : Int)) = false := by rw [beq_eq_false_iff_ne]; exact hbe
    clear en0
    go_wp2
    clear x0 x1 x70 x71 o60 o61 v0 v1 v2 v3 v4 z2 z3 z4 z5 z6 d0 d1 d2 d3 d4 hlx hlo hlx7 hlo7 hlr7 e0
    go_loopw [8] (fun u wr => ∃ i : Nat, i ≤ t.fs.length ∧ u = .int .i64 i ∧ MineE intE 3 W0.heap.size wr (some ⟨g1, 0, none⟩) t.bs ∧ MineE frE 68 W0.heap.size wr (some ⟨g2, 0, none⟩) ((rl t.fs k f.n i).set k frz) ∧ Own wr (w.heap.size + 1) 26 #[.slice none 0 0, .slice none 0 0] ∧ Own wr w4.heap.size 26 #[.slice (some ⟨g1, 0, none⟩) t.bs.length c1, .slice (some ⟨g2, 0, none⟩) t.fs.length c2] ∧ Own wr w.heap.size 26 #[.slice (some ⟨b5, o5, none⟩) t.bs.length cb, .slice (some ⟨b4, o4, none⟩) t.fs.length cf] ∧ Below w.heap.size w wr) (fun u _ => t.fs.length - (intOf u).toNat)
    case atStart => exact ⟨0, by omega, rfl, NB7.out, by rw [rl_zero]; exact NF7.out, HR7.out, HO7.out, HX7.out, HB7.out⟩
    case round =>
      obtain ⟨i, hi, rfl, hnb, hnf, hhr, hho, hhx, hhb⟩ := hrel
      have NB8 := Lib.hid hnb
      have NF8 := Lib.hid hnf
      have HR8 := Lib.hid hhr
      have HO8 := Lib.hid hho
      have HX8 := Lib.hid hhx
      have HB8 := Lib.hid hhb
      clear hnb hnf hhr hho hhx hhb
      have x81 := HX8.out.cell_ 1 (v := .slice (some ⟨b4, o4, none⟩) t.fs.length cf) rfl
      have hlx8 := HX8.out.lt
      by_cases hlt : i < t.fs.length
      · obtain ⟨fi, ei⟩ : ∃ fi, t.fs[i]? = some fi := ⟨_, List.getElem?_eq_getElem hlt⟩
        obtain ⟨bz, oz, eq1, hbz, d0, d1, d2, d3, d4⟩ := (HFR.out.now (Nat.le_refl _) HB8.out).fr ei
        injection eq1 with eq1
        injection eq1 with eq1 eq2
        subst eq1 eq2
        have HST := Lib.hid (rl_step (a := (k : Int)) (n := f.n) ei)
        have HAT := Lib.hid (rl_at (a := (k : Int)) (n := f.n) ei)
        have hll := rl_len t.fs (k : Int) f.n i
        by_cases hre : fi.used = true ∧ fi.n = (k : Int)
        · have hik : k ≠ i := by
            rintro rfl
            rw [HEF.out] at ei
            injection ei with ei
            exact hsn (by rw [ei]; exact hre.2)
          have HRE : Hid (relink k f.n fi = { fi with n := f.n }) := if_pos hre
          have hu := hre.1
          have hn := hre.2
          have hat2 : ((rl t.fs k f.n i).set k frz)[i]? = some fi := by rw [List.getElem?_set, if_neg hik]; exact HAT.out
          have o81 := HO8.out.cell_ 1 (v := .slice (some ⟨g2, 0, none⟩) t.fs.length c2) rfl
          have hol := HO8.out.lt
          obtain ⟨_, cs9, u9, _, Q9, _⟩ := NF8.out.own (by simp; omega)
          injection u9 with u9
          injection u9 with u9
          subst u9
          have z6 := Q9.free (i * 5 + 4)
          obtain ⟨bz, oz, eq1, _, v0, v1, v2, v3, v4⟩ := NF8.out.is.fr hat2
          injection eq1 with eq1
          injection eq1 with eq1 eq2
          subst eq1 eq2
          rw [Nat.zero_add] at v4
          rw [hu] at d0
          rw [hn] at d4
          have nf9 := NF8.out.wnext hat2 f.n
          have nb9 := NB8.out.other (p := ⟨g2, i * 5 + 4, none⟩) (u := .int .i64 f.n) hne'
          have hr9 := HR8.out.far (p := ⟨g2, i * 5 + 4, none⟩) (u := .int .i64 f.n) hr2
          have ho9 := HO8.out.far (p := ⟨g2, i * 5 + 4, none⟩) (u := .int .i64 f.n) ho1
          have hx9 := HX8.out.far (p := ⟨g2, i * 5 + 4, none⟩) (u := .int .i64 f.n) hx2
          have hb9 : Below w.heap.size w (wr.setCell ⟨g2, i * 5 + 4, none⟩ (.int .i64 f.n)) := bS HB8.out hg2
          have heq9 : (rl t.fs k f.n (i + 1)).set k frz = ((rl t.fs k f.n i).set k frz).set i { fi with n := f.n } := by
            rw [HST.out, HRE.out, List.set_comm _ _ (fun h => hik h.symm)]
          have NF9 := Lib.hid nf9
          have NB9 := Lib.hid nb9
          have HR9 := Lib.hid hr9
          have HO9 := Lib.hid ho9
          have HX9 := Lib.hid hx9
          have HB9 := Lib.hid hb9
          have HE9 := Lib.hid heq9
          clear nf9 nb9 hr9 ho9 hx9 hb9 hre hu hn Q9 v0 v1 v2 v3 ei hat2 d1 d2 d3 heq9
          go_wp2
          go_roundw
          case rel => exact ⟨i + 1, by omega, by go_num, NB9.out, by rw [HE9.out]; exact NF9.out, HR9.out, HO9.out, HX9.out, HB9.out⟩
          case measure => simp [intOf]; omega
        · have HRE : Hid (relink k f.n fi = fi) := if_neg hre
          have HSM : Hid (rl t.fs k f.n (i + 1) = rl t.fs k f.n i) := by
            show _ = _
            rw [HST.out, HRE.out]
            exact List.ext_getElem? fun j => by
              rw [List.getElem?_set]
              split
              · rename_i hij
                subst hij
                rw [HAT.out, if_pos (by omega)]
              · rfl
          clear ei d1 d2 d3
          cases hu : fi.used with
          | false =>
            rw [hu] at d0
            clear d4 hre hu
            go_wp2
            go_roundw
            case rel => exact ⟨i + 1, by omega, by go_num, NB8.out, by rw [HSM.out]; exact NF8.out, HR8.out, HO8.out, HX8.out, HB8.out⟩
            case measure => simp [intOf]; omega
          | true =>
            rw [hu] at d0
            have hn2 : (fi.n == (k : Int)) = false := by rw [beq_eq_false_iff_ne]; exact fun h => hre ⟨hu, h⟩
            clear hre hu
            go_wp2
            go_roundw
            case rel => exact ⟨i + 1, by omega, by go_num, NB8.out, by rw [HSM.out]; exact NF8.out, HR8.out, HO8.out, HX8.out, HB8.out⟩
            case measure => simp [intOf]; omega
      · obtain rfl : i = t.fs.length := by omega
        have hra := rl_all t.fs k f.n
        rw [hra] at NF8
        have r08 := HR8.out.cell_ 0 (v := .slice none 0 0) rfl
        have r18 := HR8.out.cell_ 1 (v := .slice none 0 0) rfl
        have fr08 := HR8.out.free 0
        have fr18 := HR8.out.free 1
        have o80 := HO8.out.cell_ 0 (v := .slice (some ⟨g1, 0, none⟩) t.bs.length c1) rfl
        have o81 := HO8.out.cell_ 1 (v := .slice (some ⟨g2, 0, none⟩) t.fs.length c2) rfl
        have hrl := HR8.out.lt
        have hol := HO8.out.lt
        go_wp2
        have o3 := (HR8.out.set_ 0 (.slice (some ⟨g1, 0, none⟩) t.bs.length c1)).set_ 1 (.slice (some ⟨g2, 0, none⟩) t.fs.length c2)
        have e0 := o3.cell_ 0 (v := .slice (some ⟨g1, 0, none⟩) t.bs.length c1) rfl
        have e1 := o3.cell_ 1 (v := .slice (some ⟨g2, 0, none⟩) t.fs.length c2) rfl
        have hlt3 := HR0.out.lt
        have Q3 := (NF8.out.far (p := ⟨w.heap.size + 1, 0, none⟩) (u := .slice (some ⟨g1, 0, none⟩) t.bs.length c1) hlt3).far (p := ⟨w.heap.size + 1, 1, none⟩) (u := .slice (some ⟨g2, 0, none⟩) t.fs.length c2) hlt3
        have Q4 := (NB8.out.far (p := ⟨w.heap.size + 1, 0, none⟩) (u := .slice (some ⟨g1, 0, none⟩) t.bs.length c1) hlt3).far (p := ⟨w.heap.size + 1, 1, none⟩) (u := .slice (some ⟨g2, 0, none⟩) t.fs.length c2) hlt3
        refine bodyPost_ret (v := .agg #[.slice (some ⟨g1, 0, none⟩) t.bs.length c1, .slice (some ⟨g2, 0, none⟩) t.fs.length c2]) (by simp [results, Tryz.results195, go_sem, e0, e1]) rfl ⟨_, rfl, _, _, rfl, ?_, ?_⟩
        · rw [HU.out]
          exact ⟨slm_of (by simp) (by simpa using a1) a2 (Q4.mono HB0.out.size), slm_of (by simp) (by simpa using b1) b2 (Q3.mono HB0.out.size)⟩
        · repeat (refine bS ?_ (by simp <;> omega))
          exact HB8.out
set_option maxHeartbeats 4000000 in
theorem sUnmapPage_any (vb vf : Value) (t : Tab) (s p : Int) (w : World) (hT : TaR w vb vf t) :
    Calls Tryz.prog 151 #[.agg #[vb, vf], .agg #[.int .i64 s, .int .i64 p]] w (Post2 fun v w' => ∃ v1 v2, v = .tuple #[.agg #[v1, v2], .bool (fOK t s p)] ∧ TaM w.heap.size w' v1 v2 (unmV t s p) ∧ Below w.heap.size w w') := by
  have ht0 := ((Own.new_ w 26 #[vb, vf]).alloc (o := .cells #[.int .i64 s, .int .i64 p] 36)).alloc (o := .cells #[.slice none 0 0, .slice none 0 0] 26)
  have hk0 := (Own.new_ (w.alloc (.cells #[vb, vf] 26)) 36 #[.int .i64 s, .int .i64 p]).alloc (o := .cells #[.slice none 0 0, .slice none 0 0] 26)
  have hr0 := Own.new_ ((w.alloc (.cells #[vb, vf] 26)).alloc (.cells #[.int .i64 s, .int .i64 p] 36)) 26 #[.slice none 0 0, .slice none 0 0]
  have hb0 : Below w.heap.size w (((w.alloc (.cells #[vb, vf] 26)).alloc (.cells #[.int .i64 s, .int .i64 p] 36)).alloc (.cells #[.slice none 0 0, .slice none 0 0] 26)) := bA (bA (bA bR))
  rw [show (w.alloc (.cells #[vb, vf] 26)).heap.size = w.heap.size + 1 by simp] at hk0
  rw [show ((w.alloc (.cells #[vb, vf] 26)).alloc (.cells #[.int .i64 s, .int .i64 p] 36)).heap.size = w.heap.size + 1 + 1 by simp] at hr0
  have hs0 : (((w.alloc (.cells #[vb, vf] 26)).alloc (.cells #[.int .i64 s, .int .i64 p] 36)).alloc (.cells #[.slice none 0 0, .slice none 0 0] 26)).heap.size = w.heap.size + 3 := by simp
  generalize hW : ((w.alloc (.cells #[vb, vf] 26)).alloc (.cells #[.int .i64 s, .int .i64 p] 36)).alloc (.cells #[.slice none 0 0, .slice none 0 0] 26) = W0 at ht0 hk0 hr0 hb0 hs0
  have HT0 := Lib.hid ht0
  have HK0 := Lib.hid hk0
  have HR0 := Lib.hid hr0
  have HB0 := Lib.hid hb0
  clear ht0 hk0 hr0 hb0
  have t00 := HT0.out.cell_ 0 (v := vb) rfl
  have t10 := HT0.out.cell_ 1 (v := vf) rfl
  have k00 := HK0.out.cell_ 0 (v := .int .i64 s) rfl
  have k10 := HK0.out.cell_ 1 (v := .int .i64 p) rfl
  have HTR := Lib.hid hT
  clear hT
  go_enter Tryz.func151, Tryz.ntmps151
  go_wp2_with fail
  refine (sFindPage_any vb vf t s p _ (HTR.out.now HB0.out)).mono ?_
  rintro e w1 ⟨_, rfl, stp, rfl, hb1⟩
  have HT1 := Lib.hid (HT0.out.below hb1)
  have HK1 := Lib.hid (HK0.out.below hb1)
  have HR1 := Lib.hid (HR0.out.below hb1)
  have HB1 := Lib.hid (bT HB0.out hb1)
  clear hb1
  have t01 := HT1.out.cell_ 0 rfl
  have t11 := HT1.out.cell_ 1 rfl
  have k01 := HK1.out.cell_ 0 (v := .int .i64 s) rfl
  have k11 := HK1.out.cell_ 1 (v := .int .i64 p) rfl
  have r01 := HR1.out.cell_ 0 (v := .slice none 0 0) rfl
  have r11 := HR1.out.cell_ 1 (v := .slice none 0 0) rfl
  have fr01 := HR1.out.free 0
  have fr11 := HR1.out.free 1
  clear t00 t10 k00 k10
  try clear r00 r10 fr00 fr10
  cases h1 : fOK t s p with
  | false =>
    have HA : Hid (fOK t s p = false) := h1
    have HV := Lib.hid (unmOK_false HA.out)
    go_wp2
    have o3 := (HR1.out.set_ 0 (.slice none 0 0)).set_ 1 (.slice none 0 0)
    have e0 := o3.cell_ 0 (v := .slice none 0 0) rfl
    have e1 := o3.cell_ 1 (v := .slice none 0 0) rfl
    refine bodyPost_ret (v := .tuple #[.agg #[.slice none 0 0, .slice none 0 0], .bool false]) (by simp [results, Tryz.results151, go_sem, e0, e1]) rfl ⟨_, rfl, _, _, by rw [HA.out], ?_, bS (bS HB1.out (by simp; omega)) (by simp; omega)⟩
    rw [HV.out]
    exact tam_z
  | true =>
  have HA : Hid (fOK t s p = true) := h1
  have HV : Hid (unmV t s p = unmT t s p) := by show _ = _; unfold unmV; rw [HA.out]; rfl
  have h1' := h1
  unfold fOK at h1'
  simp only [Bool.and_eq_true, decide_eq_true_eq] at h1'
  obtain ⟨⟨htv, hkv⟩, h3⟩ := h1'
  obtain ⟨k, f, hk, ef, hfu, hfk⟩ := fndI_lt h3
  have HFP : Hid (fpV t s p = (k : Int)) := by show _ = _; unfold fpV; rw [h1, if_pos rfl, hk]
  rw [HFP.out]
  have HC := Lib.hid (l3Unmap_any vb vf t s p k f w1 (HTR.out.now HB1.out) htv hkv hk ef hfu hfk)
  clear hk ef hfk h3 hfu htv hkv
  go_wp2_with fail
  refine HC.out.mono ?_
  rintro e w4 ⟨_, rfl, v1, v2, rfl, hM4, hb4'⟩
  have hb4 := hb4'
  have hs4 : w.heap.size + 1 + 1 < w1.heap.size := HR1.out.lt
  have HT4 := Lib.hid (HT1.out.below hb4)
  have HK4 := Lib.hid (HK1.out.below hb4)
  have HR4 := Lib.hid (HR1.out.below hb4)
  have HB4 := Lib.hid (bT HB1.out hb4)
  clear hb4
  have t04 := HT4.out.cell_ 0 rfl
  have t14 := HT4.out.cell_ 1 rfl
  have k04 := HK4.out.cell_ 0 (v := .int .i64 s) rfl
  have k14 := HK4.out.cell_ 1 (v := .int .i64 p) rfl
  have r04 := HR4.out.cell_ 0 (v := .slice none 0 0) rfl
  have r14 := HR4.out.cell_ 1 (v := .slice none 0 0) rfl
  have fr04 := HR4.out.free 0
  have fr14 := HR4.out.free 1
  clear t01 t11 k01 k11
  try clear r01 r11 fr01 fr11
  obtain ⟨A1, c1, rfl, _⟩ := hM4.b
  obtain ⟨A2, c2, rfl, _⟩ := hM4.f
  have HM4 := Lib.hid hM4
  have hsz3 := HB1.out.size
  have hlr := HR4.out.lt
  clear hM4 hb4'
  go_wp2
  have o3 := (HR4.out.set_ 0 (.slice A1 (unmT t s p).bs.length c1)).set_ 1 (.slice A2 (unmT t s p).fs.length c2)
  have e0 := o3.cell_ 0 (v := .slice A1 (unmT t s p).bs.length c1) rfl
  have e1 := o3.cell_ 1 (v := .slice A2 (unmT t s p).fs.length c2) rfl
  have M7 := ((HM4.out.far (p := ⟨w.heap.size + 1 + 1, 0, none⟩) (u := .slice A1 (unmT t s p).bs.length c1) hs4).far (p := ⟨w.heap.size + 1 + 1, 1, none⟩) (u := .slice A2 (unmT t s p).fs.length c2) hs4).mono (B' := w.heap.size) hsz3
  refine bodyPost_ret (v := .tuple #[.agg #[.slice A1 (unmT t s p).bs.length c1, .slice A2 (unmT t s p).fs.length c2], .bool true]) (by simp [results, Tryz.results151, go_sem, e0, e1]) rfl ⟨_, rfl, _, _, by rw [HA.out], ?_, bS (bS HB4.out (by simp; omega)) (by simp; omega)⟩
  rw [HV.out]
  exact M7
end Go.Proofs.YtkmocongdkacjaaGreatDoor
namespace Go.Proofs.YtkmocongdkacjaaGreatDoor
open Go.RowKit
set_option maxRecDepth 1000000
set_option maxHeartbeats 4000000 in
theorem TakePage_any (vb vf vl vo : Value) (m : Ma) (s p  : Int) (w : World) (hM : MaR w vb vf vl vo m) (hfree : Free w) :
    Calls Tryz.prog 83 #[.agg #[vb, vf, vl, .int .i64 m.c.hand, .int .i64 m.g.count, .int .i64 m.g.next, .int .i64 m.g.round, vo, .int .i64 m.sp], .agg #[.int .i64 s, .int .i64 p]] w (Post2 fun v w' => ∃ v1 v2 v3 v4, v = .tuple #[.agg #[v1, v2, v3, .int .i64 (takV m s p).c.hand, .int .i64 (takV m s p).g.count, .int .i64 (takV m s p).g.next, .int .i64 (takV m s p).g.round, v4, .int .i64 (takV m s p).sp], .bool (takO m s p)] ∧ MaM w.heap.size w' v1 v2 v3 v4 (takV m s p) ∧ Below w.heap.size w w') := by
  have hbx := ((Own.new_ w 34 #[vb, vf, vl, .int .i64 m.c.hand, .int .i64 m.g.count, .int .i64 m.g.next, .int .i64 m.g.round, vo, .int .i64 m.sp]).alloc (o := .cells #[.int .i64 s, .int .i64 p] 36)).alloc (o := .cells #[.slice none 0 0, .slice none 0 0, .slice none 0 0, .int .i64 0, .int .i64 0, .int .i64 0, .int .i64 0, .slice none 0 0, .int .i64 0] 34)
  have hbk := (ownAt (W := w.alloc (.cells #[vb, vf, vl, .int .i64 m.c.hand, .int .i64 m.g.count, .int .i64 m.g.next, .int .i64 m.g.round, vo, .int .i64 m.sp] 34)) (g := w.heap.size + 1) (t := 36) (cs := #[.int .i64 s, .int .i64 p]) (by simp)).alloc (o := .cells #[.slice none 0 0, .slice none 0 0, .slice none 0 0, .int .i64 0, .int .i64 0, .int .i64 0, .int .i64 0, .slice none 0 0, .int .i64 0] 34)
  have hbo := ownAt (W := (w.alloc (.cells #[vb, vf, vl, .int .i64 m.c.hand, .int .i64 m.g.count, .int .i64 m.g.next, .int .i64 m.g.round, vo, .int .i64 m.sp] 34)).alloc (.cells #[.int .i64 s, .int .i64 p] 36)) (g := w.heap.size + 1 + 1) (t := 34) (cs := #[.slice none 0 0, .slice none 0 0, .slice none 0 0, .int .i64 0, .int .i64 0, .int .i64 0, .int .i64 0, .slice none 0 0, .int .i64 0]) (by simp)
  have hb0 : Below w.heap.size w (((w.alloc (.cells #[vb, vf, vl, .int .i64 m.c.hand, .int .i64 m.g.count, .int .i64 m.g.next, .int .i64 m.g.round, vo, .int .i64 m.sp] 34)).alloc (.cells #[.int .i64 s, .int .i64 p] 36)).alloc (.cells #[.slice none 0 0, .slice none 0 0, .slice none 0 0, .int .i64 0, .int .i64 0, .int .i64 0, .int .i64 0, .slice none 0 0, .int .i64 0] 34)) := bA (bA (bA bR))
  have hs0 : (((w.alloc (.cells #[vb, vf, vl, .int .i64 m.c.hand, .int .i64 m.g.count, .int .i64 m.g.next, .int .i64 m.g.round, vo, .int .i64 m.sp] 34)).alloc (.cells #[.int .i64 s, .int .i64 p] 36)).alloc (.cells #[.slice none 0 0, .slice none 0 0, .slice none 0 0, .int .i64 0, .int .i64 0, .int .i64 0, .int .i64 0, .slice none 0 0, .int .i64 0] 34)).heap.size = w.heap.size + 3 := by simp
  generalize hW : ((w.alloc (.cells #[vb, vf, vl, .int .i64 m.c.hand, .int .i64 m.g.count, .int .i64 m.g.next, .int .i64 m.g.round, vo, .int .i64 m.sp] 34)).alloc (.cells #[.int .i64 s, .int .i64 p] 36)).alloc (.cells #[.slice none 0 0, .slice none 0 0, .slice none 0 0, .int .i64 0, .int .i64 0, .int .i64 0, .int .i64 0, .slice none 0 0, .int .i64 0] 34) = W0 at hbx hbk hbo hb0 hs0
  have HX0 := Lib.hid hbx
  have HK0 := Lib.hid hbk
  have HR0 := Lib.hid hbo
  have HB0 := Lib.hid hb0
  have HS0 : Hid (w.heap.size + 3 ≤ W0.heap.size) := Nat.le_of_eq hs0.symm
  clear hbx hbk hbo hb0
  have HM := Lib.hid hM
  have HF := Lib.hid hfree
  clear hM hfree
  have m00 := HX0.out.cell_ 0 (v := vb) rfl
  have m10 := HX0.out.cell_ 1 (v := vf) rfl
  have m20 := HX0.out.cell_ 2 (v := vl) rfl
  have m30 := HX0.out.cell_ 3 (v := .int .i64 m.c.hand) rfl
  have m40 := HX0.out.cell_ 4 (v := .int .i64 m.g.count) rfl
  have m50 := HX0.out.cell_ 5 (v := .int .i64 m.g.next) rfl
  have m60 := HX0.out.cell_ 6 (v := .int .i64 m.g.round) rfl
  have m70 := HX0.out.cell_ 7 (v := vo) rfl
  have m80 := HX0.out.cell_ 8 (v := .int .i64 m.sp) rfl
  go_enter Tryz.func83, Tryz.ntmps83
  go_wp2_with fail
  refine (MachineValid_any vb vf vl vo m _ (HM.out.now HB0.out) (HF.out.now HB0.out)).mono ?_
  rintro e w1 ⟨rfl, hb1⟩
  have HX1 := Lib.hid (HX0.out.below hb1)
  have HK1 := Lib.hid (HK0.out.below hb1)
  have HR1 := Lib.hid (HR0.out.below hb1)
  have HB1 := Lib.hid (bT HB0.out hb1)
  have HS1 := Lib.hid (Nat.le_trans HS0.out hb1.size)
  clear hb1
  clear m00 m10 m20 m30 m40 m50 m60 m70 m80
  cases h1 : mav m with
  | false =>
    have HA : Hid (takO m s p = false) := by show _ = _; unfold takO; rw [h1]; rfl
    have HV := Lib.hid (takO_false HA.out)
    have r0x := HR1.out.cell_ 0 (v := .slice none 0 0) rfl
    have r1x := HR1.out.cell_ 1 (v := .slice none 0 0) rfl
    have r2x := HR1.out.cell_ 2 (v := .slice none 0 0) rfl
    have r3x := HR1.out.cell_ 3 (v := .int .i64 0) rfl
    have r4x := HR1.out.cell_ 4 (v := .int .i64 0) rfl
    have r5x := HR1.out.cell_ 5 (v := .int .i64 0) rfl
    have r6x := HR1.out.cell_ 6 (v := .int .i64 0) rfl
    have r7x := HR1.out.cell_ 7 (v := .slice none 0 0) rfl
    have r8x := HR1.out.cell_ 8 (v := .int .i64 0) rfl
    have z0x := HR1.out.free 0
    have z1x := HR1.out.free 1
    have z2x := HR1.out.free 2
    have z3x := HR1.out.free 3
    have z4x := HR1.out.free 4
    have z5x := HR1.out.free 5
    have z6x := HR1.out.free 6
    have z7x := HR1.out.free 7
    have z8x := HR1.out.free 8
    go_wp2
    have o3 := ((((((((HR1.out.set_ 0 (.slice none 0 0)).set_ 1 (.slice none 0 0)).set_ 2 (.slice none 0 0)).set_ 3 (.int .i64 0)).set_ 4 (.int .i64 0)).set_ 5 (.int .i64 0)).set_ 6 (.int .i64 0)).set_ 7 (.slice none 0 0)).set_ 8 (.int .i64 0)
    have t0 := o3.cell_ 0 (v := .slice none 0 0) (by simp)
    have t1 := o3.cell_ 1 (v := .slice none 0 0) (by simp)
    have t2 := o3.cell_ 2 (v := .slice none 0 0) (by simp)
    have t3 := o3.cell_ 3 (v := .int .i64 0) (by simp)
    have t4 := o3.cell_ 4 (v := .int .i64 0) (by simp)
    have t5 := o3.cell_ 5 (v := .int .i64 0) (by simp)
    have t6 := o3.cell_ 6 (v := .int .i64 0) (by simp)
    have t7 := o3.cell_ 7 (v := .slice none 0 0) (by simp)
    have t8 := o3.cell_ 8 (v := .int .i64 0) (by simp)
    refine bodyPost_ret (v := .tuple #[.agg #[.slice none 0 0, .slice none 0 0, .slice none 0 0, .int .i64 0, .int .i64 0, .int .i64 0, .int .i64 0, .slice none 0 0, .int .i64 0], .bool false]) (by simp [results, Tryz.results83, go_sem, t0, t1, t2, t3, t4, t5, t6, t7, t8]) rfl ⟨_, rfl, _, _, _, _, by rw [HA.out, HV.out]; rfl, by rw [HV.out]; exact mam_z, ?_⟩
    repeat (refine bS ?_ (by simp <;> omega))
    exact HB1.out
  | true =>
    obtain ⟨a1, a2, a3, a4⟩ := mav_len h1
    have m01 := HX1.out.cell_ 0 (v := vb) rfl
    have m11 := HX1.out.cell_ 1 (v := vf) rfl
    have m21 := HX1.out.cell_ 2 (v := vl) rfl
    have m31 := HX1.out.cell_ 3 (v := .int .i64 m.c.hand) rfl
    have m41 := HX1.out.cell_ 4 (v := .int .i64 m.g.count) rfl
    have m51 := HX1.out.cell_ 5 (v := .int .i64 m.g.next) rfl
    have m61 := HX1.out.cell_ 6 (v := .int .i64 m.g.round) rfl
    have m71 := HX1.out.cell_ 7 (v := vo) rfl
    have m81 := HX1.out.cell_ 8 (v := .int .i64 m.sp) rfl
    have k01 := HK1.out.cell_ 0 (v := .int .i64 s) rfl
    have k11 := HK1.out.cell_ 1 (v := .int .i64 p) rfl
    go_wp2_with fail
    refine (UnmapPage_any vb vf m.t s p _ (HM.out.t.now HB1.out) (HF.out.now HB1.out)).mono ?_
    rintro e w2 ⟨_, rfl, v1, v2, rfl, hT2, hb2⟩
    obtain ⟨A1, c1, rfl, _⟩ := hT2.b
    obtain ⟨A2, c2, rfl, _⟩ := hT2.f
    have hs1 := HS1.out
    have HX2 := Lib.hid (HX1.out.below hb2)
    have HK2 := Lib.hid (HK1.out.below hb2)
    have HR2 := Lib.hid (HR1.out.below hb2)
    have HB2 := Lib.hid (bT HB1.out hb2)
    have HS2 := Lib.hid (Nat.le_trans HS1.out hb2.size)
    clear hb2
    clear m01 m11 m21 m31 m41 m51 m61 m71 m81
    clear k01 k11
    have ho5 := Own.new_ w2 26 #[.slice A1 (unmV m.t s p).bs.length c1, .slice A2 (unmV m.t s p).fs.length c2]
    have hb5 : Below w2.heap.size w2 (w2.alloc (.cells #[.slice A1 (unmV m.t s p).bs.length c1, .slice A2 (unmV m.t s p).fs.length c2] 26)) := bA bR
    generalize hW5 : w2.alloc (.cells #[.slice A1 (unmV m.t s p).bs.length c1, .slice A2 (unmV m.t s p).fs.length c2] 26) = w5 at ho5 hb5
    have HT5 := Lib.hid ((hT2.now hb5).mono hs1)
    clear hT2
    have HX5 := Lib.hid (HX2.out.below hb5)
    have HK5 := Lib.hid (HK2.out.below hb5)
    have HR5 := Lib.hid (HR2.out.below hb5)
    have HB5 := Lib.hid (bT HB2.out hb5)
    have HS5 := Lib.hid (Nat.le_trans HS2.out hb5.size)
    clear hb5
    cases h3 : fOK m.t s p with
    | false =>
      have HA : Hid (takO m s p = false) := by show _ = _; unfold takO; rw [h3, Bool.and_false]
      have HV := Lib.hid (takO_false HA.out)
      clear ho5
      have r0x := HR5.out.cell_ 0 (v := .slice none 0 0) rfl
      have r1x := HR5.out.cell_ 1 (v := .slice none 0 0) rfl
      have r2x := HR5.out.cell_ 2 (v := .slice none 0 0) rfl
      have r3x := HR5.out.cell_ 3 (v := .int .i64 0) rfl
      have r4x := HR5.out.cell_ 4 (v := .int .i64 0) rfl
      have r5x := HR5.out.cell_ 5 (v := .int .i64 0) rfl
      have r6x := HR5.out.cell_ 6 (v := .int .i64 0) rfl
      have r7x := HR5.out.cell_ 7 (v := .slice none 0 0) rfl
      have r8x := HR5.out.cell_ 8 (v := .int .i64 0) rfl
      have z0x := HR5.out.free 0
      have z1x := HR5.out.free 1
      have z2x := HR5.out.free 2
      have z3x := HR5.out.free 3
      have z4x := HR5.out.free 4
      have z5x := HR5.out.free 5
      have z6x := HR5.out.free 6
      have z7x := HR5.out.free 7
      have z8x := HR5.out.free 8
      go_wp2
      have o3 := ((((((((HR5.out.set_ 0 (.slice none 0 0)).set_ 1 (.slice none 0 0)).set_ 2 (.slice none 0 0)).set_ 3 (.int .i64 0)).set_ 4 (.int .i64 0)).set_ 5 (.int .i64 0)).set_ 6 (.int .i64 0)).set_ 7 (.slice none 0 0)).set_ 8 (.int .i64 0)
      have t0 := o3.cell_ 0 (v := .slice none 0 0) (by simp)
      have t1 := o3.cell_ 1 (v := .slice none 0 0) (by simp)
      have t2 := o3.cell_ 2 (v := .slice none 0 0) (by simp)
      have t3 := o3.cell_ 3 (v := .int .i64 0) (by simp)
      have t4 := o3.cell_ 4 (v := .int .i64 0) (by simp)
      have t5 := o3.cell_ 5 (v := .int .i64 0) (by simp)
      have t6 := o3.cell_ 6 (v := .int .i64 0) (by simp)
      have t7 := o3.cell_ 7 (v := .slice none 0 0) (by simp)
      have t8 := o3.cell_ 8 (v := .int .i64 0) (by simp)
      refine bodyPost_ret (v := .tuple #[.agg #[.slice none 0 0, .slice none 0 0, .slice none 0 0, .int .i64 0, .int .i64 0, .int .i64 0, .int .i64 0, .slice none 0 0, .int .i64 0], .bool false]) (by simp [results, Tryz.results83, go_sem, t0, t1, t2, t3, t4, t5, t6, t7, t8]) rfl ⟨_, rfl, _, _, _, _, by rw [HA.out, HV.out]; rfl, by rw [HV.out]; exact mam_z, ?_⟩
      repeat (refine bS ?_ (by simp <;> omega))
      exact HB5.out
    | true =>
      have HA : Hid (takO m s p = true) := by show _ = _; unfold takO; rw [h1, h3]; rfl
      have HV : Hid (takV m s p = drpM m (unmV m.t s p) s p) := by show _ = _; unfold takV; rw [HA.out]; rfl
      have m05 := HX5.out.cell_ 0 (v := vb) rfl
      have m15 := HX5.out.cell_ 1 (v := vf) rfl
      have m25 := HX5.out.cell_ 2 (v := vl) rfl
      have m35 := HX5.out.cell_ 3 (v := .int .i64 m.c.hand) rfl
      have m45 := HX5.out.cell_ 4 (v := .int .i64 m.g.count) rfl
      have m55 := HX5.out.cell_ 5 (v := .int .i64 m.g.next) rfl
      have m65 := HX5.out.cell_ 6 (v := .int .i64 m.g.round) rfl
      have m75 := HX5.out.cell_ 7 (v := vo) rfl
      have m85 := HX5.out.cell_ 8 (v := .int .i64 m.sp) rfl
      have k05 := HK5.out.cell_ 0 (v := .int .i64 s) rfl
      have k15 := HK5.out.cell_ 1 (v := .int .i64 p) rfl
      have u0 := ho5.cell_ 0 (v := .slice A1 (unmV m.t s p).bs.length c1) rfl
      have u1 := ho5.cell_ 1 (v := .slice A2 (unmV m.t s p).fs.length c2) rfl
      have hs5 := HS5.out
      clear ho5
      go_wp2_with fail
      refine (dropped_any vb vf vl vo _ _ m (unmV m.t s p) s p (w.heap.size + 3) _ (HM.out.now HB5.out) hs5 HT5.out a1 a2 a3 a4).mono ?_
      rintro e w3 ⟨_, rfl, q1, q2, q3, q4, rfl, hM3, hb3⟩
      have HX3 := Lib.hid (HX5.out.below hb3)
      have HK3 := Lib.hid (HK5.out.below hb3)
      have HR3 := Lib.hid (HR5.out.below hb3)
      have HB3 := Lib.hid (bT HB5.out hb3)
      have HS3 := Lib.hid (Nat.le_trans HS5.out hb3.size)
      clear hb3
      clear m05 m15 m25 m35 m45 m55 m65 m75 m85
      clear k05 k15 u0 u1
      have r0x := HR3.out.cell_ 0 (v := .slice none 0 0) rfl
      have r1x := HR3.out.cell_ 1 (v := .slice none 0 0) rfl
      have r2x := HR3.out.cell_ 2 (v := .slice none 0 0) rfl
      have r3x := HR3.out.cell_ 3 (v := .int .i64 0) rfl
      have r4x := HR3.out.cell_ 4 (v := .int .i64 0) rfl
      have r5x := HR3.out.cell_ 5 (v := .int .i64 0) rfl
      have r6x := HR3.out.cell_ 6 (v := .int .i64 0) rfl
      have r7x := HR3.out.cell_ 7 (v := .slice none 0 0) rfl
      have r8x := HR3.out.cell_ 8 (v := .int .i64 0) rfl
      have z0x := HR3.out.free 0
      have z1x := HR3.out.free 1
      have z2x := HR3.out.free 2
      have z3x := HR3.out.free 3
      have z4x := HR3.out.free 4
      have z5x := HR3.out.free 5
      have z6x := HR3.out.free 6
      have z7x := HR3.out.free 7
      have z8x := HR3.out.free 8
      have HM3 := Lib.hid hM3
      obtain ⟨B1, d1, rfl, _⟩ := hM3.t.b
      obtain ⟨B2, d2, rfl, _⟩ := hM3.t.f
      obtain ⟨B3, d3, rfl, _⟩ := hM3.l
      obtain ⟨B4, d4, rfl, _⟩ := hM3.o
      clear hM3
      have hl3 := HR3.out.lt
      go_wp2
      have o3 := HR3.out.set9 (.slice B1 (drpM m (unmV m.t s p) s p).t.bs.length d1) (.slice B2 (drpM m (unmV m.t s p) s p).t.fs.length d2) (.slice B3 (drpM m (unmV m.t s p) s p).c.ls.length d3) (.int .i64 (drpM m (unmV m.t s p) s p).c.hand) (.int .i64 (drpM m (unmV m.t s p) s p).g.count) (.int .i64 (drpM m (unmV m.t s p) s p).g.next) (.int .i64 (drpM m (unmV m.t s p) s p).g.round) (.slice B4 (drpM m (unmV m.t s p) s p).g.os.length d4) (.int .i64 (drpM m (unmV m.t s p) s p).sp)
      have p0t := o3.cell_ 0 (v := .slice B1 (drpM m (unmV m.t s p) s p).t.bs.length d1) rfl
      have p1t := o3.cell_ 1 (v := .slice B2 (drpM m (unmV m.t s p) s p).t.fs.length d2) rfl
      have p2t := o3.cell_ 2 (v := .slice B3 (drpM m (unmV m.t s p) s p).c.ls.length d3) rfl
      have p3t := o3.cell_ 3 (v := .int .i64 (drpM m (unmV m.t s p) s p).c.hand) rfl
      have p4t := o3.cell_ 4 (v := .int .i64 (drpM m (unmV m.t s p) s p).g.count) rfl
      have p5t := o3.cell_ 5 (v := .int .i64 (drpM m (unmV m.t s p) s p).g.next) rfl
      have p6t := o3.cell_ 6 (v := .int .i64 (drpM m (unmV m.t s p) s p).g.round) rfl
      have p7t := o3.cell_ 7 (v := .slice B4 (drpM m (unmV m.t s p) s p).g.os.length d4) rfl
      have p8t := o3.cell_ 8 (v := .int .i64 (drpM m (unmV m.t s p) s p).sp) rfl
      refine bodyPost_ret (v := .tuple #[.agg #[.slice B1 (drpM m (unmV m.t s p) s p).t.bs.length d1, .slice B2 (drpM m (unmV m.t s p) s p).t.fs.length d2, .slice B3 (drpM m (unmV m.t s p) s p).c.ls.length d3, .int .i64 (drpM m (unmV m.t s p) s p).c.hand, .int .i64 (drpM m (unmV m.t s p) s p).g.count, .int .i64 (drpM m (unmV m.t s p) s p).g.next, .int .i64 (drpM m (unmV m.t s p) s p).g.round, .slice B4 (drpM m (unmV m.t s p) s p).g.os.length d4, .int .i64 (drpM m (unmV m.t s p) s p).sp], .bool true]) (by simp [results, Tryz.results83, go_sem, p0t, p1t, p2t, p3t, p4t, p5t, p6t, p7t, p8t]) rfl ⟨_, rfl, _, _, _, _, by rw [HA.out, HV.out], ?_, ?_⟩
      · rw [HV.out]
        exact (HM3.out.far9 HR3.out _ _ _ _ _ _ _ _ _).mono (by omega)
      · repeat (refine bS ?_ (by simp <;> omega))
        exact HB3.out
set_option maxHeartbeats 2000000 in
theorem TakeRange1_any (vb vf vl vo : Value) (m : Ma) (i s p : Int) (w : World) (hM : MaR w vb vf vl vo m) (hfree : Free w) :
    Calls Tryz.prog 82 #[.agg #[vb, vf, vl, .int .i64 m.c.hand, .int .i64 m.g.count, .int .i64 m.g.next, .int .i64 m.g.round, vo, .int .i64 m.sp], .int .i64 i, .agg #[.int .i64 s, .int .i64 p]] w (Post2 fun v w' => ∃ v1 v2 v3 v4, v = .tuple #[.agg #[v1, v2, v3, .int .i64 (takV m s p).c.hand, .int .i64 (takV m s p).g.count, .int .i64 (takV m s p).g.next, .int .i64 (takV m s p).g.round, v4, .int .i64 (takV m s p).sp], .bool (takO m s p)] ∧ MaM w.heap.size w' v1 v2 v3 v4 (takV m s p) ∧ Below w.heap.size w w') := by
  have hbx := ((Own.new_ w 34 #[vb, vf, vl, .int .i64 m.c.hand, .int .i64 m.g.count, .int .i64 m.g.next, .int .i64 m.g.round, vo, .int .i64 m.sp]).alloc (o := .cells #[.int .i64 s, .int .i64 p] 36)).alloc (o := .cells #[.slice none 0 0, .slice none 0 0, .slice none 0 0, .int .i64 0, .int .i64 0, .int .i64 0, .int .i64 0, .slice none 0 0, .int .i64 0] 34)
  have hbk := (ownAt (W := w.alloc (.cells #[vb, vf, vl, .int .i64 m.c.hand, .int .i64 m.g.count, .int .i64 m.g.next, .int .i64 m.g.round, vo, .int .i64 m.sp] 34)) (g := w.heap.size + 1) (t := 36) (cs := #[.int .i64 s, .int .i64 p]) (by simp)).alloc (o := .cells #[.slice none 0 0, .slice none 0 0, .slice none 0 0, .int .i64 0, .int .i64 0, .int .i64 0, .int .i64 0, .slice none 0 0, .int .i64 0] 34)
  have hbo := ownAt (W := (w.alloc (.cells #[vb, vf, vl, .int .i64 m.c.hand, .int .i64 m.g.count, .int .i64 m.g.next, .int .i64 m.g.round, vo, .int .i64 m.sp] 34)).alloc (.cells #[.int .i64 s, .int .i64 p] 36)) (g := w.heap.size + 1 + 1) (t := 34) (cs := #[.slice none 0 0, .slice none 0 0, .slice none 0 0, .int .i64 0, .int .i64 0, .int .i64 0, .int .i64 0, .slice none 0 0, .int .i64 0]) (by simp)
  have hb0 : Below w.heap.size w (((w.alloc (.cells #[vb, vf, vl, .int .i64 m.c.hand, .int .i64 m.g.count, .int .i64 m.g.next, .int .i64 m.g.round, vo, .int .i64 m.sp] 34)).alloc (.cells #[.int .i64 s, .int .i64 p] 36)).alloc (.cells #[.slice none 0 0, .slice none 0 0, .slice none 0 0, .int .i64 0, .int .i64 0, .int .i64 0, .int .i64 0, .slice none 0 0, .int .i64 0] 34)) := bA (bA (bA bR))
  have hs0 : (((w.alloc (.cells #[vb, vf, vl, .int .i64 m.c.hand, .int .i64 m.g.count, .int .i64 m.g.next, .int .i64 m.g.round, vo, .int .i64 m.sp] 34)).alloc (.cells #[.int .i64 s, .int .i64 p] 36)).alloc (.cells #[.slice none 0 0, .slice none 0 0, .slice none 0 0, .int .i64 0, .int .i64 0, .int .i64 0, .int .i64 0, .slice none 0 0, .int .i64 0] 34)).heap.size = w.heap.size + 3 := by simp
  generalize hW : ((w.alloc (.cells #[vb, vf, vl, .int .i64 m.c.hand, .int .i64 m.g.count, .int .i64 m.g.next, .int .i64 m.g.round, vo, .int .i64 m.sp] 34)).alloc (.cells #[.int .i64 s, .int .i64 p] 36)).alloc (.cells #[.slice none 0 0, .slice none 0 0, .slice none 0 0, .int .i64 0, .int .i64 0, .int .i64 0, .int .i64 0, .slice none 0 0, .int .i64 0] 34) = W0 at hbx hbk hbo hb0 hs0
  have HX0 := Lib.hid hbx
  have HK0 := Lib.hid hbk
  have HR0 := Lib.hid hbo
  have HB0 := Lib.hid hb0
  have HS0 : Hid (w.heap.size + 3 ≤ W0.heap.size) := Nat.le_of_eq hs0.symm
  clear hbx hbk hbo hb0
  have HM := Lib.hid hM
  have HF := Lib.hid hfree
  have m00 := HX0.out.cell_ 0 (v := vb) rfl
  have m10 := HX0.out.cell_ 1 (v := vf) rfl
  have m20 := HX0.out.cell_ 2 (v := vl) rfl
  have m30 := HX0.out.cell_ 3 (v := .int .i64 m.c.hand) rfl
  have m40 := HX0.out.cell_ 4 (v := .int .i64 m.g.count) rfl
  have m50 := HX0.out.cell_ 5 (v := .int .i64 m.g.next) rfl
  have m60 := HX0.out.cell_ 6 (v := .int .i64 m.g.round) rfl
  have m70 := HX0.out.cell_ 7 (v := vo) rfl
  have m80 := HX0.out.cell_ 8 (v := .int .i64 m.sp) rfl
  have k00 := HK0.out.cell_ 0 (v := .int .i64 s) rfl
  have k10 := HK0.out.cell_ 1 (v := .int .i64 p) rfl
  have HMV := Lib.hid (fun W (h : MaR W vb vf vl vo m) (hf : Free W) => TakePage_any vb vf vl vo m s p W h hf)
  clear hM hfree
  go_enter Tryz.func82, Tryz.ntmps82
  go_wp2_with fail
  refine (HMV.out _ (HM.out.now HB0.out) (HF.out.now HB0.out)).mono ?_
  rintro e w1 ⟨_, rfl, e1, e2, e3, e4, rfl, hM1, hb1⟩
  have HX1 := Lib.hid (HX0.out.below hb1)
  have HK1 := Lib.hid (HK0.out.below hb1)
  have HR1 := Lib.hid (HR0.out.below hb1)
  have HB1 := Lib.hid (bT HB0.out hb1)
  have HS1 := Lib.hid (Nat.le_trans HS0.out hb1.size)
  clear hb1
  have HM1 := Lib.hid (hM1.mono (B' := w.heap.size + 3) (Nat.le_of_eq hs0.symm))
  have r0x := HR1.out.cell_ 0 (v := .slice none 0 0) rfl
  have r1x := HR1.out.cell_ 1 (v := .slice none 0 0) rfl
  have r2x := HR1.out.cell_ 2 (v := .slice none 0 0) rfl
  have r3x := HR1.out.cell_ 3 (v := .int .i64 0) rfl
  have r4x := HR1.out.cell_ 4 (v := .int .i64 0) rfl
  have r5x := HR1.out.cell_ 5 (v := .int .i64 0) rfl
  have r6x := HR1.out.cell_ 6 (v := .int .i64 0) rfl
  have r7x := HR1.out.cell_ 7 (v := .slice none 0 0) rfl
  have r8x := HR1.out.cell_ 8 (v := .int .i64 0) rfl
  have z0x := HR1.out.free 0
  have z1x := HR1.out.free 1
  have z2x := HR1.out.free 2
  have z3x := HR1.out.free 3
  have z4x := HR1.out.free 4
  have z5x := HR1.out.free 5
  have z6x := HR1.out.free 6
  have z7x := HR1.out.free 7
  have z8x := HR1.out.free 8
  obtain ⟨E1, n1, rfl, _⟩ := HM1.out.t.b
  obtain ⟨E2, n2, rfl, _⟩ := HM1.out.t.f
  obtain ⟨E3, n3, rfl, _⟩ := HM1.out.l
  obtain ⟨E4, n4, rfl, _⟩ := HM1.out.o
  clear hM1 m00 m10 m20 m30 m40 m50 m60 m70 m80 k00 k10
  go_wp2
  have o3 := HR1.out.set9 (.slice E1 (takV m s p).t.bs.length n1) (.slice E2 (takV m s p).t.fs.length n2) (.slice E3 (takV m s p).c.ls.length n3) (.int .i64 (takV m s p).c.hand) (.int .i64 (takV m s p).g.count) (.int .i64 (takV m s p).g.next) (.int .i64 (takV m s p).g.round) (.slice E4 (takV m s p).g.os.length n4) (.int .i64 (takV m s p).sp)
  have p0t := o3.cell_ 0 (v := .slice E1 (takV m s p).t.bs.length n1) rfl
  have p1t := o3.cell_ 1 (v := .slice E2 (takV m s p).t.fs.length n2) rfl
  have p2t := o3.cell_ 2 (v := .slice E3 (takV m s p).c.ls.length n3) rfl
  have p3t := o3.cell_ 3 (v := .int .i64 (takV m s p).c.hand) rfl
  have p4t := o3.cell_ 4 (v := .int .i64 (takV m s p).g.count) rfl
  have p5t := o3.cell_ 5 (v := .int .i64 (takV m s p).g.next) rfl
  have p6t := o3.cell_ 6 (v := .int .i64 (takV m s p).g.round) rfl
  have p7t := o3.cell_ 7 (v := .slice E4 (takV m s p).g.os.length n4) rfl
  have p8t := o3.cell_ 8 (v := .int .i64 (takV m s p).sp) rfl
  refine bodyPost_ret (v := .tuple #[.agg #[.slice E1 (takV m s p).t.bs.length n1, .slice E2 (takV m s p).t.fs.length n2, .slice E3 (takV m s p).c.ls.length n3, .int .i64 (takV m s p).c.hand, .int .i64 (takV m s p).g.count, .int .i64 (takV m s p).g.next, .int .i64 (takV m s p).g.round, .slice E4 (takV m s p).g.os.length n4, .int .i64 (takV m s p).sp], .bool (takO m s p)]) (by simp [results, Tryz.results82, go_sem, p0t, p1t, p2t, p3t, p4t, p5t, p6t, p7t, p8t]) rfl ⟨_, rfl, _, _, _, _, by first | rfl | rw [hV, hO], ?_, ?_⟩
  · first | exact (HM1.out.far9 HR1.out _ _ _ _ _ _ _ _ _).mono (by omega) | (rw [hV]; exact (HM1.out.far9 HR1.out _ _ _ _ _ _ _ _ _).mono (by omega))
  · repeat (refine bS ?_ (by simp <;> omega))
    exact HB1.out
set_option maxHeartbeats 2000000 in
theorem TakeRange_any (vb vf vl vo : Value) (m : Ma) (s p c : Int) (w : World) (hM : MaR w vb vf vl vo m) (hfree : Free w) :
    Calls Tryz.prog 32 #[.agg #[vb, vf, vl, .int .i64 m.c.hand, .int .i64 m.g.count, .int .i64 m.g.next, .int .i64 m.g.round, vo, .int .i64 m.sp], .agg #[.int .i64 s, .int .i64 p], .int .i64 c] w (Post2 fun v w' => ∃ v1 v2 v3 v4, v = .tuple #[.agg #[v1, v2, v3, .int .i64 (rgV (fun m' k => takO m' s (p + k)) (fun m' k => takV m' s (p + k)) m c).c.hand, .int .i64 (rgV (fun m' k => takO m' s (p + k)) (fun m' k => takV m' s (p + k)) m c).g.count, .int .i64 (rgV (fun m' k => takO m' s (p + k)) (fun m' k => takV m' s (p + k)) m c).g.next, .int .i64 (rgV (fun m' k => takO m' s (p + k)) (fun m' k => takV m' s (p + k)) m c).g.round, v4, .int .i64 (rgV (fun m' k => takO m' s (p + k)) (fun m' k => takV m' s (p + k)) m c).sp], .bool ((rgO (fun m' k => takO m' s (p + k)) (fun m' k => takV m' s (p + k)) m c).isSome)] ∧ MaM w.heap.size w' v1 v2 v3 v4 (rgV (fun m' k => takO m' s (p + k)) (fun m' k => takV m' s (p + k)) m c) ∧ Below w.heap.size w w') := by
  have hbx := ((Own.new_ w 34 #[vb, vf, vl, .int .i64 m.c.hand, .int .i64 m.g.count, .int .i64 m.g.next, .int .i64 m.g.round, vo, .int .i64 m.sp]).alloc (o := .cells #[.int .i64 s, .int .i64 p] 36)).alloc (o := .cells #[.slice none 0 0, .slice none 0 0, .slice none 0 0, .int .i64 0, .int .i64 0, .int .i64 0, .int .i64 0, .slice none 0 0, .int .i64 0] 34)
  have hbk := (ownAt (W := w.alloc (.cells #[vb, vf, vl, .int .i64 m.c.hand, .int .i64 m.g.count, .int .i64 m.g.next, .int .i64 m.g.round, vo, .int .i64 m.sp] 34)) (g := w.heap.size + 1) (t := 36) (cs := #[.int .i64 s, .int .i64 p]) (by simp)).alloc (o := .cells #[.slice none 0 0, .slice none 0 0, .slice none 0 0, .int .i64 0, .int .i64 0, .int .i64 0, .int .i64 0, .slice none 0 0, .int .i64 0] 34)
  have hbo := ownAt (W := (w.alloc (.cells #[vb, vf, vl, .int .i64 m.c.hand, .int .i64 m.g.count, .int .i64 m.g.next, .int .i64 m.g.round, vo, .int .i64 m.sp] 34)).alloc (.cells #[.int .i64 s, .int .i64 p] 36)) (g := w.heap.size + 1 + 1) (t := 34) (cs := #[.slice none 0 0, .slice none 0 0, .slice none 0 0, .int .i64 0, .int .i64 0, .int .i64 0, .int .i64 0, .slice none 0 0, .int .i64 0]) (by simp)
  have hb0 : Below w.heap.size w (((w.alloc (.cells #[vb, vf, vl, .int .i64 m.c.hand, .int .i64 m.g.count, .int .i64 m.g.next, .int .i64 m.g.round, vo, .int .i64 m.sp] 34)).alloc (.cells #[.int .i64 s, .int .i64 p] 36)).alloc (.cells #[.slice none 0 0, .slice none 0 0, .slice none 0 0, .int .i64 0, .int .i64 0, .int .i64 0, .int .i64 0, .slice none 0 0, .int .i64 0] 34)) := bA (bA (bA bR))
  have hs0 : (((w.alloc (.cells #[vb, vf, vl, .int .i64 m.c.hand, .int .i64 m.g.count, .int .i64 m.g.next, .int .i64 m.g.round, vo, .int .i64 m.sp] 34)).alloc (.cells #[.int .i64 s, .int .i64 p] 36)).alloc (.cells #[.slice none 0 0, .slice none 0 0, .slice none 0 0, .int .i64 0, .int .i64 0, .int .i64 0, .int .i64 0, .slice none 0 0, .int .i64 0] 34)).heap.size = w.heap.size + 3 := by simp
  generalize hW : ((w.alloc (.cells #[vb, vf, vl, .int .i64 m.c.hand, .int .i64 m.g.count, .int .i64 m.g.next, .int .i64 m.g.round, vo, .int .i64 m.sp] 34)).alloc (.cells #[.int .i64 s, .int .i64 p] 36)).alloc (.cells #[.slice none 0 0, .slice none 0 0, .slice none 0 0, .int .i64 0, .int .i64 0, .int .i64 0, .int .i64 0, .slice none 0 0, .int .i64 0] 34) = W0 at hbx hbk hbo hb0 hs0
  have HX0 := Lib.hid hbx
  have HK0 := Lib.hid hbk
  have HR0 := Lib.hid hbo
  have HB0 := Lib.hid hb0
  have HS0 : Hid (w.heap.size + 3 ≤ W0.heap.size) := Nat.le_of_eq hs0.symm
  clear hbx hbk hbo hb0
  have HC := Lib.hid (takeRanged_any vb vf vl vo m s p c (fun m' k => takO m' s (p + k)) (fun m' k => takV m' s (p + k)) W0 (hM.now HB0.out) (hfree.now HB0.out) (fun m' h => takO_kval h) (fun c1 c2 c3 c4 mk k W hk hbw hmk => TakeRange1_any c1 c2 c3 c4 mk k s (p + k) W hmk (hfree.now (bT HB0.out hbw))))
  have m00 := HX0.out.cell_ 0 (v := vb) rfl
  have m10 := HX0.out.cell_ 1 (v := vf) rfl
  have m20 := HX0.out.cell_ 2 (v := vl) rfl
  have m30 := HX0.out.cell_ 3 (v := .int .i64 m.c.hand) rfl
  have m40 := HX0.out.cell_ 4 (v := .int .i64 m.g.count) rfl
  have m50 := HX0.out.cell_ 5 (v := .int .i64 m.g.next) rfl
  have m60 := HX0.out.cell_ 6 (v := .int .i64 m.g.round) rfl
  have m70 := HX0.out.cell_ 7 (v := vo) rfl
  have m80 := HX0.out.cell_ 8 (v := .int .i64 m.sp) rfl
  have k00 := HK0.out.cell_ 0 (v := .int .i64 s) rfl
  have k10 := HK0.out.cell_ 1 (v := .int .i64 p) rfl
  clear hM hfree
  go_enter Tryz.func32, Tryz.ntmps32
  go_wp2_with fail
  refine HC.out.mono ?_
  rintro e w1 ⟨_, rfl, e1, e2, e3, e4, rfl, hM1, hb1⟩
  have HX1 := Lib.hid (HX0.out.below hb1)
  have HK1 := Lib.hid (HK0.out.below hb1)
  have HR1 := Lib.hid (HR0.out.below hb1)
  have HB1 := Lib.hid (bT HB0.out hb1)
  have HS1 := Lib.hid (Nat.le_trans HS0.out hb1.size)
  clear hb1
  have HM1 := Lib.hid (hM1.mono (B' := w.heap.size + 3) (Nat.le_of_eq hs0.symm))
  clear m00 m10 m20 m30 m40 m50 m60 m70 m80 k00 k10 HC
  have r0x := HR1.out.cell_ 0 (v := .slice none 0 0) rfl
  have r1x := HR1.out.cell_ 1 (v := .slice none 0 0) rfl
  have r2x := HR1.out.cell_ 2 (v := .slice none 0 0) rfl
  have r3x := HR1.out.cell_ 3 (v := .int .i64 0) rfl
  have r4x := HR1.out.cell_ 4 (v := .int .i64 0) rfl
  have r5x := HR1.out.cell_ 5 (v := .int .i64 0) rfl
  have r6x := HR1.out.cell_ 6 (v := .int .i64 0) rfl
  have r7x := HR1.out.cell_ 7 (v := .slice none 0 0) rfl
  have r8x := HR1.out.cell_ 8 (v := .int .i64 0) rfl
  have z0x := HR1.out.free 0
  have z1x := HR1.out.free 1
  have z2x := HR1.out.free 2
  have z3x := HR1.out.free 3
  have z4x := HR1.out.free 4
  have z5x := HR1.out.free 5
  have z6x := HR1.out.free 6
  have z7x := HR1.out.free 7
  have z8x := HR1.out.free 8
  generalize hV : rgV (fun m' k => takO m' s (p + k)) (fun m' k => takV m' s (p + k)) m c = V at *
  generalize hO : (rgO (fun m' k => takO m' s (p + k)) (fun m' k => takV m' s (p + k)) m c).isSome = O at *
  obtain ⟨E1, n1, rfl, _⟩ := HM1.out.t.b
  obtain ⟨E2, n2, rfl, _⟩ := HM1.out.t.f
  obtain ⟨E3, n3, rfl, _⟩ := HM1.out.l
  obtain ⟨E4, n4, rfl, _⟩ := HM1.out.o
  clear hM1
  go_wp2
  have o3 := HR1.out.set9 (.slice E1 (V).t.bs.length n1) (.slice E2 (V).t.fs.length n2) (.slice E3 (V).c.ls.length n3) (.int .i64 (V).c.hand) (.int .i64 (V).g.count) (.int .i64 (V).g.next) (.int .i64 (V).g.round) (.slice E4 (V).g.os.length n4) (.int .i64 (V).sp)
  have p0t := o3.cell_ 0 (v := .slice E1 (V).t.bs.length n1) rfl
  have p1t := o3.cell_ 1 (v := .slice E2 (V).t.fs.length n2) rfl
  have p2t := o3.cell_ 2 (v := .slice E3 (V).c.ls.length n3) rfl
  have p3t := o3.cell_ 3 (v := .int .i64 (V).c.hand) rfl
  have p4t := o3.cell_ 4 (v := .int .i64 (V).g.count) rfl
  have p5t := o3.cell_ 5 (v := .int .i64 (V).g.next) rfl
  have p6t := o3.cell_ 6 (v := .int .i64 (V).g.round) rfl
  have p7t := o3.cell_ 7 (v := .slice E4 (V).g.os.length n4) rfl
  have p8t := o3.cell_ 8 (v := .int .i64 (V).sp) rfl
  refine bodyPost_ret (v := .tuple #[.agg #[.slice E1 (V).t.bs.length n1, .slice E2 (V).t.fs.length n2, .slice E3 (V).c.ls.length n3, .int .i64 (V).c.hand, .int .i64 (V).g.count, .int .i64 (V).g.next, .int .i64 (V).g.round, .slice E4 (V).g.os.length n4, .int .i64 (V).sp], .bool (O)]) (by simp [results, Tryz.results32, go_sem, p0t, p1t, p2t, p3t, p4t, p5t, p6t, p7t, p8t]) rfl ⟨_, rfl, _, _, _, _, by first | rfl | rw [hV, hO], ?_, ?_⟩
  · first | exact (HM1.out.far9 HR1.out _ _ _ _ _ _ _ _ _).mono (by omega) | (rw [hV]; exact (HM1.out.far9 HR1.out _ _ _ _ _ _ _ _ _).mono (by omega))
  · repeat (refine bS ?_ (by simp <;> omega))
    exact HB1.out
end Go.Proofs.YtkmocongdkacjaaGreatDoor
namespace Go.Proofs.YtkmocongdkacjaaGreatDoor
open Go.RowKit
set_option maxRecDepth 1000000
set_option maxHeartbeats 4000000 in
theorem sTakePage_any (vb vf vl vo : Value) (m : Ma) (s p  : Int) (w : World) (hM : MaR w vb vf vl vo m) :
    Calls Tryz.prog 84 #[.agg #[vb, vf, vl, .int .i64 m.c.hand, .int .i64 m.g.count, .int .i64 m.g.next, .int .i64 m.g.round, vo, .int .i64 m.sp], .agg #[.int .i64 s, .int .i64 p]] w (Post2 fun v w' => ∃ v1 v2 v3 v4, v = .tuple #[.agg #[v1, v2, v3, .int .i64 (takV m s p).c.hand, .int .i64 (takV m s p).g.count, .int .i64 (takV m s p).g.next, .int .i64 (takV m s p).g.round, v4, .int .i64 (takV m s p).sp], .bool (takO m s p)] ∧ MaM w.heap.size w' v1 v2 v3 v4 (takV m s p) ∧ Below w.heap.size w w') := by
  have hbx := ((Own.new_ w 34 #[vb, vf, vl, .int .i64 m.c.hand, .int .i64 m.g.count, .int .i64 m.g.next, .int .i64 m.g.round, vo, .int .i64 m.sp]).alloc (o := .cells #[.int .i64 s, .int .i64 p] 36)).alloc (o := .cells #[.slice none 0 0, .slice none 0 0, .slice none 0 0, .int .i64 0, .int .i64 0, .int .i64 0, .int .i64 0, .slice none 0 0, .int .i64 0] 34)
  have hbk := (ownAt (W := w.alloc (.cells #[vb, vf, vl, .int .i64 m.c.hand, .int .i64 m.g.count, .int .i64 m.g.next, .int .i64 m.g.round, vo, .int .i64 m.sp] 34)) (g := w.heap.size + 1) (t := 36) (cs := #[.int .i64 s, .int .i64 p]) (by simp)).alloc (o := .cells #[.slice none 0 0, .slice none 0 0, .slice none 0 0, .int .i64 0, .int .i64 0, .int .i64 0, .int .i64 0, .slice none 0 0, .int .i64 0] 34)
  have hbo := ownAt (W := (w.alloc (.cells #[vb, vf, vl, .int .i64 m.c.hand, .int .i64 m.g.count, .int .i64 m.g.next, .int .i64 m.g.round, vo, .int .i64 m.sp] 34)).alloc (.cells #[.int .i64 s, .int .i64 p] 36)) (g := w.heap.size + 1 + 1) (t := 34) (cs := #[.slice none 0 0, .slice none 0 0, .slice none 0 0, .int .i64 0, .int .i64 0, .int .i64 0, .int .i64 0, .slice none 0 0, .int .i64 0]) (by simp)
  have hb0 : Below w.heap.size w (((w.alloc (.cells #[vb, vf, vl, .int .i64 m.c.hand, .int .i64 m.g.count, .int .i64 m.g.next, .int .i64 m.g.round, vo, .int .i64 m.sp] 34)).alloc (.cells #[.int .i64 s, .int .i64 p] 36)).alloc (.cells #[.slice none 0 0, .slice none 0 0, .slice none 0 0, .int .i64 0, .int .i64 0, .int .i64 0, .int .i64 0, .slice none 0 0, .int .i64 0] 34)) := bA (bA (bA bR))
  have hs0 : (((w.alloc (.cells #[vb, vf, vl, .int .i64 m.c.hand, .int .i64 m.g.count, .int .i64 m.g.next, .int .i64 m.g.round, vo, .int .i64 m.sp] 34)).alloc (.cells #[.int .i64 s, .int .i64 p] 36)).alloc (.cells #[.slice none 0 0, .slice none 0 0, .slice none 0 0, .int .i64 0, .int .i64 0, .int .i64 0, .int .i64 0, .slice none 0 0, .int .i64 0] 34)).heap.size = w.heap.size + 3 := by simp
  generalize hW : ((w.alloc (.cells #[vb, vf, vl, .int .i64 m.c.hand, .int .i64 m.g.count, .int .i64 m.g.next, .int .i64 m.g.round, vo, .int .i64 m.sp] 34)).alloc (.cells #[.int .i64 s, .int .i64 p] 36)).alloc (.cells #[.slice none 0 0, .slice none 0 0, .slice none 0 0, .int .i64 0, .int .i64 0, .int .i64 0, .int .i64 0, .slice none 0 0, .int .i64 0] 34) = W0 at hbx hbk hbo hb0 hs0
  have HX0 := Lib.hid hbx
  have HK0 := Lib.hid hbk
  have HR0 := Lib.hid hbo
  have HB0 := Lib.hid hb0
  have HS0 : Hid (w.heap.size + 3 ≤ W0.heap.size) := Nat.le_of_eq hs0.symm
  clear hbx hbk hbo hb0
  have HM := Lib.hid hM
  clear hM
  have m00 := HX0.out.cell_ 0 (v := vb) rfl
  have m10 := HX0.out.cell_ 1 (v := vf) rfl
  have m20 := HX0.out.cell_ 2 (v := vl) rfl
  have m30 := HX0.out.cell_ 3 (v := .int .i64 m.c.hand) rfl
  have m40 := HX0.out.cell_ 4 (v := .int .i64 m.g.count) rfl
  have m50 := HX0.out.cell_ 5 (v := .int .i64 m.g.next) rfl
  have m60 := HX0.out.cell_ 6 (v := .int .i64 m.g.round) rfl
  have m70 := HX0.out.cell_ 7 (v := vo) rfl
  have m80 := HX0.out.cell_ 8 (v := .int .i64 m.sp) rfl
  go_enter Tryz.func84, Tryz.ntmps84
  go_wp2_with fail
  refine (sMachineValid_any vb vf vl vo m _ (HM.out.now HB0.out)).mono ?_
  rintro e w1 ⟨rfl, hb1⟩
  have HX1 := Lib.hid (HX0.out.below hb1)
  have HK1 := Lib.hid (HK0.out.below hb1)
  have HR1 := Lib.hid (HR0.out.below hb1)
  have HB1 := Lib.hid (bT HB0.out hb1)
  have HS1 := Lib.hid (Nat.le_trans HS0.out hb1.size)
  clear hb1
  clear m00 m10 m20 m30 m40 m50 m60 m70 m80
  cases h1 : mav m with
  | false =>
    have HA : Hid (takO m s p = false) := by show _ = _; unfold takO; rw [h1]; rfl
    have HV := Lib.hid (takO_false HA.out)
    have r0x := HR1.out.cell_ 0 (v := .slice none 0 0) rfl
    have r1x := HR1.out.cell_ 1 (v := .slice none 0 0) rfl
    have r2x := HR1.out.cell_ 2 (v := .slice none 0 0) rfl
    have r3x := HR1.out.cell_ 3 (v := .int .i64 0) rfl
    have r4x := HR1.out.cell_ 4 (v := .int .i64 0) rfl
    have r5x := HR1.out.cell_ 5 (v := .int .i64 0) rfl
    have r6x := HR1.out.cell_ 6 (v := .int .i64 0) rfl
    have r7x := HR1.out.cell_ 7 (v := .slice none 0 0) rfl
    have r8x := HR1.out.cell_ 8 (v := .int .i64 0) rfl
    have z0x := HR1.out.free 0
    have z1x := HR1.out.free 1
    have z2x := HR1.out.free 2
    have z3x := HR1.out.free 3
    have z4x := HR1.out.free 4
    have z5x := HR1.out.free 5
    have z6x := HR1.out.free 6
    have z7x := HR1.out.free 7
    have z8x := HR1.out.free 8
    go_wp2
    have o3 := ((((((((HR1.out.set_ 0 (.slice none 0 0)).set_ 1 (.slice none 0 0)).set_ 2 (.slice none 0 0)).set_ 3 (.int .i64 0)).set_ 4 (.int .i64 0)).set_ 5 (.int .i64 0)).set_ 6 (.int .i64 0)).set_ 7 (.slice none 0 0)).set_ 8 (.int .i64 0)
    have t0 := o3.cell_ 0 (v := .slice none 0 0) (by simp)
    have t1 := o3.cell_ 1 (v := .slice none 0 0) (by simp)
    have t2 := o3.cell_ 2 (v := .slice none 0 0) (by simp)
    have t3 := o3.cell_ 3 (v := .int .i64 0) (by simp)
    have t4 := o3.cell_ 4 (v := .int .i64 0) (by simp)
    have t5 := o3.cell_ 5 (v := .int .i64 0) (by simp)
    have t6 := o3.cell_ 6 (v := .int .i64 0) (by simp)
    have t7 := o3.cell_ 7 (v := .slice none 0 0) (by simp)
    have t8 := o3.cell_ 8 (v := .int .i64 0) (by simp)
    refine bodyPost_ret (v := .tuple #[.agg #[.slice none 0 0, .slice none 0 0, .slice none 0 0, .int .i64 0, .int .i64 0, .int .i64 0, .int .i64 0, .slice none 0 0, .int .i64 0], .bool false]) (by simp [results, Tryz.results84, go_sem, t0, t1, t2, t3, t4, t5, t6, t7, t8]) rfl ⟨_, rfl, _, _, _, _, by rw [HA.out, HV.out]; rfl, by rw [HV.out]; exact mam_z, ?_⟩
    repeat (refine bS ?_ (by simp <;> omega))
    exact HB1.out
  | true =>
    have m01 := HX1.out.cell_ 0 (v := vb) rfl
    have m11 := HX1.out.cell_ 1 (v := vf) rfl
    have m21 := HX1.out.cell_ 2 (v := vl) rfl
    have m31 := HX1.out.cell_ 3 (v := .int .i64 m.c.hand) rfl
    have m41 := HX1.out.cell_ 4 (v := .int .i64 m.g.count) rfl
    have m51 := HX1.out.cell_ 5 (v := .int .i64 m.g.next) rfl
    have m61 := HX1.out.cell_ 6 (v := .int .i64 m.g.round) rfl
    have m71 := HX1.out.cell_ 7 (v := vo) rfl
    have m81 := HX1.out.cell_ 8 (v := .int .i64 m.sp) rfl
    have k01 := HK1.out.cell_ 0 (v := .int .i64 s) rfl
    have k11 := HK1.out.cell_ 1 (v := .int .i64 p) rfl
    go_wp2_with fail
    refine (sUnmapPage_any vb vf m.t s p _ (HM.out.t.now HB1.out)).mono ?_
    rintro e w2 ⟨_, rfl, v1, v2, rfl, hT2, hb2⟩
    obtain ⟨A1, c1, rfl, _⟩ := hT2.b
    obtain ⟨A2, c2, rfl, _⟩ := hT2.f
    have hs1 := HS1.out
    have HX2 := Lib.hid (HX1.out.below hb2)
    have HK2 := Lib.hid (HK1.out.below hb2)
    have HR2 := Lib.hid (HR1.out.below hb2)
    have HB2 := Lib.hid (bT HB1.out hb2)
    have HS2 := Lib.hid (Nat.le_trans HS1.out hb2.size)
    clear hb2
    clear m01 m11 m21 m31 m41 m51 m61 m71 m81
    clear k01 k11
    have ho5 := Own.new_ w2 26 #[.slice A1 (unmV m.t s p).bs.length c1, .slice A2 (unmV m.t s p).fs.length c2]
    have hb5 : Below w2.heap.size w2 (w2.alloc (.cells #[.slice A1 (unmV m.t s p).bs.length c1, .slice A2 (unmV m.t s p).fs.length c2] 26)) := bA bR
    generalize hW5 : w2.alloc (.cells #[.slice A1 (unmV m.t s p).bs.length c1, .slice A2 (unmV m.t s p).fs.length c2] 26) = w5 at ho5 hb5
    have HT5 := Lib.hid ((hT2.now hb5).mono hs1)
    have HY5 := Lib.hid ho5
    clear hT2 ho5
    have HX5 := Lib.hid (HX2.out.below hb5)
    have HK5 := Lib.hid (HK2.out.below hb5)
    have HR5 := Lib.hid (HR2.out.below hb5)
    have HB5 := Lib.hid (bT HB2.out hb5)
    have HS5 := Lib.hid (Nat.le_trans HS2.out hb5.size)
    clear hb5
    cases h3 : fOK m.t s p with
    | false =>
      have HA : Hid (takO m s p = false) := by show _ = _; unfold takO; rw [h3, Bool.and_false]
      have HV := Lib.hid (takO_false HA.out)
      have r0x := HR5.out.cell_ 0 (v := .slice none 0 0) rfl
      have r1x := HR5.out.cell_ 1 (v := .slice none 0 0) rfl
      have r2x := HR5.out.cell_ 2 (v := .slice none 0 0) rfl
      have r3x := HR5.out.cell_ 3 (v := .int .i64 0) rfl
      have r4x := HR5.out.cell_ 4 (v := .int .i64 0) rfl
      have r5x := HR5.out.cell_ 5 (v := .int .i64 0) rfl
      have r6x := HR5.out.cell_ 6 (v := .int .i64 0) rfl
      have r7x := HR5.out.cell_ 7 (v := .slice none 0 0) rfl
      have r8x := HR5.out.cell_ 8 (v := .int .i64 0) rfl
      have z0x := HR5.out.free 0
      have z1x := HR5.out.free 1
      have z2x := HR5.out.free 2
      have z3x := HR5.out.free 3
      have z4x := HR5.out.free 4
      have z5x := HR5.out.free 5
      have z6x := HR5.out.free 6
      have z7x := HR5.out.free 7
      have z8x := HR5.out.free 8
      go_wp2
      have o3 := ((((((((HR5.out.set_ 0 (.slice none 0 0)).set_ 1 (.slice none 0 0)).set_ 2 (.slice none 0 0)).set_ 3 (.int .i64 0)).set_ 4 (.int .i64 0)).set_ 5 (.int .i64 0)).set_ 6 (.int .i64 0)).set_ 7 (.slice none 0 0)).set_ 8 (.int .i64 0)
      have t0 := o3.cell_ 0 (v := .slice none 0 0) (by simp)
      have t1 := o3.cell_ 1 (v := .slice none 0 0) (by simp)
      have t2 := o3.cell_ 2 (v := .slice none 0 0) (by simp)
      have t3 := o3.cell_ 3 (v := .int .i64 0) (by simp)
      have t4 := o3.cell_ 4 (v := .int .i64 0) (by simp)
      have t5 := o3.cell_ 5 (v := .int .i64 0) (by simp)
      have t6 := o3.cell_ 6 (v := .int .i64 0) (by simp)
      have t7 := o3.cell_ 7 (v := .slice none 0 0) (by simp)
      have t8 := o3.cell_ 8 (v := .int .i64 0) (by simp)
      refine bodyPost_ret (v := .tuple #[.agg #[.slice none 0 0, .slice none 0 0, .slice none 0 0, .int .i64 0, .int .i64 0, .int .i64 0, .int .i64 0, .slice none 0 0, .int .i64 0], .bool false]) (by simp [results, Tryz.results84, go_sem, t0, t1, t2, t3, t4, t5, t6, t7, t8]) rfl ⟨_, rfl, _, _, _, _, by rw [HA.out, HV.out]; rfl, by rw [HV.out]; exact mam_z, ?_⟩
      repeat (refine bS ?_ (by simp <;> omega))
      exact HB5.out
    | true =>
      have HA : Hid (takO m s p = true) := by show _ = _; unfold takO; rw [h1, h3]; rfl
      have HV : Hid (takV m s p = drpM m (unmV m.t s p) s p) := by show _ = _; unfold takV; rw [HA.out]; rfl
      have m05 := HX5.out.cell_ 0 (v := vb) rfl
      have m15 := HX5.out.cell_ 1 (v := vf) rfl
      have m25 := HX5.out.cell_ 2 (v := vl) rfl
      have m35 := HX5.out.cell_ 3 (v := .int .i64 m.c.hand) rfl
      have m45 := HX5.out.cell_ 4 (v := .int .i64 m.g.count) rfl
      have m55 := HX5.out.cell_ 5 (v := .int .i64 m.g.next) rfl
      have m65 := HX5.out.cell_ 6 (v := .int .i64 m.g.round) rfl
      have m75 := HX5.out.cell_ 7 (v := vo) rfl
      have m85 := HX5.out.cell_ 8 (v := .int .i64 m.sp) rfl
      have k05 := HK5.out.cell_ 0 (v := .int .i64 s) rfl
      have k15 := HK5.out.cell_ 1 (v := .int .i64 p) rfl
      have hs5 := HS5.out
      go_wp2_with fail
      refine (l6Forget_any vb vf vl vo m s p _ (HM.out.now HB5.out) h1 (fOK_page h3)).mono ?_
      rintro e w3 ⟨_, rfl, q1, q2, q3, q4, rfl, hM3, hb3⟩
      have HT3 := Lib.hid (HT5.out.now hb3)
      have hy3 := HY5.out.below hb3
      have u0 := hy3.cell_ 0 (v := .slice A1 (unmV m.t s p).bs.length c1) rfl
      have u1 := hy3.cell_ 1 (v := .slice A2 (unmV m.t s p).fs.length c2) rfl
      have hly := hy3.lt
      have HX3 := Lib.hid (HX5.out.below hb3)
      have HK3 := Lib.hid (HK5.out.below hb3)
      have HR3 := Lib.hid (HR5.out.below hb3)
      have HB3 := Lib.hid (bT HB5.out hb3)
      have HS3 := Lib.hid (Nat.le_trans HS5.out hb3.size)
      clear hb3
      clear m05 m15 m25 m35 m45 m55 m65 m75 m85
      clear k05 k15
      have r0x := HR3.out.cell_ 0 (v := .slice none 0 0) rfl
      have r1x := HR3.out.cell_ 1 (v := .slice none 0 0) rfl
      have r2x := HR3.out.cell_ 2 (v := .slice none 0 0) rfl
      have r3x := HR3.out.cell_ 3 (v := .int .i64 0) rfl
      have r4x := HR3.out.cell_ 4 (v := .int .i64 0) rfl
      have r5x := HR3.out.cell_ 5 (v := .int .i64 0) rfl
      have r6x := HR3.out.cell_ 6 (v := .int .i64 0) rfl
      have r7x := HR3.out.cell_ 7 (v := .slice none 0 0) rfl
      have r8x := HR3.out.cell_ 8 (v := .int .i64 0) rfl
      have z0x := HR3.out.free 0
      have z1x := HR3.out.free 1
      have z2x := HR3.out.free 2
      have z3x := HR3.out.free 3
      have z4x := HR3.out.free 4
      have z5x := HR3.out.free 5
      have z6x := HR3.out.free 6
      have z7x := HR3.out.free 7
      have z8x := HR3.out.free 8
      have HM3 := Lib.hid (hM3.mono hs5)
      obtain ⟨B1, d1, rfl, _⟩ := hM3.t.b
      obtain ⟨B2, d2, rfl, _⟩ := hM3.t.f
      obtain ⟨B3, d3, rfl, _⟩ := hM3.l
      obtain ⟨B4, d4, rfl, _⟩ := hM3.o
      clear hM3
      have hl3 := HR3.out.lt
      go_wp2
      have o3 := (HR3.out.set9 (.slice A1 (unmV m.t s p).bs.length c1) (.slice A2 (unmV m.t s p).fs.length c2) (.slice B3 (drpM m m.t s p).c.ls.length d3) (.int .i64 (drpM m m.t s p).c.hand) (.int .i64 (drpM m m.t s p).g.count) (.int .i64 (drpM m m.t s p).g.next) (.int .i64 (drpM m m.t s p).g.round) (.slice B4 (drpM m m.t s p).g.os.length d4) (.int .i64 (drpM m m.t s p).sp)).alloc (o := .cells #[.slice A1 (unmV m.t s p).bs.length c1, .slice A2 (unmV m.t s p).fs.length c2, .slice B3 (drpM m m.t s p).c.ls.length d3, .int .i64 (drpM m m.t s p).c.hand, .int .i64 (drpM m m.t s p).g.count, .int .i64 (drpM m m.t s p).g.next, .int .i64 (drpM m m.t s p).g.round, .slice B4 (drpM m m.t s p).g.os.length d4, .int .i64 (drpM m m.t s p).sp] 34)
      have p0t := o3.cell_ 0 (v := .slice A1 (unmV m.t s p).bs.length c1) rfl
      have p1t := o3.cell_ 1 (v := .slice A2 (unmV m.t s p).fs.length c2) rfl
      have p2t := o3.cell_ 2 (v := .slice B3 (drpM m m.t s p).c.ls.length d3) rfl
      have p3t := o3.cell_ 3 (v := .int .i64 (drpM m m.t s p).c.hand) rfl
      have p4t := o3.cell_ 4 (v := .int .i64 (drpM m m.t s p).g.count) rfl
      have p5t := o3.cell_ 5 (v := .int .i64 (drpM m m.t s p).g.next) rfl
      have p6t := o3.cell_ 6 (v := .int .i64 (drpM m m.t s p).g.round) rfl
      have p7t := o3.cell_ 7 (v := .slice B4 (drpM m m.t s p).g.os.length d4) rfl
      have p8t := o3.cell_ 8 (v := .int .i64 (drpM m m.t s p).sp) rfl
      have hmm : MaM (w.heap.size + 3) w3 (.slice A1 (unmV m.t s p).bs.length c1) (.slice A2 (unmV m.t s p).fs.length c2) (.slice B3 (drpM m m.t s p).c.ls.length d3) (.slice B4 (drpM m m.t s p).g.os.length d4) (drpM m (unmV m.t s p) s p) := ⟨HT3.out, HM3.out.l, HM3.out.o⟩
      refine bodyPost_ret (v := .tuple #[.agg #[.slice A1 (unmV m.t s p).bs.length c1, .slice A2 (unmV m.t s p).fs.length c2, .slice B3 (drpM m m.t s p).c.ls.length d3, .int .i64 (drpM m m.t s p).c.hand, .int .i64 (drpM m m.t s p).g.count, .int .i64 (drpM m m.t s p).g.next, .int .i64 (drpM m m.t s p).g.round, .slice B4 (drpM m m.t s p).g.os.length d4, .int .i64 (drpM m m.t s p).sp], .bool true]) (by simp [results, Tryz.results84, go_sem, p0t, p1t, p2t, p3t, p4t, p5t, p6t, p7t, p8t]) rfl ⟨_, rfl, _, _, _, _, by rw [HA.out, HV.out]; rfl, ?_, ?_⟩
      · rw [HV.out]
        exact ((hmm.far9 HR3.out _ _ _ _ _ _ _ _ _).now (bA bR)).mono (by omega)
      · refine bA ?_
        repeat (refine bS ?_ (by simp <;> omega))
        exact HB3.out
set_option maxHeartbeats 4000000 in
theorem sTakeRange0_any (vb vf vl vo : Value) (m : Ma) (s p c  : Int) (O : Ma → Nat → Bool) (V : Ma → Nat → Ma) (w : World) (hM : MaR w vb vf vl vo m)
    (hkv : ∀ m', O m' 0 = true → kval (s, p) = true) (hp : -9223372036854775808 ≤ p ∧ p ≤ 9223372036854775807)
    (hC : ∀ (c1 c2 c3 c4 : Value) (mk : Ma) (k : Nat) (W : World), k < 16 → MaR W c1 c2 c3 c4 mk →
      Calls Tryz.prog 84 #[.agg #[c1, c2, c3, .int .i64 mk.c.hand, .int .i64 mk.g.count, .int .i64 mk.g.next, .int .i64 mk.g.round, c4, .int .i64 mk.sp], .agg #[.int .i64 s, .int .i64 (p + k)]] W (Post2 fun v w' => ∃ v1 v2 v3 v4, v = .tuple #[.agg #[v1, v2, v3, .int .i64 (V mk k).c.hand, .int .i64 (V mk k).g.count, .int .i64 (V mk k).g.next, .int .i64 (V mk k).g.round, v4, .int .i64 (V mk k).sp], .bool (O mk k)] ∧ MaM W.heap.size w' v1 v2 v3 v4 (V mk k) ∧ Below W.heap.size W w')) :
    Calls Tryz.prog 33 #[.agg #[vb, vf, vl, .int .i64 m.c.hand, .int .i64 m.g.count, .int .i64 m.g.next, .int .i64 m.g.round, vo, .int .i64 m.sp], .agg #[.int .i64 s, .int .i64 p], .int .i64 c] w (Post2 fun v w' => ∃ v1 v2 v3 v4, v = .tuple #[.agg #[v1, v2, v3, .int .i64 (rgV O V m c).c.hand, .int .i64 (rgV O V m c).g.count, .int .i64 (rgV O V m c).g.next, .int .i64 (rgV O V m c).g.round, v4, .int .i64 (rgV O V m c).sp], .bool ((rgO O V m c).isSome)] ∧ MaM w.heap.size w' v1 v2 v3 v4 (rgV O V m c) ∧ Below w.heap.size w w') := by
  have hbx := ((Own.new_ w 34 #[vb, vf, vl, .int .i64 m.c.hand, .int .i64 m.g.count, .int .i64 m.g.next, .int .i64 m.g.round, vo, .int .i64 m.sp]).alloc (o := .cells #[.int .i64 s, .int .i64 p] 36)).alloc (o := .cells #[.slice none 0 0, .slice none 0 0, .slice none 0 0, .int .i64 0, .int .i64 0, .int .i64 0, .int .i64 0, .slice none 0 0, .int .i64 0] 34)
  have hbk := (ownAt (W := w.alloc (.cells #[vb, vf, vl, .int .i64 m.c.hand, .int .i64 m.g.count, .int .i64 m.g.next, .int .i64 m.g.round, vo, .int .i64 m.sp] 34)) (g := w.heap.size + 1) (t := 36) (cs := #[.int .i64 s, .int .i64 p]) (by simp)).alloc (o := .cells #[.slice none 0 0, .slice none 0 0, .slice none 0 0, .int .i64 0, .int .i64 0, .int .i64 0, .int .i64 0, .slice none 0 0, .int .i64 0] 34)
  have hbo := ownAt (W := (w.alloc (.cells #[vb, vf, vl, .int .i64 m.c.hand, .int .i64 m.g.count, .int .i64 m.g.next, .int .i64 m.g.round, vo, .int .i64 m.sp] 34)).alloc (.cells #[.int .i64 s, .int .i64 p] 36)) (g := w.heap.size + 1 + 1) (t := 34) (cs := #[.slice none 0 0, .slice none 0 0, .slice none 0 0, .int .i64 0, .int .i64 0, .int .i64 0, .int .i64 0, .slice none 0 0, .int .i64 0]) (by simp)
  have hb0 : Below w.heap.size w (((w.alloc (.cells #[vb, vf, vl, .int .i64 m.c.hand, .int .i64 m.g.count, .int .i64 m.g.next, .int .i64 m.g.round, vo, .int .i64 m.sp] 34)).alloc (.cells #[.int .i64 s, .int .i64 p] 36)).alloc (.cells #[.slice none 0 0, .slice none 0 0, .slice none 0 0, .int .i64 0, .int .i64 0, .int .i64 0, .int .i64 0, .slice none 0 0, .int .i64 0] 34)) := bA (bA (bA bR))
  have hs0 : (((w.alloc (.cells #[vb, vf, vl, .int .i64 m.c.hand, .int .i64 m.g.count, .int .i64 m.g.next, .int .i64 m.g.round, vo, .int .i64 m.sp] 34)).alloc (.cells #[.int .i64 s, .int .i64 p] 36)).alloc (.cells #[.slice none 0 0, .slice none 0 0, .slice none 0 0, .int .i64 0, .int .i64 0, .int .i64 0, .int .i64 0, .slice none 0 0, .int .i64 0] 34)).heap.size = w.heap.size + 3 := by simp
  generalize hW : ((w.alloc (.cells #[vb, vf, vl, .int .i64 m.c.hand, .int .i64 m.g.count, .int .i64 m.g.next, .int .i64 m.g.round, vo, .int .i64 m.sp] 34)).alloc (.cells #[.int .i64 s, .int .i64 p] 36)).alloc (.cells #[.slice none 0 0, .slice none 0 0, .slice none 0 0, .int .i64 0, .int .i64 0, .int .i64 0, .int .i64 0, .slice none 0 0, .int .i64 0] 34) = W0 at hbx hbk hbo hb0 hs0
  have HX0 := Lib.hid hbx
  have HK0 := Lib.hid hbk
  have HR0 := Lib.hid hbo
  have HB0 := Lib.hid hb0
  have HS0 : Hid (w.heap.size + 3 ≤ W0.heap.size) := Nat.le_of_eq hs0.symm
  clear hbx hbk hbo hb0
  have HM := Lib.hid hM
  clear hM
  have m00 := HX0.out.cell_ 0 (v := vb) rfl
  have m10 := HX0.out.cell_ 1 (v := vf) rfl
  have m20 := HX0.out.cell_ 2 (v := vl) rfl
  have m30 := HX0.out.cell_ 3 (v := .int .i64 m.c.hand) rfl
  have m40 := HX0.out.cell_ 4 (v := .int .i64 m.g.count) rfl
  have m50 := HX0.out.cell_ 5 (v := .int .i64 m.g.next) rfl
  have m60 := HX0.out.cell_ 6 (v := .int .i64 m.g.round) rfl
  have m70 := HX0.out.cell_ 7 (v := vo) rfl
  have m80 := HX0.out.cell_ 8 (v := .int .i64 m.sp) rfl
  go_enter Tryz.func33, Tryz.ntmps33
  go_wp2_with fail
  refine (sMachineValid_any vb vf vl vo m _ (HM.out.now HB0.out)).mono ?_
  rintro e w2 ⟨rfl, hb2⟩
  have HX2 := Lib.hid (HX0.out.below hb2)
  have HK2 := Lib.hid (HK0.out.below hb2)
  have HR2 := Lib.hid (HR0.out.below hb2)
  have HB2 := Lib.hid (bT HB0.out hb2)
  have HS2 := Lib.hid (Nat.le_trans HS0.out hb2.size)
  clear hb2
  clear m00 m10 m20 m30 m40 m50 m60 m70 m80
  cases h1 : mav m with
  | false =>
    have HO : Hid (rgO O V m c = none) := rgO_no (fun h => by rw [h1] at h; cases h.1)
    have HA : Hid ((rgO O V m c).isSome = false) := by show _ = _; rw [HO.out]; rfl
    have HV : Hid (rgV O V m c = maz) := by show _ = _; unfold rgV; rw [HO.out]; rfl
    have r0x := HR2.out.cell_ 0 (v := .slice none 0 0) rfl
    have r1x := HR2.out.cell_ 1 (v := .slice none 0 0) rfl
    have r2x := HR2.out.cell_ 2 (v := .slice none 0 0) rfl
    have r3x := HR2.out.cell_ 3 (v := .int .i64 0) rfl
    have r4x := HR2.out.cell_ 4 (v := .int .i64 0) rfl
    have r5x := HR2.out.cell_ 5 (v := .int .i64 0) rfl
    have r6x := HR2.out.cell_ 6 (v := .int .i64 0) rfl
    have r7x := HR2.out.cell_ 7 (v := .slice none 0 0) rfl
    have r8x := HR2.out.cell_ 8 (v := .int .i64 0) rfl
    have z0x := HR2.out.free 0
    have z1x := HR2.out.free 1
    have z2x := HR2.out.free 2
    have z3x := HR2.out.free 3
    have z4x := HR2.out.free 4
    have z5x := HR2.out.free 5
    have z6x := HR2.out.free 6
    have z7x := HR2.out.free 7
    have z8x := HR2.out.free 8
    go_wp2
    have o3 := ((((((((HR2.out.set_ 0 (.slice none 0 0)).set_ 1 (.slice none 0 0)).set_ 2 (.slice none 0 0)).set_ 3 (.int .i64 0)).set_ 4 (.int .i64 0)).set_ 5 (.int .i64 0)).set_ 6 (.int .i64 0)).set_ 7 (.slice none 0 0)).set_ 8 (.int .i64 0)
    have t0 := o3.cell_ 0 (v := .slice none 0 0) (by simp)
    have t1 := o3.cell_ 1 (v := .slice none 0 0) (by simp)
    have t2 := o3.cell_ 2 (v := .slice none 0 0) (by simp)
    have t3 := o3.cell_ 3 (v := .int .i64 0) (by simp)
    have t4 := o3.cell_ 4 (v := .int .i64 0) (by simp)
    have t5 := o3.cell_ 5 (v := .int .i64 0) (by simp)
    have t6 := o3.cell_ 6 (v := .int .i64 0) (by simp)
    have t7 := o3.cell_ 7 (v := .slice none 0 0) (by simp)
    have t8 := o3.cell_ 8 (v := .int .i64 0) (by simp)
    refine bodyPost_ret (v := .tuple #[.agg #[.slice none 0 0, .slice none 0 0, .slice none 0 0, .int .i64 0, .int .i64 0, .int .i64 0, .int .i64 0, .slice none 0 0, .int .i64 0], .bool false]) (by simp [results, Tryz.results33, go_sem, t0, t1, t2, t3, t4, t5, t6, t7, t8]) rfl ⟨_, rfl, _, _, _, _, by rw [HA.out, HV.out]; rfl, by rw [HV.out]; exact mam_z, ?_⟩
    repeat (refine bS ?_ (by simp <;> omega))
    exact HB2.out
  | true =>
  by_cases h2 : c < 1
  · have HO : Hid (rgO O V m c = none) := rgO_no (fun h => by omega)
    have HA : Hid ((rgO O V m c).isSome = false) := by show _ = _; rw [HO.out]; rfl
    have HV : Hid (rgV O V m c = maz) := by show _ = _; unfold rgV; rw [HO.out]; rfl
    have r0x := HR2.out.cell_ 0 (v := .slice none 0 0) rfl
    have r1x := HR2.out.cell_ 1 (v := .slice none 0 0) rfl
    have r2x := HR2.out.cell_ 2 (v := .slice none 0 0) rfl
    have r3x := HR2.out.cell_ 3 (v := .int .i64 0) rfl
    have r4x := HR2.out.cell_ 4 (v := .int .i64 0) rfl
    have r5x := HR2.out.cell_ 5 (v := .int .i64 0) rfl
    have r6x := HR2.out.cell_ 6 (v := .int .i64 0) rfl
    have r7x := HR2.out.cell_ 7 (v := .slice none 0 0) rfl
    have r8x := HR2.out.cell_ 8 (v := .int .i64 0) rfl
    have z0x := HR2.out.free 0
    have z1x := HR2.out.free 1
    have z2x := HR2.out.free 2
    have z3x := HR2.out.free 3
    have z4x := HR2.out.free 4
    have z5x := HR2.out.free 5
    have z6x := HR2.out.free 6
    have z7x := HR2.out.free 7
    have z8x := HR2.out.free 8
    go_wp2
    have o3 := ((((((((HR2.out.set_ 0 (.slice none 0 0)).set_ 1 (.slice none 0 0)).set_ 2 (.slice none 0 0)).set_ 3 (.int .i64 0)).set_ 4 (.int .i64 0)).set_ 5 (.int .i64 0)).set_ 6 (.int .i64 0)).set_ 7 (.slice none 0 0)).set_ 8 (.int .i64 0)
    have t0 := o3.cell_ 0 (v := .slice none 0 0) (by simp)
    have t1 := o3.cell_ 1 (v := .slice none 0 0) (by simp)
    have t2 := o3.cell_ 2 (v := .slice none 0 0) (by simp)
    have t3 := o3.cell_ 3 (v := .int .i64 0) (by simp)
    have t4 := o3.cell_ 4 (v := .int .i64 0) (by simp)
    have t5 := o3.cell_ 5 (v := .int .i64 0) (by simp)
    have t6 := o3.cell_ 6 (v := .int .i64 0) (by simp)
    have t7 := o3.cell_ 7 (v := .slice none 0 0) (by simp)
    have t8 := o3.cell_ 8 (v := .int .i64 0) (by simp)
    refine bodyPost_ret (v := .tuple #[.agg #[.slice none 0 0, .slice none 0 0, .slice none 0 0, .int .i64 0, .int .i64 0, .int .i64 0, .int .i64 0, .slice none 0 0, .int .i64 0], .bool false]) (by simp [results, Tryz.results33, go_sem, t0, t1, t2, t3, t4, t5, t6, t7, t8]) rfl ⟨_, rfl, _, _, _, _, by rw [HA.out, HV.out]; rfl, by rw [HV.out]; exact mam_z, ?_⟩
    repeat (refine bS ?_ (by simp <;> omega))
    exact HB2.out
  by_cases h3 : 16 < c
  · have HO : Hid (rgO O V m c = none) := rgO_no (fun h => by omega)
    have HA : Hid ((rgO O V m c).isSome = false) := by show _ = _; rw [HO.out]; rfl
    have HV : Hid (rgV O V m c = maz) := by show _ = _; unfold rgV; rw [HO.out]; rfl
    have r0x := HR2.out.cell_ 0 (v := .slice none 0 0) rfl
    have r1x := HR2.out.cell_ 1 (v := .slice none 0 0) rfl
    have r2x := HR2.out.cell_ 2 (v := .slice none 0 0) rfl
    have r3x := HR2.out.cell_ 3 (v := .int .i64 0) rfl
    have r4x := HR2.out.cell_ 4 (v := .int .i64 0) rfl
    have r5x := HR2.out.cell_ 5 (v := .int .i64 0) rfl
    have r6x := HR2.out.cell_ 6 (v := .int .i64 0) rfl
    have r7x := HR2.out.cell_ 7 (v := .slice none 0 0) rfl
    have r8x := HR2.out.cell_ 8 (v := .int .i64 0) rfl
    have z0x := HR2.out.free 0
    have z1x := HR2.out.free 1
    have z2x := HR2.out.free 2
    have z3x := HR2.out.free 3
    have z4x := HR2.out.free 4
    have z5x := HR2.out.free 5
    have z6x := HR2.out.free 6
    have z7x := HR2.out.free 7
    have z8x := HR2.out.free 8
    go_wp2
    have o3 := ((((((((HR2.out.set_ 0 (.slice none 0 0)).set_ 1 (.slice none 0 0)).set_ 2 (.slice none 0 0)).set_ 3 (.int .i64 0)).set_ 4 (.int .i64 0)).set_ 5 (.int .i64 0)).set_ 6 (.int .i64 0)).set_ 7 (.slice none 0 0)).set_ 8 (.int .i64 0)
    have t0 := o3.cell_ 0 (v := .slice none 0 0) (by simp)
    have t1 := o3.cell_ 1 (v := .slice none 0 0) (by simp)
    have t2 := o3.cell_ 2 (v := .slice none 0 0) (by simp)
    have t3 := o3.cell_ 3 (v := .int .i64 0) (by simp)
    have t4 := o3.cell_ 4 (v := .int .i64 0) (by simp)
    have t5 := o3.cell_ 5 (v := .int .i64 0) (by simp)
    have t6 := o3.cell_ 6 (v := .int .i64 0) (by simp)
    have t7 := o3.cell_ 7 (v := .slice none 0 0) (by simp)
    have t8 := o3.cell_ 8 (v := .int .i64 0) (by simp)
    refine bodyPost_ret (v := .tuple #[.agg #[.slice none 0 0, .slice none 0 0, .slice none 0 0, .int .i64 0, .int .i64 0, .int .i64 0, .int .i64 0, .slice none 0 0, .int .i64 0], .bool false]) (by simp [results, Tryz.results33, go_sem, t0, t1, t2, t3, t4, t5, t6, t7, t8]) rfl ⟨_, rfl, _, _, _, _, by rw [HA.out, HV.out]; rfl, by rw [HV.out]; exact mam_z, ?_⟩
    repeat (refine bS ?_ (by simp <;> omega))
    exact HB2.out
  obtain ⟨n, rfl⟩ := Int.eq_ofNat_of_zero_le (show 0 ≤ c by omega)
  have hi1 : 1 ≤ n := by omega
  have hi2 : n ≤ 16 := by omega
  obtain ⟨a1, a2, a3, a4⟩ := mav_len h1
  have m02 := HX2.out.cell_ 0 (v := vb) rfl
  have m12 := HX2.out.cell_ 1 (v := vf) rfl
  have m22 := HX2.out.cell_ 2 (v := vl) rfl
  have m32 := HX2.out.cell_ 3 (v := .int .i64 m.c.hand) rfl
  have m42 := HX2.out.cell_ 4 (v := .int .i64 m.g.count) rfl
  have m52 := HX2.out.cell_ 5 (v := .int .i64 m.g.next) rfl
  have m62 := HX2.out.cell_ 6 (v := .int .i64 m.g.round) rfl
  have m72 := HX2.out.cell_ 7 (v := vo) rfl
  have m82 := HX2.out.cell_ 8 (v := .int .i64 m.sp) rfl
  go_wp2_with fail
  refine (l6Copy_any vb vf vl vo m _ (HM.out.now HB2.out) a1 a2 a3 a4).mono ?_
  rintro e w3 ⟨_, rfl, q1, q2, q3, q4, rfl, hM3, hb3⟩
  have hs2 := HS2.out
  have hM3' := hM3.mono hs2
  obtain ⟨B1, d1, rfl, _⟩ := hM3.t.b
  obtain ⟨B2, d2, rfl, _⟩ := hM3.t.f
  obtain ⟨B3, d3, rfl, _⟩ := hM3.l
  obtain ⟨B4, d4, rfl, _⟩ := hM3.o
  have HX3 := Lib.hid (HX2.out.below hb3)
  have HK3 := Lib.hid (HK2.out.below hb3)
  have HR3 := Lib.hid (HR2.out.below hb3)
  have HB3 := Lib.hid (bT HB2.out hb3)
  have HS3 := Lib.hid (Nat.le_trans HS2.out hb3.size)
  clear hb3
  clear m02 m12 m22 m32 m42 m52 m62 m72 m82
  clear hM3
  have HO2 := Lib.hid (Own.new_ w3 34 #[.slice B1 m.t.bs.length d1, .slice B2 m.t.fs.length d2, .slice B3 m.c.ls.length d3, .int .i64 m.c.hand, .int .i64 m.g.count, .int .i64 m.g.next, .int .i64 m.g.round, .slice B4 m.g.os.length d4, .int .i64 m.sp])
  have HK4 := Lib.hid (HK3.out.alloc (o := .cells #[.slice B1 m.t.bs.length d1, .slice B2 m.t.fs.length d2, .slice B3 m.c.ls.length d3, .int .i64 m.c.hand, .int .i64 m.g.count, .int .i64 m.g.next, .int .i64 m.g.round, .slice B4 m.g.os.length d4, .int .i64 m.sp] 34))
  have HR4 := Lib.hid (HR3.out.alloc (o := .cells #[.slice B1 m.t.bs.length d1, .slice B2 m.t.fs.length d2, .slice B3 m.c.ls.length d3, .int .i64 m.c.hand, .int .i64 m.g.count, .int .i64 m.g.next, .int .i64 m.g.round, .slice B4 m.g.os.length d4, .int .i64 m.sp] 34))
  have HM4 := Lib.hid (hM3'.now (bA (bR (w := w3)) (o := .cells #[.slice B1 m.t.bs.length d1, .slice B2 m.t.fs.length d2, .slice B3 m.c.ls.length d3, .int .i64 m.c.hand, .int .i64 m.g.count, .int .i64 m.g.next, .int .i64 m.g.round, .slice B4 m.g.os.length d4, .int .i64 m.sp] 34)))
  have HB4 := Lib.hid (bA HB3.out (o := .cells #[.slice B1 m.t.bs.length d1, .slice B2 m.t.fs.length d2, .slice B3 m.c.ls.length d3, .int .i64 m.c.hand, .int .i64 m.g.count, .int .i64 m.g.next, .int .i64 m.g.round, .slice B4 m.g.os.length d4, .int .i64 m.sp] 34))
  have hgb := HR3.out.lt
  have hs3 := HS3.out
  clear hM3'
  go_wp2
  go_loopw [9] (fun u wr => ∃ (k : Nat) (mk : Ma) (c1 c2 c3 c4 : Value), k ≤ n ∧ u = .int .i64 k ∧ Hid (rgN O V m k = some mk) ∧ Own wr w3.heap.size 34 #[c1, c2, c3, .int .i64 mk.c.hand, .int .i64 mk.g.count, .int .i64 mk.g.next, .int .i64 mk.g.round, c4, .int .i64 mk.sp] ∧ MaM (w.heap.size + 3) wr c1 c2 c3 c4 mk ∧ Hid (0 < k → kval (s, p) = true) ∧ Own wr (w.heap.size + 1) 36 #[.int .i64 s, .int .i64 p] ∧ Own wr (w.heap.size + 1 + 1) 34 #[.slice none 0 0, .slice none 0 0, .slice none 0 0, .int .i64 0, .int .i64 0, .int .i64 0, .int .i64 0, .slice none 0 0, .int .i64 0] ∧ Below w.heap.size w wr) (fun u _ => n - (intOf u).toNat)
  case atStart => exact ⟨0, m, _, _, _, _, by omega, rfl, rfl, HO2.out, HM4.out, (fun h => absurd h (by omega)), HK4.out, HR4.out, HB4.out⟩
  case round =>
    obtain ⟨k, mk, c1, c2, c3, c4, hk, rfl, hput, hob, hmk, hkk, hkb, hrb, hbw⟩ := hrel
    have HOB := Lib.hid hob
    have HMK := Lib.hid hmk
    have HKB := Lib.hid hkb
    have HRB := Lib.hid hrb
    have HBW := Lib.hid hbw
    clear hob hmk hkb hrb hbw
    by_cases hlt : k < n
    · have hwk : IntKind.i64.wrap (p + (k : Int)) = p + k := by
        rcases Nat.eq_zero_or_pos k with h0 | h0
        · subst h0
          exact IntWalk.i64_in _ (by omega)
        · have := kval_iff.1 (hkk.out h0)
          exact IntWalk.i64_in _ (by omega)
      have HC := Lib.hid (fun W (h : MaR W c1 c2 c3 c4 mk) => hC c1 c2 c3 c4 mk k W (by omega) h)
      have p0y := HOB.out.cell_ 0 (v := c1) rfl
      have p1y := HOB.out.cell_ 1 (v := c2) rfl
      have p2y := HOB.out.cell_ 2 (v := c3) rfl
      have p3y := HOB.out.cell_ 3 (v := .int .i64 mk.c.hand) rfl
      have p4y := HOB.out.cell_ 4 (v := .int .i64 mk.g.count) rfl
      have p5y := HOB.out.cell_ 5 (v := .int .i64 mk.g.next) rfl
      have p6y := HOB.out.cell_ 6 (v := .int .i64 mk.g.round) rfl
      have p7y := HOB.out.cell_ 7 (v := c4) rfl
      have p8y := HOB.out.cell_ 8 (v := .int .i64 mk.sp) rfl
      have q0 := HKB.out.cell_ 0 (v := .int .i64 s) rfl
      have q1 := HKB.out.cell_ 1 (v := .int .i64 p) rfl
      have hgl0 := HOB.out.lt
      have hgl1 := HKB.out.lt
      go_wp2_with fail
      refine (HC.out _ HMK.out.r).mono ?_
      rintro e w5 ⟨_, rfl, e1, e2, e3, e4, rfl, hM5, hb5⟩
      have hsw : w.heap.size + 3 ≤ wr.heap.size := Nat.le_trans hs3 (Nat.le_of_lt HOB.out.lt)
      have HM5 := Lib.hid (hM5.mono hsw)
      obtain ⟨E1, n1, rfl, _⟩ := HM5.out.t.b
      obtain ⟨E2, n2, rfl, _⟩ := HM5.out.t.f
      obtain ⟨E3, n3, rfl, _⟩ := HM5.out.l
      obtain ⟨E4, n4, rfl, _⟩ := HM5.out.o
      have HOB5 := HOB.out.below hb5
      have hgl5 := HOB5.lt
      have hO6 := HOB5.alloc (o := .cells #[.slice E1 (V mk k).t.bs.length n1, .slice E2 (V mk k).t.fs.length n2, .slice E3 (V mk k).c.ls.length n3, .int .i64 (V mk k).c.hand, .int .i64 (V mk k).g.count, .int .i64 (V mk k).g.next, .int .i64 (V mk k).g.round, .slice E4 (V mk k).g.os.length n4, .int .i64 (V mk k).sp] 34)
      have hK6 := (HKB.out.below hb5).alloc (o := .cells #[.slice E1 (V mk k).t.bs.length n1, .slice E2 (V mk k).t.fs.length n2, .slice E3 (V mk k).c.ls.length n3, .int .i64 (V mk k).c.hand, .int .i64 (V mk k).g.count, .int .i64 (V mk k).g.next, .int .i64 (V mk k).g.round, .slice E4 (V mk k).g.os.length n4, .int .i64 (V mk k).sp] 34)
      have hR6 := (HRB.out.below hb5).alloc (o := .cells #[.slice E1 (V mk k).t.bs.length n1, .slice E2 (V mk k).t.fs.length n2, .slice E3 (V mk k).c.ls.length n3, .int .i64 (V mk k).c.hand, .int .i64 (V mk k).g.count, .int .i64 (V mk k).g.next, .int .i64 (V mk k).g.round, .slice E4 (V mk k).g.os.length n4, .int .i64 (V mk k).sp] 34)
      have hN6 := Own.new_ w5 34 #[.slice E1 (V mk k).t.bs.length n1, .slice E2 (V mk k).t.fs.length n2, .slice E3 (V mk k).c.ls.length n3, .int .i64 (V mk k).c.hand, .int .i64 (V mk k).g.count, .int .i64 (V mk k).g.next, .int .i64 (V mk k).g.round, .slice E4 (V mk k).g.os.length n4, .int .i64 (V mk k).sp]
      have hM6 := HM5.out.now (bA (bR (w := w5)) (o := .cells #[.slice E1 (V mk k).t.bs.length n1, .slice E2 (V mk k).t.fs.length n2, .slice E3 (V mk k).c.ls.length n3, .int .i64 (V mk k).c.hand, .int .i64 (V mk k).g.count, .int .i64 (V mk k).g.next, .int .i64 (V mk k).g.round, .slice E4 (V mk k).g.os.length n4, .int .i64 (V mk k).sp] 34))
      have hB6 := bA (bT HBW.out hb5) (o := .cells #[.slice E1 (V mk k).t.bs.length n1, .slice E2 (V mk k).t.fs.length n2, .slice E3 (V mk k).c.ls.length n3, .int .i64 (V mk k).c.hand, .int .i64 (V mk k).g.count, .int .i64 (V mk k).g.next, .int .i64 (V mk k).g.round, .slice E4 (V mk k).g.os.length n4, .int .i64 (V mk k).sp] 34)
      clear p0y p1y p2y p3y p4y p5y p6y p7y p8y q0 q1 hM5 hb5 HOB5
      have hne1 : w3.heap.size ≠ w5.heap.size := by omega
      generalize hW6 : w5.alloc (.cells #[.slice E1 (V mk k).t.bs.length n1, .slice E2 (V mk k).t.fs.length n2, .slice E3 (V mk k).c.ls.length n3, .int .i64 (V mk k).c.hand, .int .i64 (V mk k).g.count, .int .i64 (V mk k).g.next, .int .i64 (V mk k).g.round, .slice E4 (V mk k).g.os.length n4, .int .i64 (V mk k).sp] 34) = w6 at *
      have HO6 := Lib.hid hO6
      have HK6 := Lib.hid hK6
      have HR6 := Lib.hid hR6
      have HN6 := Lib.hid hN6
      have HM6 := Lib.hid hM6
      have HB6 := Lib.hid hB6
      clear hO6 hK6 hR6 hN6 hM6 hB6
      have hl6 := HO6.out.lt
      have hl7 := HR6.out.lt
      have hl8 := HN6.out.lt
      cases hok : O mk k with
      | false =>
        have HO : Hid (rgO O V m n = none) := by show _ = _; rw [rgO_yes h1 hi1 hi2]; exact rgN_none (rgN_bad hput.out hok) (by omega)
        have HA : Hid ((rgO O V m n).isSome = false) := by show _ = _; rw [HO.out]; rfl
        have HV : Hid (rgV O V m n = maz) := by show _ = _; unfold rgV; rw [HO.out]; rfl
        have r0x := HR6.out.cell_ 0 (v := .slice none 0 0) rfl
        have r1x := HR6.out.cell_ 1 (v := .slice none 0 0) rfl
        have r2x := HR6.out.cell_ 2 (v := .slice none 0 0) rfl
        have r3x := HR6.out.cell_ 3 (v := .int .i64 0) rfl
        have r4x := HR6.out.cell_ 4 (v := .int .i64 0) rfl
        have r5x := HR6.out.cell_ 5 (v := .int .i64 0) rfl
        have r6x := HR6.out.cell_ 6 (v := .int .i64 0) rfl
        have r7x := HR6.out.cell_ 7 (v := .slice none 0 0) rfl
        have r8x := HR6.out.cell_ 8 (v := .int .i64 0) rfl
        have z0x := HR6.out.free 0
        have z1x := HR6.out.free 1
        have z2x := HR6.out.free 2
        have z3x := HR6.out.free 3
        have z4x := HR6.out.free 4
        have z5x := HR6.out.free 5
        have z6x := HR6.out.free 6
        have z7x := HR6.out.free 7
        have z8x := HR6.out.free 8
        go_wp2
        have o3 := ((((((((HR6.out.set_ 0 (.slice none 0 0)).set_ 1 (.slice none 0 0)).set_ 2 (.slice none 0 0)).set_ 3 (.int .i64 0)).set_ 4 (.int .i64 0)).set_ 5 (.int .i64 0)).set_ 6 (.int .i64 0)).set_ 7 (.slice none 0 0)).set_ 8 (.int .i64 0)
        have t0 := o3.cell_ 0 (v := .slice none 0 0) (by simp)
        have t1 := o3.cell_ 1 (v := .slice none 0 0) (by simp)
        have t2 := o3.cell_ 2 (v := .slice none 0 0) (by simp)
        have t3 := o3.cell_ 3 (v := .int .i64 0) (by simp)
        have t4 := o3.cell_ 4 (v := .int .i64 0) (by simp)
        have t5 := o3.cell_ 5 (v := .int .i64 0) (by simp)
        have t6 := o3.cell_ 6 (v := .int .i64 0) (by simp)
        have t7 := o3.cell_ 7 (v := .slice none 0 0) (by simp)
        have t8 := o3.cell_ 8 (v := .int .i64 0) (by simp)
        refine bodyPost_ret (v := .tuple #[.agg #[.slice none 0 0, .slice none 0 0, .slice none 0 0, .int .i64 0, .int .i64 0, .int .i64 0, .int .i64 0, .slice none 0 0, .int .i64 0], .bool false]) (by simp [results, Tryz.results33, go_sem, t0, t1, t2, t3, t4, t5, t6, t7, t8]) rfl ⟨_, rfl, _, _, _, _, by rw [HA.out, HV.out]; rfl, by rw [HV.out]; exact mam_z, ?_⟩
        repeat (refine bS ?_ (by simp <;> omega))
        exact HB6.out
      | true =>
        have HPUT := Lib.hid (rgN_step hput.out hok)
        have p0z := HO6.out.cell_ 0 (v := c1) rfl
        have p1z := HO6.out.cell_ 1 (v := c2) rfl
        have p2z := HO6.out.cell_ 2 (v := c3) rfl
        have p3z := HO6.out.cell_ 3 (v := .int .i64 mk.c.hand) rfl
        have p4z := HO6.out.cell_ 4 (v := .int .i64 mk.g.count) rfl
        have p5z := HO6.out.cell_ 5 (v := .int .i64 mk.g.next) rfl
        have p6z := HO6.out.cell_ 6 (v := .int .i64 mk.g.round) rfl
        have p7z := HO6.out.cell_ 7 (v := c4) rfl
        have p8z := HO6.out.cell_ 8 (v := .int .i64 mk.sp) rfl
        have w0z := HO6.out.free 0
        have w1z := HO6.out.free 1
        have w2z := HO6.out.free 2
        have w3z := HO6.out.free 3
        have w4z := HO6.out.free 4
        have w5z := HO6.out.free 5
        have w6z := HO6.out.free 6
        have w7z := HO6.out.free 7
        have w8z := HO6.out.free 8
        have p0n := HN6.out.cell_ 0 (v := .slice E1 (V mk k).t.bs.length n1) rfl
        have p1n := HN6.out.cell_ 1 (v := .slice E2 (V mk k).t.fs.length n2) rfl
        have p2n := HN6.out.cell_ 2 (v := .slice E3 (V mk k).c.ls.length n3) rfl
        have p3n := HN6.out.cell_ 3 (v := .int .i64 (V mk k).c.hand) rfl
        have p4n := HN6.out.cell_ 4 (v := .int .i64 (V mk k).g.count) rfl
        have p5n := HN6.out.cell_ 5 (v := .int .i64 (V mk k).g.next) rfl
        have p6n := HN6.out.cell_ 6 (v := .int .i64 (V mk k).g.round) rfl
        have p7n := HN6.out.cell_ 7 (v := .slice E4 (V mk k).g.os.length n4) rfl
        have p8n := HN6.out.cell_ 8 (v := .int .i64 (V mk k).sp) rfl
        go_wp2
        go_roundw
        case rel =>
          refine ⟨k + 1, V mk k, _, _, _, _, by omega, by go_num, HPUT, HO6.out.set9 _ _ _ _ _ _ _ _ _, HM6.out.far9 HO6.out _ _ _ _ _ _ _ _ _, (fun _ => (Nat.eq_zero_or_pos k).elim (fun h0 => by subst h0; exact hkv mk hok) (fun h0 => hkk.out h0)), HK6.out.far9 (by omega) _ _ _ _ _ _ _ _ _, HR6.out.far9 (by omega) _ _ _ _ _ _ _ _ _, ?_⟩
          repeat (refine bS ?_ (by simp <;> omega))
          exact HB6.out
        case measure => simp [intOf]; omega
    · obtain rfl : k = n := by omega
      have HO : Hid (rgO O V m k = some mk) := by show _ = _; rw [rgO_yes h1 hi1 hi2]; exact hput.out
      have HA : Hid ((rgO O V m k).isSome = true) := by show _ = _; rw [HO.out]; rfl
      have HV : Hid (rgV O V m k = mk) := by show _ = _; unfold rgV; rw [HO.out]; rfl
      obtain ⟨C1, n1, rfl, _⟩ := HMK.out.t.b
      obtain ⟨C2, n2, rfl, _⟩ := HMK.out.t.f
      obtain ⟨C3, n3, rfl, _⟩ := HMK.out.l
      obtain ⟨C4, n4, rfl, _⟩ := HMK.out.o
      have p0z := HOB.out.cell_ 0 (v := .slice C1 mk.t.bs.length n1) rfl
      have p1z := HOB.out.cell_ 1 (v := .slice C2 mk.t.fs.length n2) rfl
      have p2z := HOB.out.cell_ 2 (v := .slice C3 mk.c.ls.length n3) rfl
      have p3z := HOB.out.cell_ 3 (v := .int .i64 mk.c.hand) rfl
      have p4z := HOB.out.cell_ 4 (v := .int .i64 mk.g.count) rfl
      have p5z := HOB.out.cell_ 5 (v := .int .i64 mk.g.next) rfl
      have p6z := HOB.out.cell_ 6 (v := .int .i64 mk.g.round) rfl
      have p7z := HOB.out.cell_ 7 (v := .slice C4 mk.g.os.length n4) rfl
      have p8z := HOB.out.cell_ 8 (v := .int .i64 mk.sp) rfl
      have r0x := HRB.out.cell_ 0 (v := .slice none 0 0) rfl
      have r1x := HRB.out.cell_ 1 (v := .slice none 0 0) rfl
      have r2x := HRB.out.cell_ 2 (v := .slice none 0 0) rfl
      have r3x := HRB.out.cell_ 3 (v := .int .i64 0) rfl
      have r4x := HRB.out.cell_ 4 (v := .int .i64 0) rfl
      have r5x := HRB.out.cell_ 5 (v := .int .i64 0) rfl
      have r6x := HRB.out.cell_ 6 (v := .int .i64 0) rfl
      have r7x := HRB.out.cell_ 7 (v := .slice none 0 0) rfl
      have r8x := HRB.out.cell_ 8 (v := .int .i64 0) rfl
      have z0x := HRB.out.free 0
      have z1x := HRB.out.free 1
      have z2x := HRB.out.free 2
      have z3x := HRB.out.free 3
      have z4x := HRB.out.free 4
      have z5x := HRB.out.free 5
      have z6x := HRB.out.free 6
      have z7x := HRB.out.free 7
      have z8x := HRB.out.free 8
      have hgl := HOB.out.lt
      have hrl := HRB.out.lt
      go_wp2
      have o3 := HRB.out.set9 (.slice C1 mk.t.bs.length n1) (.slice C2 mk.t.fs.length n2) (.slice C3 mk.c.ls.length n3) (.int .i64 mk.c.hand) (.int .i64 mk.g.count) (.int .i64 mk.g.next) (.int .i64 mk.g.round) (.slice C4 mk.g.os.length n4) (.int .i64 mk.sp)
      have p0t := o3.cell_ 0 (v := .slice C1 mk.t.bs.length n1) rfl
      have p1t := o3.cell_ 1 (v := .slice C2 mk.t.fs.length n2) rfl
      have p2t := o3.cell_ 2 (v := .slice C3 mk.c.ls.length n3) rfl
      have p3t := o3.cell_ 3 (v := .int .i64 mk.c.hand) rfl
      have p4t := o3.cell_ 4 (v := .int .i64 mk.g.count) rfl
      have p5t := o3.cell_ 5 (v := .int .i64 mk.g.next) rfl
      have p6t := o3.cell_ 6 (v := .int .i64 mk.g.round) rfl
      have p7t := o3.cell_ 7 (v := .slice C4 mk.g.os.length n4) rfl
      have p8t := o3.cell_ 8 (v := .int .i64 mk.sp) rfl
      refine bodyPost_ret (v := .tuple #[.agg #[.slice C1 mk.t.bs.length n1, .slice C2 mk.t.fs.length n2, .slice C3 mk.c.ls.length n3, .int .i64 mk.c.hand, .int .i64 mk.g.count, .int .i64 mk.g.next, .int .i64 mk.g.round, .slice C4 mk.g.os.length n4, .int .i64 mk.sp], .bool true]) (by simp [results, Tryz.results33, go_sem, p0t, p1t, p2t, p3t, p4t, p5t, p6t, p7t, p8t]) rfl ⟨_, rfl, _, _, _, _, by rw [HA.out, HV.out], ?_, ?_⟩
      · rw [HV.out]
        exact (HMK.out.far9 HRB.out _ _ _ _ _ _ _ _ _).mono (by omega)
      · repeat (refine bS ?_ (by simp <;> omega))
        exact HBW.out
theorem sTakeRange_any (vb vf vl vo : Value) (m : Ma) (s p c : Int) (w : World) (hM : MaR w vb vf vl vo m) (hp : -9223372036854775808 ≤ p ∧ p ≤ 9223372036854775807) :
    Calls Tryz.prog 33 #[.agg #[vb, vf, vl, .int .i64 m.c.hand, .int .i64 m.g.count, .int .i64 m.g.next, .int .i64 m.g.round, vo, .int .i64 m.sp], .agg #[.int .i64 s, .int .i64 p], .int .i64 c] w (Post2 fun v w' => ∃ v1 v2 v3 v4, v = .tuple #[.agg #[v1, v2, v3, .int .i64 (rgV (fun m' k => takO m' s (p + k)) (fun m' k => takV m' s (p + k)) m c).c.hand, .int .i64 (rgV (fun m' k => takO m' s (p + k)) (fun m' k => takV m' s (p + k)) m c).g.count, .int .i64 (rgV (fun m' k => takO m' s (p + k)) (fun m' k => takV m' s (p + k)) m c).g.next, .int .i64 (rgV (fun m' k => takO m' s (p + k)) (fun m' k => takV m' s (p + k)) m c).g.round, v4, .int .i64 (rgV (fun m' k => takO m' s (p + k)) (fun m' k => takV m' s (p + k)) m c).sp], .bool ((rgO (fun m' k => takO m' s (p + k)) (fun m' k => takV m' s (p + k)) m c).isSome)] ∧ MaM w.heap.size w' v1 v2 v3 v4 (rgV (fun m' k => takO m' s (p + k)) (fun m' k => takV m' s (p + k)) m c) ∧ Below w.heap.size w w') :=
  sTakeRange0_any vb vf vl vo m s p c (fun m' k => takO m' s (p + k)) (fun m' k => takV m' s (p + k)) w hM (fun m' h => takO_kval h) hp (fun c1 c2 c3 c4 mk k W _ h => sTakePage_any c1 c2 c3 c4 mk s (p + k) W h)
end Go.Proofs.YtkmocongdkacjaaGreatDoor
