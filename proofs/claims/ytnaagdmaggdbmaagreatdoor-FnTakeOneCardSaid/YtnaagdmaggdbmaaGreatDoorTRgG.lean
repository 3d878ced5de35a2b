/- A part of the proofs of this seat: RgG, Gr1, TkI. -/
import Derived.Test.YtnaagdmaggdbmaaGreatDoorTMa
import Derived.Test.YtnaagdmaggdbmaaGreatDoorTCp6
import Derived.Test.YtnaagdmaggdbmaaGreatDoorTPrI
import Derived.Test.YtnaagdmaggdbmaaGreatDoorTUnmI
set_option linter.unusedVariables false
set_option linter.unusedSimpArgs false
namespace Go.Proofs.YtnaagdmaggdbmaaGreatDoor
open Go.RowKit
set_option maxRecDepth 1000000
set_option maxHeartbeats 4000000 in
theorem takeRanged_any (vb vf vl vo : Value) (m : Ma) (s p c : Int)  (O : Ma → Nat → Bool) (V : Ma → Nat → Ma) (w : World) (hM : MaR w vb vf vl vo m) (hfree : Free w)
    (hkv : ∀ m', O m' 0 = true → kval (s, p) = true)
    (hC : ∀ (c1 c2 c3 c4 : Value) (mk : Ma) (k : Nat) (W : World), k < 16 → Below w.heap.size w W → MaR W c1 c2 c3 c4 mk →
      Calls Tryz.prog 70 #[.agg #[c1, c2, c3, .int .i64 mk.c.hand, .int .i64 mk.g.count, .int .i64 mk.g.next, .int .i64 mk.g.round, c4, .int .i64 mk.sp], .int .i64 k, .agg #[.int .i64 s, .int .i64 (p + k)]] W (Post2 fun v w' => ∃ v1 v2 v3 v4, v = .tuple #[.agg #[v1, v2, v3, .int .i64 (V mk k).c.hand, .int .i64 (V mk k).g.count, .int .i64 (V mk k).g.next, .int .i64 (V mk k).g.round, v4, .int .i64 (V mk k).sp], .bool (O mk k)] ∧ MaM W.heap.size w' v1 v2 v3 v4 (V mk k) ∧ Below W.heap.size W w')) :
    Calls Tryz.prog 50 #[.agg #[vb, vf, vl, .int .i64 m.c.hand, .int .i64 m.g.count, .int .i64 m.g.next, .int .i64 m.g.round, vo, .int .i64 m.sp], .agg #[.int .i64 s, .int .i64 p], .int .i64 c, .func (.func 70) #[] #[]] w (Post2 fun v w' => ∃ v1 v2 v3 v4, v = .tuple #[.agg #[v1, v2, v3, .int .i64 (rgV O V m c).c.hand, .int .i64 (rgV O V m c).g.count, .int .i64 (rgV O V m c).g.next, .int .i64 (rgV O V m c).g.round, v4, .int .i64 (rgV O V m c).sp], .bool ((rgO O V m c).isSome)] ∧ MaM w.heap.size w' v1 v2 v3 v4 (rgV O V m c) ∧ Below w.heap.size w w') := by
  obtain ⟨W0, hW, hbx, hbk, hbo, hb0, hs0⟩ := box3 w #[vb, vf, vl, .int .i64 m.c.hand, .int .i64 m.g.count, .int .i64 m.g.next, .int .i64 m.g.round, vo, .int .i64 m.sp] 34 #[.int .i64 s, .int .i64 p] 36 #[.slice none 0 0, .slice none 0 0, .slice none 0 0, .int .i64 0, .int .i64 0, .int .i64 0, .int .i64 0, .slice none 0 0, .int .i64 0] 34
  have HX0 := Lib.hid hbx
  have HK0 := Lib.hid hbk
  have HR0 := Lib.hid hbo
  have HB0 := Lib.hid hb0
  have HS0 : Hid (w.heap.size + 3 ≤ W0.heap.size) := Nat.le_of_eq hs0.symm
  clear hbx hbk hbo hb0
  have HM := Lib.hid hM
  have HF := Lib.hid hfree
  clear hM hfree
  obtain ⟨m00, m10, m20, m30, m40, m50, m60, m70, m80⟩ := cells9 HX0.out
  go_enter Tryz.func50, Tryz.ntmps50
  go_wp2_with fail
  refine (MachineValid_any vb vf vl vo m _ (HM.out.now HB0.out) (HF.out.now HB0.out)).mono ?_
  rintro e w1 ⟨rfl, hb1⟩
  have HX1 := Lib.hid (HX0.out.below hb1)
  have HK1 := Lib.hid (HK0.out.below hb1)
  have HR1 := Lib.hid (HR0.out.below hb1)
  have HB1 := Lib.hid (bT HB0.out hb1)
  have HS1 := Lib.hid (Nat.le_trans HS0.out hb1.size)
  clear hb1
  clear m00 m10 m20 m30 m40 m50 m60 m70 m80
  cases h1 : mav m with
  | false =>
    have HO : Hid (rgO O V m c = none) := rgO_no (fun h => by rw [h1] at h; cases h.1)
    have HA : Hid ((rgO O V m c).isSome = false) := by show _ = _; rw [HO.out]; rfl
    have HV : Hid (rgV O V m c = maz) := by show _ = _; unfold rgV; rw [HO.out]; rfl
    obtain ⟨r0x, r1x, r2x, r3x, r4x, r5x, r6x, r7x, r8x⟩ := cells9 HR1.out
    obtain ⟨z0x, z1x, z2x, z3x, z4x, z5x, z6x, z7x, z8x⟩ := free9 HR1.out
    go_wp2
    obtain ⟨t0, t1, t2, t3, t4, t5, t6, t7, t8⟩ := cells9 (set9z HR1.out)
    refine bodyPost_ret (v := .tuple #[.agg #[.slice none 0 0, .slice none 0 0, .slice none 0 0, .int .i64 0, .int .i64 0, .int .i64 0, .int .i64 0, .slice none 0 0, .int .i64 0], .bool false]) (by simp [results, Tryz.results50, go_sem, t0, t1, t2, t3, t4, t5, t6, t7, t8]) rfl ⟨_, rfl, _, _, _, _, by rw [HA.out, HV.out]; rfl, by rw [HV.out]; exact mam_z, ?_⟩
    repeat (refine bS ?_ (by simp <;> omega))
    exact HB1.out
  | true =>
  have k01 := HK1.out.cell_ 0 (v := .int .i64 s) rfl
  have k11 := HK1.out.cell_ 1 (v := .int .i64 p) rfl
  go_wp2_with fail
  refine (keyValid_any s p _).mono ?_
  rintro e w2 ⟨rfl, hb2⟩
  have HX2 := Lib.hid (HX1.out.below hb2)
  have HK2 := Lib.hid (HK1.out.below hb2)
  have HR2 := Lib.hid (HR1.out.below hb2)
  have HB2 := Lib.hid (bT HB1.out hb2)
  have HS2 := Lib.hid (Nat.le_trans HS1.out hb2.size)
  clear hb2
  clear k01 k11
  cases h2k : kval (s, p) with
  | false =>
    have HO : Hid (rgO O V m c = none) := by
      show _ = _
      by_cases h : mav m = true ∧ 1 ≤ c ∧ c ≤ 16
      · have h0 : rgN O V m 1 = none := rgN_bad (rfl : rgN O V m 0 = some m) (bool_ff fun hh => by rw [hkv _ hh] at h2k; cases h2k)
        unfold rgO
        rw [if_pos h]
        exact rgN_none h0 (by omega)
      · exact rgO_no h
    have HA : Hid ((rgO O V m c).isSome = false) := by show _ = _; rw [HO.out]; rfl
    have HV : Hid (rgV O V m c = maz) := by show _ = _; unfold rgV; rw [HO.out]; rfl
    obtain ⟨r0x, r1x, r2x, r3x, r4x, r5x, r6x, r7x, r8x⟩ := cells9 HR2.out
    obtain ⟨z0x, z1x, z2x, z3x, z4x, z5x, z6x, z7x, z8x⟩ := free9 HR2.out
    go_wp2
    obtain ⟨t0, t1, t2, t3, t4, t5, t6, t7, t8⟩ := cells9 (set9z HR2.out)
    refine bodyPost_ret (v := .tuple #[.agg #[.slice none 0 0, .slice none 0 0, .slice none 0 0, .int .i64 0, .int .i64 0, .int .i64 0, .int .i64 0, .slice none 0 0, .int .i64 0], .bool false]) (by simp [results, Tryz.results50, go_sem, t0, t1, t2, t3, t4, t5, t6, t7, t8]) rfl ⟨_, rfl, _, _, _, _, by rw [HA.out, HV.out]; rfl, by rw [HV.out]; exact mam_z, ?_⟩
    repeat (refine bS ?_ (by simp <;> omega))
    exact HB2.out
  | true =>
  by_cases h2 : c < 1
  · have HO : Hid (rgO O V m c = none) := rgO_no (fun h => by omega)
    have HA : Hid ((rgO O V m c).isSome = false) := by show _ = _; rw [HO.out]; rfl
    have HV : Hid (rgV O V m c = maz) := by show _ = _; unfold rgV; rw [HO.out]; rfl
    obtain ⟨r0x, r1x, r2x, r3x, r4x, r5x, r6x, r7x, r8x⟩ := cells9 HR2.out
    obtain ⟨z0x, z1x, z2x, z3x, z4x, z5x, z6x, z7x, z8x⟩ := free9 HR2.out
    go_wp2
    obtain ⟨t0, t1, t2, t3, t4, t5, t6, t7, t8⟩ := cells9 (set9z HR2.out)
    refine bodyPost_ret (v := .tuple #[.agg #[.slice none 0 0, .slice none 0 0, .slice none 0 0, .int .i64 0, .int .i64 0, .int .i64 0, .int .i64 0, .slice none 0 0, .int .i64 0], .bool false]) (by simp [results, Tryz.results50, go_sem, t0, t1, t2, t3, t4, t5, t6, t7, t8]) rfl ⟨_, rfl, _, _, _, _, by rw [HA.out, HV.out]; rfl, by rw [HV.out]; exact mam_z, ?_⟩
    repeat (refine bS ?_ (by simp <;> omega))
    exact HB2.out
  by_cases h3 : 16 < c
  · have HO : Hid (rgO O V m c = none) := rgO_no (fun h => by omega)
    have HA : Hid ((rgO O V m c).isSome = false) := by show _ = _; rw [HO.out]; rfl
    have HV : Hid (rgV O V m c = maz) := by show _ = _; unfold rgV; rw [HO.out]; rfl
    obtain ⟨r0x, r1x, r2x, r3x, r4x, r5x, r6x, r7x, r8x⟩ := cells9 HR2.out
    obtain ⟨z0x, z1x, z2x, z3x, z4x, z5x, z6x, z7x, z8x⟩ := free9 HR2.out
    go_wp2
    obtain ⟨t0, t1, t2, t3, t4, t5, t6, t7, t8⟩ := cells9 (set9z HR2.out)
    refine bodyPost_ret (v := .tuple #[.agg #[.slice none 0 0, .slice none 0 0, .slice none 0 0, .int .i64 0, .int .i64 0, .int .i64 0, .int .i64 0, .slice none 0 0, .int .i64 0], .bool false]) (by simp [results, Tryz.results50, go_sem, t0, t1, t2, t3, t4, t5, t6, t7, t8]) rfl ⟨_, rfl, _, _, _, _, by rw [HA.out, HV.out]; rfl, by rw [HV.out]; exact mam_z, ?_⟩
    repeat (refine bS ?_ (by simp <;> omega))
    exact HB2.out
  obtain ⟨n, rfl⟩ := Int.eq_ofNat_of_zero_le (show 0 ≤ c by omega)
  have hi1 : 1 ≤ n := by omega
  have hi2 : n ≤ 16 := by omega
  obtain ⟨B1, d1, rfl, _⟩ := HM.out.t.b
  obtain ⟨B2, d2, rfl, _⟩ := HM.out.t.f
  obtain ⟨B3, d3, rfl, _⟩ := HM.out.l
  obtain ⟨B4, d4, rfl, _⟩ := HM.out.o
  obtain ⟨p0m, p1m, p2m, p3m, p4m, p5m, p6m, p7m, p8m⟩ := cells9 HX2.out
  have hkv' := kval_iff.1 h2k
  have HO2 := Lib.hid (Own.new_ w2 34 #[.slice B1 m.t.bs.length d1, .slice B2 m.t.fs.length d2, .slice B3 m.c.ls.length d3, .int .i64 m.c.hand, .int .i64 m.g.count, .int .i64 m.g.next, .int .i64 m.g.round, .slice B4 m.g.os.length d4, .int .i64 m.sp])
  have HK3 := Lib.hid (HK2.out.alloc (o := .cells #[.slice B1 m.t.bs.length d1, .slice B2 m.t.fs.length d2, .slice B3 m.c.ls.length d3, .int .i64 m.c.hand, .int .i64 m.g.count, .int .i64 m.g.next, .int .i64 m.g.round, .slice B4 m.g.os.length d4, .int .i64 m.sp] 34))
  have HR3 := Lib.hid (HR2.out.alloc (o := .cells #[.slice B1 m.t.bs.length d1, .slice B2 m.t.fs.length d2, .slice B3 m.c.ls.length d3, .int .i64 m.c.hand, .int .i64 m.g.count, .int .i64 m.g.next, .int .i64 m.g.round, .slice B4 m.g.os.length d4, .int .i64 m.sp] 34))
  have HM3 := Lib.hid (HM.out.now (bA HB2.out (o := .cells #[.slice B1 m.t.bs.length d1, .slice B2 m.t.fs.length d2, .slice B3 m.c.ls.length d3, .int .i64 m.c.hand, .int .i64 m.g.count, .int .i64 m.g.next, .int .i64 m.g.round, .slice B4 m.g.os.length d4, .int .i64 m.sp] 34)))
  have HB3 := Lib.hid (bA HB2.out (o := .cells #[.slice B1 m.t.bs.length d1, .slice B2 m.t.fs.length d2, .slice B3 m.c.ls.length d3, .int .i64 m.c.hand, .int .i64 m.g.count, .int .i64 m.g.next, .int .i64 m.g.round, .slice B4 m.g.os.length d4, .int .i64 m.sp] 34))
  have hgb := HR2.out.lt
  have hs2 := HS2.out
  go_wp2
  clear p0m p1m p2m p3m p4m p5m p6m p7m p8m
  go_loopw [33] (fun u wr => ∃ (k : Nat) (mk : Ma) (c1 c2 c3 c4 : Value), k ≤ n ∧ u = .int .i64 k ∧ Hid (rgN O V m k = some mk) ∧ Own wr w2.heap.size 34 #[c1, c2, c3, .int .i64 mk.c.hand, .int .i64 mk.g.count, .int .i64 mk.g.next, .int .i64 mk.g.round, c4, .int .i64 mk.sp] ∧ MaR wr c1 c2 c3 c4 mk ∧ Hid (0 < k → MaM (w.heap.size + 3) wr c1 c2 c3 c4 mk) ∧ Own wr (w.heap.size + 1) 36 #[.int .i64 s, .int .i64 p] ∧ Own wr (w.heap.size + 1 + 1) 34 #[.slice none 0 0, .slice none 0 0, .slice none 0 0, .int .i64 0, .int .i64 0, .int .i64 0, .int .i64 0, .slice none 0 0, .int .i64 0] ∧ Below w.heap.size w wr) (fun u _ => n - (intOf u).toNat)
  case atStart => exact ⟨0, m, _, _, _, _, by omega, rfl, rfl, HO2.out, HM3.out, (fun h => absurd h (by omega)), HK3.out, HR3.out, HB3.out⟩
  case round =>
    obtain ⟨k, mk, c1, c2, c3, c4, hk, rfl, hput, hob, hmk, hmm, hkb, hrb, hbw⟩ := hrel
    have HOB := Lib.hid hob
    have HMK := Lib.hid hmk
    have HKB := Lib.hid hkb
    have HRB := Lib.hid hrb
    have HBW := Lib.hid hbw
    clear hob hmk hkb hrb hbw
    by_cases hlt : k < n
    · have hwk : IntKind.i64.wrap (p + (k : Int)) = p + k := IntWalk.i64_in _ (by omega)
      have HC := Lib.hid (hC c1 c2 c3 c4 mk k wr (by omega) HBW.out HMK.out)
      obtain ⟨p0y, p1y, p2y, p3y, p4y, p5y, p6y, p7y, p8y⟩ := cells9 HOB.out
      have q0 := HKB.out.cell_ 0 (v := .int .i64 s) rfl
      have q1 := HKB.out.cell_ 1 (v := .int .i64 p) rfl
      go_wp2_with fail
      refine HC.out.mono ?_
      rintro e w5 ⟨_, rfl, e1, e2, e3, e4, rfl, hM5, hb5⟩
      have hsw : w.heap.size + 3 ≤ wr.heap.size := Nat.le_trans hs2 (Nat.le_of_lt HOB.out.lt)
      have HM5 := Lib.hid (hM5.mono hsw)
      obtain ⟨E1, n1, rfl, _⟩ := HM5.out.t.b
      obtain ⟨E2, n2, rfl, _⟩ := HM5.out.t.f
      obtain ⟨E3, n3, rfl, _⟩ := HM5.out.l
      obtain ⟨E4, n4, rfl, _⟩ := HM5.out.o
      have HOB5 := HOB.out.below hb5
      have hgl5 := HOB5.lt
      have hO6 := HOB5.alloc (o := .cells #[.slice E1 (V mk k).t.bs.length n1, .slice E2 (V mk k).t.fs.length n2, .slice E3 (V mk k).c.ls.length n3, .int .i64 (V mk k).c.hand, .int .i64 (V mk k).g.count, .int .i64 (V mk k).g.next, .int .i64 (V mk k).g.round, .slice E4 (V mk k).g.os.length n4, .int .i64 (V mk k).sp] 34)
      have hK6 := (HKB.out.below hb5).alloc (o := .cells #[.slice E1 (V mk k).t.bs.length n1, .slice E2 (V mk k).t.fs.length n2, .slice E3 (V mk k).c.ls.length n3, .int .i64 (V mk k).c.hand, .int .i64 (V mk k).g.count, .int .i64 (V mk k).g.next, .int .i64 (V mk k).g.round, .slice E4 (V mk k).g.os.length n4, .int .i64 (V mk k).sp] 34)
      have hR6 := (HRB.out.below hb5).alloc (o := .cells #[.slice E1 (V mk k).t.bs.length n1, .slice E2 (V mk k).t.fs.length n2, .slice E3 (V mk k).c.ls.length n3, .int .i64 (V mk k).c.hand, .int .i64 (V mk k).g.count, .int .i64 (V mk k).g.next, .int .i64 (V mk k).g.round, .slice E4 (V mk k).g.os.length n4, .int .i64 (V mk k).sp] 34)
      have hN6 := Own.new_ w5 34 #[.slice E1 (V mk k).t.bs.length n1, .slice E2 (V mk k).t.fs.length n2, .slice E3 (V mk k).c.ls.length n3, .int .i64 (V mk k).c.hand, .int .i64 (V mk k).g.count, .int .i64 (V mk k).g.next, .int .i64 (V mk k).g.round, .slice E4 (V mk k).g.os.length n4, .int .i64 (V mk k).sp]
      have hM6 := HM5.out.now (bA (bR (w := w5)) (o := .cells #[.slice E1 (V mk k).t.bs.length n1, .slice E2 (V mk k).t.fs.length n2, .slice E3 (V mk k).c.ls.length n3, .int .i64 (V mk k).c.hand, .int .i64 (V mk k).g.count, .int .i64 (V mk k).g.next, .int .i64 (V mk k).g.round, .slice E4 (V mk k).g.os.length n4, .int .i64 (V mk k).sp] 34))
      have hB6 := bA (bT HBW.out hb5) (o := .cells #[.slice E1 (V mk k).t.bs.length n1, .slice E2 (V mk k).t.fs.length n2, .slice E3 (V mk k).c.ls.length n3, .int .i64 (V mk k).c.hand, .int .i64 (V mk k).g.count, .int .i64 (V mk k).g.next, .int .i64 (V mk k).g.round, .slice E4 (V mk k).g.os.length n4, .int .i64 (V mk k).sp] 34)
      clear p0y p1y p2y p3y p4y p5y p6y p7y p8y q0 q1 hM5 hb5 HOB5
      have hne1 : w2.heap.size ≠ w5.heap.size := by omega
      generalize hW6 : w5.alloc (.cells #[.slice E1 (V mk k).t.bs.length n1, .slice E2 (V mk k).t.fs.length n2, .slice E3 (V mk k).c.ls.length n3, .int .i64 (V mk k).c.hand, .int .i64 (V mk k).g.count, .int .i64 (V mk k).g.next, .int .i64 (V mk k).g.round, .slice E4 (V mk k).g.os.length n4, .int .i64 (V mk k).sp] 34) = w6 at *
      have HO6 := Lib.hid hO6
      have HK6 := Lib.hid hK6
      have HR6 := Lib.hid hR6
      have HN6 := Lib.hid hN6
      have HM6 := Lib.hid hM6
      have HB6 := Lib.hid hB6
      clear hO6 hK6 hR6 hN6 hM6 hB6
      have hl6 := HO6.out.lt
      have hl7 := HR6.out.lt
      have hl8 := HN6.out.lt
      cases hok : O mk k with
      | false =>
        have HO : Hid (rgO O V m n = none) := by show _ = _; rw [rgO_yes h1 hi1 hi2]; exact rgN_none (rgN_bad hput.out hok) (by omega)
        have HA : Hid ((rgO O V m n).isSome = false) := by show _ = _; rw [HO.out]; rfl
        have HV : Hid (rgV O V m n = maz) := by show _ = _; unfold rgV; rw [HO.out]; rfl
        obtain ⟨r0x, r1x, r2x, r3x, r4x, r5x, r6x, r7x, r8x⟩ := cells9 HR6.out
        obtain ⟨z0x, z1x, z2x, z3x, z4x, z5x, z6x, z7x, z8x⟩ := free9 HR6.out
        go_wp2
        obtain ⟨t0, t1, t2, t3, t4, t5, t6, t7, t8⟩ := cells9 (set9z HR6.out)
        refine bodyPost_ret (v := .tuple #[.agg #[.slice none 0 0, .slice none 0 0, .slice none 0 0, .int .i64 0, .int .i64 0, .int .i64 0, .int .i64 0, .slice none 0 0, .int .i64 0], .bool false]) (by simp [results, Tryz.results50, go_sem, t0, t1, t2, t3, t4, t5, t6, t7, t8]) rfl ⟨_, rfl, _, _, _, _, by rw [HA.out, HV.out]; rfl, by rw [HV.out]; exact mam_z, ?_⟩
        repeat (refine bS ?_ (by simp <;> omega))
        exact HB6.out
      | true =>
        have HPUT := Lib.hid (rgN_step hput.out hok)
        obtain ⟨p0z, p1z, p2z, p3z, p4z, p5z, p6z, p7z, p8z⟩ := cells9 HO6.out
        obtain ⟨w0z, w1z, w2z, w3z, w4z, w5z, w6z, w7z, w8z⟩ := free9 HO6.out
        obtain ⟨p0n, p1n, p2n, p3n, p4n, p5n, p6n, p7n, p8n⟩ := cells9 HN6.out
        go_wp2
        go_roundw
        case rel =>
          refine ⟨k + 1, V mk k, _, _, _, _, by omega, by go_num, HPUT, HO6.out.set9 _ _ _ _ _ _ _ _ _, (HM6.out.far9 HO6.out _ _ _ _ _ _ _ _ _).r, (fun _ => HM6.out.far9 HO6.out _ _ _ _ _ _ _ _ _), HK6.out.far9 (by omega) _ _ _ _ _ _ _ _ _, HR6.out.far9 (by omega) _ _ _ _ _ _ _ _ _, ?_⟩
          repeat (refine bS ?_ (by simp <;> omega))
          exact HB6.out
        case measure => simp [intOf]; omega
    · obtain rfl : k = n := by omega
      have HO : Hid (rgO O V m k = some mk) := by show _ = _; rw [rgO_yes h1 hi1 hi2]; exact hput.out
      have HA : Hid ((rgO O V m k).isSome = true) := by show _ = _; rw [HO.out]; rfl
      have HV : Hid (rgV O V m k = mk) := by show _ = _; unfold rgV; rw [HO.out]; rfl
      have HMM := Lib.hid (hmm.out (by omega))
      obtain ⟨C1, n1, rfl, _⟩ := HMM.out.t.b
      obtain ⟨C2, n2, rfl, _⟩ := HMM.out.t.f
      obtain ⟨C3, n3, rfl, _⟩ := HMM.out.l
      obtain ⟨C4, n4, rfl, _⟩ := HMM.out.o
      obtain ⟨p0z, p1z, p2z, p3z, p4z, p5z, p6z, p7z, p8z⟩ := cells9 HOB.out
      obtain ⟨r0x, r1x, r2x, r3x, r4x, r5x, r6x, r7x, r8x⟩ := cells9 HRB.out
      obtain ⟨z0x, z1x, z2x, z3x, z4x, z5x, z6x, z7x, z8x⟩ := free9 HRB.out
      have hgl := HOB.out.lt
      have hrl := HRB.out.lt
      go_wp2
      have o3 := HRB.out.set9 (.slice C1 mk.t.bs.length n1) (.slice C2 mk.t.fs.length n2) (.slice C3 mk.c.ls.length n3) (.int .i64 mk.c.hand) (.int .i64 mk.g.count) (.int .i64 mk.g.next) (.int .i64 mk.g.round) (.slice C4 mk.g.os.length n4) (.int .i64 mk.sp)
      obtain ⟨p0t, p1t, p2t, p3t, p4t, p5t, p6t, p7t, p8t⟩ := cells9 o3
      refine bodyPost_ret (v := .tuple #[.agg #[.slice C1 mk.t.bs.length n1, .slice C2 mk.t.fs.length n2, .slice C3 mk.c.ls.length n3, .int .i64 mk.c.hand, .int .i64 mk.g.count, .int .i64 mk.g.next, .int .i64 mk.g.round, .slice C4 mk.g.os.length n4, .int .i64 mk.sp], .bool true]) (by simp [results, Tryz.results50, go_sem, p0t, p1t, p2t, p3t, p4t, p5t, p6t, p7t, p8t]) rfl ⟨_, rfl, _, _, _, _, by rw [HA.out, HV.out], ?_, ?_⟩
      · rw [HV.out]
        exact (HMM.out.far9 HRB.out _ _ _ _ _ _ _ _ _).mono (by omega)
      · repeat (refine bS ?_ (by simp <;> omega))
        exact HBW.out
end Go.Proofs.YtnaagdmaggdbmaaGreatDoor
namespace Go.Proofs.YtnaagdmaggdbmaaGreatDoor
open Go.RowKit
set_option maxRecDepth 1000000
theorem fOK_kval {t : Tab} {s p : Int} (h : fOK t s p = true) : kval (s, p) = true := by
 unfold fOK at h
 simp only [Bool.and_eq_true] at h
 exact h.1.2
theorem takO_kval {m : Ma} {s p : Int} (h : takO m s (p + (0 : Nat)) = true) : kval (s, p) = true := by
 unfold takO at h
 simp only [Bool.and_eq_true] at h
 have := fOK_kval h.2
 simpa using this
end Go.Proofs.YtnaagdmaggdbmaaGreatDoor
namespace Go.Proofs.YtnaagdmaggdbmaaGreatDoor
open Go.RowKit
set_option maxRecDepth 1000000
set_option maxHeartbeats 4000000 in
theorem TakePage_any (vb vf vl vo : Value) (m : Ma) (s p  : Int) (w : World) (hM : MaR w vb vf vl vo m) (hfree : Free w) :
  Calls Tryz.prog 71 #[.agg #[vb, vf, vl, .int .i64 m.c.hand, .int .i64 m.g.count, .int .i64 m.g.next, .int .i64 m.g.round, vo, .int .i64 m.sp], .agg #[.int .i64 s, .int .i64 p]] w (Post2 fun v w' => ∃ v1 v2 v3 v4, v = .tuple #[.agg #[v1, v2, v3, .int .i64 (takV m s p).c.hand, .int .i64 (takV m s p).g.count, .int .i64 (takV m s p).g.next, .int .i64 (takV m s p).g.round, v4, .int .i64 (takV m s p).sp], .bool (takO m s p)] ∧ MaM w.heap.size w' v1 v2 v3 v4 (takV m s p) ∧ Below w.heap.size w w') := by
 obtain ⟨W0, hW, hbx, hbk, hbo, hb0, hs0⟩ := box3 w #[vb, vf, vl, .int .i64 m.c.hand, .int .i64 m.g.count, .int .i64 m.g.next, .int .i64 m.g.round, vo, .int .i64 m.sp] 34 #[.int .i64 s, .int .i64 p] 36 #[.slice none 0 0, .slice none 0 0, .slice none 0 0, .int .i64 0, .int .i64 0, .int .i64 0, .int .i64 0, .slice none 0 0, .int .i64 0] 34
 have HX0 := Lib.hid hbx
 have HK0 := Lib.hid hbk
 have HR0 := Lib.hid hbo
 have HB0 := Lib.hid hb0
 have HS0 : Hid (w.heap.size + 3 ≤ W0.heap.size) := Nat.le_of_eq hs0.symm
 clear hbx hbk hbo hb0
 have HM := Lib.hid hM
 have HF := Lib.hid hfree
 clear hM hfree
 obtain ⟨m00, m10, m20, m30, m40, m50, m60, m70, m80⟩ := cells9 HX0.out
 go_enter Tryz.func71, Tryz.ntmps71
 go_wp2_with fail
 refine (MachineValid_any vb vf vl vo m _ (HM.out.now HB0.out) (HF.out.now HB0.out)).mono ?_
 rintro e w1 ⟨rfl, hb1⟩
 have HX1 := Lib.hid (HX0.out.below hb1)
 have HK1 := Lib.hid (HK0.out.below hb1)
 have HR1 := Lib.hid (HR0.out.below hb1)
 have HB1 := Lib.hid (bT HB0.out hb1)
 have HS1 := Lib.hid (Nat.le_trans HS0.out hb1.size)
 clear hb1
 clear m00 m10 m20 m30 m40 m50 m60 m70 m80
 cases h1 : mav m with
 | false =>
  have HA : Hid (takO m s p = false) := by show _ = _; unfold takO; rw [h1]; rfl
  have HV := Lib.hid (takO_false HA.out)
  obtain ⟨r0x, r1x, r2x, r3x, r4x, r5x, r6x, r7x, r8x⟩ := cells9 HR1.out
  obtain ⟨z0x, z1x, z2x, z3x, z4x, z5x, z6x, z7x, z8x⟩ := free9 HR1.out
  go_wp2
  obtain ⟨t0, t1, t2, t3, t4, t5, t6, t7, t8⟩ := cells9 (set9z HR1.out)
  refine bodyPost_ret (v := .tuple #[.agg #[.slice none 0 0, .slice none 0 0, .slice none 0 0, .int .i64 0, .int .i64 0, .int .i64 0, .int .i64 0, .slice none 0 0, .int .i64 0], .bool false]) (by simp [results, Tryz.results71, go_sem, t0, t1, t2, t3, t4, t5, t6, t7, t8]) rfl ⟨_, rfl, _, _, _, _, by rw [HA.out, HV.out]; rfl, by rw [HV.out]; exact mam_z, ?_⟩
  repeat (refine bS ?_ (by simp <;> omega))
  exact HB1.out
 | true =>
  obtain ⟨a1, a2, a3, a4⟩ := mav_len h1
  obtain ⟨m01, m11, m21, m31, m41, m51, m61, m71, m81⟩ := cells9 HX1.out
  have k01 := HK1.out.cell_ 0 (v := .int .i64 s) rfl
  have k11 := HK1.out.cell_ 1 (v := .int .i64 p) rfl
  go_wp2_with fail
  refine (UnmapPage_any vb vf m.t s p _ (HM.out.t.now HB1.out) (HF.out.now HB1.out)).mono ?_
  rintro e w2 ⟨_, rfl, v1, v2, rfl, hT2, hb2⟩
  obtain ⟨A1, c1, rfl, _⟩ := hT2.b
  obtain ⟨A2, c2, rfl, _⟩ := hT2.f
  have hs1 := HS1.out
  have HX2 := Lib.hid (HX1.out.below hb2)
  have HK2 := Lib.hid (HK1.out.below hb2)
  have HR2 := Lib.hid (HR1.out.below hb2)
  have HB2 := Lib.hid (bT HB1.out hb2)
  have HS2 := Lib.hid (Nat.le_trans HS1.out hb2.size)
  clear hb2
  clear m01 m11 m21 m31 m41 m51 m61 m71 m81
  clear k01 k11
  have ho5 := Own.new_ w2 26 #[.slice A1 (unmV m.t s p).bs.length c1, .slice A2 (unmV m.t s p).fs.length c2]
  have hb5 : Below w2.heap.size w2 (w2.alloc (.cells #[.slice A1 (unmV m.t s p).bs.length c1, .slice A2 (unmV m.t s p).fs.length c2] 26)) := bA bR
  generalize hW5 : w2.alloc (.cells #[.slice A1 (unmV m.t s p).bs.length c1, .slice A2 (unmV m.t s p).fs.length c2] 26) = w5 at ho5 hb5
  have HT5 := Lib.hid ((hT2.now hb5).mono hs1)
  clear hT2
  have HX5 := Lib.hid (HX2.out.below hb5)
  have HK5 := Lib.hid (HK2.out.below hb5)
  have HR5 := Lib.hid (HR2.out.below hb5)
  have HB5 := Lib.hid (bT HB2.out hb5)
  have HS5 := Lib.hid (Nat.le_trans HS2.out hb5.size)
  clear hb5
  cases h3 : fOK m.t s p with
  | false =>
   have HA : Hid (takO m s p = false) := by show _ = _; unfold takO; rw [h3, Bool.and_false]
   have HV := Lib.hid (takO_false HA.out)
   clear ho5
   obtain ⟨r0x, r1x, r2x, r3x, r4x, r5x, r6x, r7x, r8x⟩ := cells9 HR5.out
   obtain ⟨z0x, z1x, z2x, z3x, z4x, z5x, z6x, z7x, z8x⟩ := free9 HR5.out
   go_wp2
   obtain ⟨t0, t1, t2, t3, t4, t5, t6, t7, t8⟩ := cells9 (set9z HR5.out)
   refine bodyPost_ret (v := .tuple #[.agg #[.slice none 0 0, .slice none 0 0, .slice none 0 0, .int .i64 0, .int .i64 0, .int .i64 0, .int .i64 0, .slice none 0 0, .int .i64 0], .bool false]) (by simp [results, Tryz.results71, go_sem, t0, t1, t2, t3, t4, t5, t6, t7, t8]) rfl ⟨_, rfl, _, _, _, _, by rw [HA.out, HV.out]; rfl, by rw [HV.out]; exact mam_z, ?_⟩
   repeat (refine bS ?_ (by simp <;> omega))
   exact HB5.out
  | true =>
   have HA : Hid (takO m s p = true) := by show _ = _; unfold takO; rw [h1, h3]; rfl
   have HV : Hid (takV m s p = drpM m (unmV m.t s p) s p) := by show _ = _; unfold takV; rw [HA.out]; rfl
   obtain ⟨m05, m15, m25, m35, m45, m55, m65, m75, m85⟩ := cells9 HX5.out
   have k05 := HK5.out.cell_ 0 (v := .int .i64 s) rfl
   have k15 := HK5.out.cell_ 1 (v := .int .i64 p) rfl
   have u0 := ho5.cell_ 0 (v := .slice A1 (unmV m.t s p).bs.length c1) rfl
   have u1 := ho5.cell_ 1 (v := .slice A2 (unmV m.t s p).fs.length c2) rfl
   have hs5 := HS5.out
   clear ho5
   go_wp2_with fail
   refine (dropped_any vb vf vl vo _ _ m (unmV m.t s p) s p (w.heap.size + 3) _ (HM.out.now HB5.out) hs5 HT5.out a1 a2 a3 a4).mono ?_
   rintro e w3 ⟨_, rfl, q1, q2, q3, q4, rfl, hM3, hb3⟩
   have HX3 := Lib.hid (HX5.out.below hb3)
   have HK3 := Lib.hid (HK5.out.below hb3)
   have HR3 := Lib.hid (HR5.out.below hb3)
   have HB3 := Lib.hid (bT HB5.out hb3)
   have HS3 := Lib.hid (Nat.le_trans HS5.out hb3.size)
   clear hb3
   clear m05 m15 m25 m35 m45 m55 m65 m75 m85
   clear k05 k15 u0 u1
   obtain ⟨r0x, r1x, r2x, r3x, r4x, r5x, r6x, r7x, r8x⟩ := cells9 HR3.out
   obtain ⟨z0x, z1x, z2x, z3x, z4x, z5x, z6x, z7x, z8x⟩ := free9 HR3.out
   have HM3 := Lib.hid hM3
   obtain ⟨B1, d1, rfl, _⟩ := hM3.t.b
   obtain ⟨B2, d2, rfl, _⟩ := hM3.t.f
   obtain ⟨B3, d3, rfl, _⟩ := hM3.l
   obtain ⟨B4, d4, rfl, _⟩ := hM3.o
   clear hM3
   have hl3 := HR3.out.lt
   go_wp2
   have o3 := HR3.out.set9 (.slice B1 (drpM m (unmV m.t s p) s p).t.bs.length d1) (.slice B2 (drpM m (unmV m.t s p) s p).t.fs.length d2) (.slice B3 (drpM m (unmV m.t s p) s p).c.ls.length d3) (.int .i64 (drpM m (unmV m.t s p) s p).c.hand) (.int .i64 (drpM m (unmV m.t s p) s p).g.count) (.int .i64 (drpM m (unmV m.t s p) s p).g.next) (.int .i64 (drpM m (unmV m.t s p) s p).g.round) (.slice B4 (drpM m (unmV m.t s p) s p).g.os.length d4) (.int .i64 (drpM m (unmV m.t s p) s p).sp)
   obtain ⟨p0t, p1t, p2t, p3t, p4t, p5t, p6t, p7t, p8t⟩ := cells9 o3
   refine bodyPost_ret (v := .tuple #[.agg #[.slice B1 (drpM m (unmV m.t s p) s p).t.bs.length d1, .slice B2 (drpM m (unmV m.t s p) s p).t.fs.length d2, .slice B3 (drpM m (unmV m.t s p) s p).c.ls.length d3, .int .i64 (drpM m (unmV m.t s p) s p).c.hand, .int .i64 (drpM m (unmV m.t s p) s p).g.count, .int .i64 (drpM m (unmV m.t s p) s p).g.next, .int .i64 (drpM m (unmV m.t s p) s p).g.round, .slice B4 (drpM m (unmV m.t s p) s p).g.os.length d4, .int .i64 (drpM m (unmV m.t s p) s p).sp], .bool true]) (by simp [results, Tryz.results71, go_sem, p0t, p1t, p2t, p3t, p4t, p5t, p6t, p7t, p8t]) rfl ⟨_, rfl, _, _, _, _, by rw [HA.out, HV.out], ?_, ?_⟩
   ·rw [HV.out]
    exact (HM3.out.far9 HR3.out _ _ _ _ _ _ _ _ _).mono (by omega)
   ·repeat (refine bS ?_ (by simp <;> omega))
    exact HB3.out
set_option maxHeartbeats 2000000 in
theorem TakeRange1_any (vb vf vl vo : Value) (m : Ma) (i s p : Int) (w : World) (hM : MaR w vb vf vl vo m) (hfree : Free w) :
  Calls Tryz.prog 70 #[.agg #[vb, vf, vl, .int .i64 m.c.hand, .int .i64 m.g.count, .int .i64 m.g.next, .int .i64 m.g.round, vo, .int .i64 m.sp], .int .i64 i, .agg #[.int .i64 s, .int .i64 p]] w (Post2 fun v w' => ∃ v1 v2 v3 v4, v = .tuple #[.agg #[v1, v2, v3, .int .i64 (takV m s p).c.hand, .int .i64 (takV m s p).g.count, .int .i64 (takV m s p).g.next, .int .i64 (takV m s p).g.round, v4, .int .i64 (takV m s p).sp], .bool (takO m s p)] ∧ MaM w.heap.size w' v1 v2 v3 v4 (takV m s p) ∧ Below w.heap.size w w') := by
 obtain ⟨W0, hW, hbx, hbk, hbo, hb0, hs0⟩ := box3 w #[vb, vf, vl, .int .i64 m.c.hand, .int .i64 m.g.count, .int .i64 m.g.next, .int .i64 m.g.round, vo, .int .i64 m.sp] 34 #[.int .i64 s, .int .i64 p] 36 #[.slice none 0 0, .slice none 0 0, .slice none 0 0, .int .i64 0, .int .i64 0, .int .i64 0, .int .i64 0, .slice none 0 0, .int .i64 0] 34
 have HX0 := Lib.hid hbx
 have HK0 := Lib.hid hbk
 have HR0 := Lib.hid hbo
 have HB0 := Lib.hid hb0
 have HS0 : Hid (w.heap.size + 3 ≤ W0.heap.size) := Nat.le_of_eq hs0.symm
 clear hbx hbk hbo hb0
 have HM := Lib.hid hM
 have HF := Lib.hid hfree
 obtain ⟨m00, m10, m20, m30, m40, m50, m60, m70, m80⟩ := cells9 HX0.out
 have k00 := HK0.out.cell_ 0 (v := .int .i64 s) rfl
 have k10 := HK0.out.cell_ 1 (v := .int .i64 p) rfl
 have HMV := Lib.hid (fun W (h : MaR W vb vf vl vo m) (hf : Free W) => TakePage_any vb vf vl vo m s p W h hf)
 clear hM hfree
 go_enter Tryz.func70, Tryz.ntmps70
 go_wp2_with fail
 refine (HMV.out _ (HM.out.now HB0.out) (HF.out.now HB0.out)).mono ?_
 rintro e w1 ⟨_, rfl, e1, e2, e3, e4, rfl, hM1, hb1⟩
 have HX1 := Lib.hid (HX0.out.below hb1)
 have HK1 := Lib.hid (HK0.out.below hb1)
 have HR1 := Lib.hid (HR0.out.below hb1)
 have HB1 := Lib.hid (bT HB0.out hb1)
 have HS1 := Lib.hid (Nat.le_trans HS0.out hb1.size)
 clear hb1
 have HM1 := Lib.hid (hM1.mono (B' := w.heap.size + 3) (Nat.le_of_eq hs0.symm))
 obtain ⟨r0x, r1x, r2x, r3x, r4x, r5x, r6x, r7x, r8x⟩ := cells9 HR1.out
 obtain ⟨z0x, z1x, z2x, z3x, z4x, z5x, z6x, z7x, z8x⟩ := free9 HR1.out
 obtain ⟨E1, n1, rfl, _⟩ := HM1.out.t.b
 obtain ⟨E2, n2, rfl, _⟩ := HM1.out.t.f
 obtain ⟨E3, n3, rfl, _⟩ := HM1.out.l
 obtain ⟨E4, n4, rfl, _⟩ := HM1.out.o
 clear hM1 m00 m10 m20 m30 m40 m50 m60 m70 m80 k00 k10
 go_wp2
 have o3 := HR1.out.set9 (.slice E1 (takV m s p).t.bs.length n1) (.slice E2 (takV m s p).t.fs.length n2) (.slice E3 (takV m s p).c.ls.length n3) (.int .i64 (takV m s p).c.hand) (.int .i64 (takV m s p).g.count) (.int .i64 (takV m s p).g.next) (.int .i64 (takV m s p).g.round) (.slice E4 (takV m s p).g.os.length n4) (.int .i64 (takV m s p).sp)
 obtain ⟨p0t, p1t, p2t, p3t, p4t, p5t, p6t, p7t, p8t⟩ := cells9 o3
 refine bodyPost_ret (v := .tuple #[.agg #[.slice E1 (takV m s p).t.bs.length n1, .slice E2 (takV m s p).t.fs.length n2, .slice E3 (takV m s p).c.ls.length n3, .int .i64 (takV m s p).c.hand, .int .i64 (takV m s p).g.count, .int .i64 (takV m s p).g.next, .int .i64 (takV m s p).g.round, .slice E4 (takV m s p).g.os.length n4, .int .i64 (takV m s p).sp], .bool (takO m s p)]) (by simp [results, Tryz.results70, go_sem, p0t, p1t, p2t, p3t, p4t, p5t, p6t, p7t, p8t]) rfl ⟨_, rfl, _, _, _, _, by first | rfl | rw [hV, hO], ?_, ?_⟩
 ·first | exact (HM1.out.far9 HR1.out _ _ _ _ _ _ _ _ _).mono (by omega) | (rw [hV]; exact (HM1.out.far9 HR1.out _ _ _ _ _ _ _ _ _).mono (by omega))
 ·repeat (refine bS ?_ (by simp <;> omega))
  exact HB1.out
set_option maxHeartbeats 2000000 in
theorem TakeRange_any (vb vf vl vo : Value) (m : Ma) (s p c : Int) (w : World) (hM : MaR w vb vf vl vo m) (hfree : Free w) :
  Calls Tryz.prog 23 #[.agg #[vb, vf, vl, .int .i64 m.c.hand, .int .i64 m.g.count, .int .i64 m.g.next, .int .i64 m.g.round, vo, .int .i64 m.sp], .agg #[.int .i64 s, .int .i64 p], .int .i64 c] w (Post2 fun v w' => ∃ v1 v2 v3 v4, v = .tuple #[.agg #[v1, v2, v3, .int .i64 (rgV (fun m' k => takO m' s (p + k)) (fun m' k => takV m' s (p + k)) m c).c.hand, .int .i64 (rgV (fun m' k => takO m' s (p + k)) (fun m' k => takV m' s (p + k)) m c).g.count, .int .i64 (rgV (fun m' k => takO m' s (p + k)) (fun m' k => takV m' s (p + k)) m c).g.next, .int .i64 (rgV (fun m' k => takO m' s (p + k)) (fun m' k => takV m' s (p + k)) m c).g.round, v4, .int .i64 (rgV (fun m' k => takO m' s (p + k)) (fun m' k => takV m' s (p + k)) m c).sp], .bool ((rgO (fun m' k => takO m' s (p + k)) (fun m' k => takV m' s (p + k)) m c).isSome)] ∧ MaM w.heap.size w' v1 v2 v3 v4 (rgV (fun m' k => takO m' s (p + k)) (fun m' k => takV m' s (p + k)) m c) ∧ Below w.heap.size w w') := by
 obtain ⟨W0, hW, hbx, hbk, hbo, hb0, hs0⟩ := box3 w #[vb, vf, vl, .int .i64 m.c.hand, .int .i64 m.g.count, .int .i64 m.g.next, .int .i64 m.g.round, vo, .int .i64 m.sp] 34 #[.int .i64 s, .int .i64 p] 36 #[.slice none 0 0, .slice none 0 0, .slice none 0 0, .int .i64 0, .int .i64 0, .int .i64 0, .int .i64 0, .slice none 0 0, .int .i64 0] 34
 have HX0 := Lib.hid hbx
 have HK0 := Lib.hid hbk
 have HR0 := Lib.hid hbo
 have HB0 := Lib.hid hb0
 have HS0 : Hid (w.heap.size + 3 ≤ W0.heap.size) := Nat.le_of_eq hs0.symm
 clear hbx hbk hbo hb0
 have HC := Lib.hid (takeRanged_any vb vf vl vo m s p c (fun m' k => takO m' s (p + k)) (fun m' k => takV m' s (p + k)) W0 (hM.now HB0.out) (hfree.now HB0.out) (fun m' h => takO_kval h) (fun c1 c2 c3 c4 mk k W hk hbw hmk => TakeRange1_any c1 c2 c3 c4 mk k s (p + k) W hmk (hfree.now (bT HB0.out hbw))))
 obtain ⟨m00, m10, m20, m30, m40, m50, m60, m70, m80⟩ := cells9 HX0.out
 have k00 := HK0.out.cell_ 0 (v := .int .i64 s) rfl
 have k10 := HK0.out.cell_ 1 (v := .int .i64 p) rfl
 clear hM hfree
 go_enter Tryz.func23, Tryz.ntmps23
 go_wp2_with fail
 refine HC.out.mono ?_
 rintro e w1 ⟨_, rfl, e1, e2, e3, e4, rfl, hM1, hb1⟩
 have HX1 := Lib.hid (HX0.out.below hb1)
 have HK1 := Lib.hid (HK0.out.below hb1)
 have HR1 := Lib.hid (HR0.out.below hb1)
 have HB1 := Lib.hid (bT HB0.out hb1)
 have HS1 := Lib.hid (Nat.le_trans HS0.out hb1.size)
 clear hb1
 have HM1 := Lib.hid (hM1.mono (B' := w.heap.size + 3) (Nat.le_of_eq hs0.symm))
 clear m00 m10 m20 m30 m40 m50 m60 m70 m80 k00 k10 HC
 obtain ⟨r0x, r1x, r2x, r3x, r4x, r5x, r6x, r7x, r8x⟩ := cells9 HR1.out
 obtain ⟨z0x, z1x, z2x, z3x, z4x, z5x, z6x, z7x, z8x⟩ := free9 HR1.out
 generalize hV : rgV (fun m' k => takO m' s (p + k)) (fun m' k => takV m' s (p + k)) m c = V at *
 generalize hO : (rgO (fun m' k => takO m' s (p + k)) (fun m' k => takV m' s (p + k)) m c).isSome = O at *
 obtain ⟨E1, n1, rfl, _⟩ := HM1.out.t.b
 obtain ⟨E2, n2, rfl, _⟩ := HM1.out.t.f
 obtain ⟨E3, n3, rfl, _⟩ := HM1.out.l
 obtain ⟨E4, n4, rfl, _⟩ := HM1.out.o
 clear hM1
 go_wp2
 have o3 := HR1.out.set9 (.slice E1 (V).t.bs.length n1) (.slice E2 (V).t.fs.length n2) (.slice E3 (V).c.ls.length n3) (.int .i64 (V).c.hand) (.int .i64 (V).g.count) (.int .i64 (V).g.next) (.int .i64 (V).g.round) (.slice E4 (V).g.os.length n4) (.int .i64 (V).sp)
 obtain ⟨p0t, p1t, p2t, p3t, p4t, p5t, p6t, p7t, p8t⟩ := cells9 o3
 refine bodyPost_ret (v := .tuple #[.agg #[.slice E1 (V).t.bs.length n1, .slice E2 (V).t.fs.length n2, .slice E3 (V).c.ls.length n3, .int .i64 (V).c.hand, .int .i64 (V).g.count, .int .i64 (V).g.next, .int .i64 (V).g.round, .slice E4 (V).g.os.length n4, .int .i64 (V).sp], .bool (O)]) (by simp [results, Tryz.results23, go_sem, p0t, p1t, p2t, p3t, p4t, p5t, p6t, p7t, p8t]) rfl ⟨_, rfl, _, _, _, _, by first | rfl | rw [hV, hO], ?_, ?_⟩
 ·first | exact (HM1.out.far9 HR1.out _ _ _ _ _ _ _ _ _).mono (by omega) | (rw [hV]; exact (HM1.out.far9 HR1.out _ _ _ _ _ _ _ _ _).mono (by omega))
 ·repeat (refine bS ?_ (by simp <;> omega))
  exact HB1.out
end Go.Proofs.YtnaagdmaggdbmaaGreatDoor
