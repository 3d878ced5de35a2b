/- A part of the proofs of this seat: Pr1, RgI. -/
import Derived.Test.YtibpnlojlfcpmaaGreatDoorAPrI
set_option linter.unusedVariables false
set_option linter.unusedSimpArgs false
set_option maxRecDepth 1000000
namespace Go.Proofs.YtibpnlojlfcpmaaGreatDoor
open Go.RowKit
set_option maxHeartbeats 2000000 in
theorem PutRange1_any (vb vf vl vo : Value) (m : Ma) (i : Nat) (s p f r : Int) (gf gr : Nat) (A : Option Addr) (c : Nat) (fs : List Int) (w : World) (hM : MaR w vb vf vl vo m) (hfree : Free w) (hf : fs[i]? = some f) (hgf : gf < w.heap.size) (hgr : gr < w.heap.size)
    (hcf : w.cell? ⟨gf, 0, none⟩ = some (.slice A fs.length c)) (hcr : w.cell? ⟨gr, 0, none⟩ = some (.int .i64 r)) (hR : Rs intE w.heap.size w A fs) (hl : fs.length ≤ 16) :
    Calls Tryz.prog 98 #[.agg #[vb, vf, vl, .int .i64 m.c.hand, .int .i64 m.g.count, .int .i64 m.g.next, .int .i64 m.g.round, vo, .int .i64 m.sp], .int .i64 i, .agg #[.int .i64 s, .int .i64 p], .pointer (some ⟨gf, 0, none⟩), .pointer (some ⟨gr, 0, none⟩)] w (Post2 fun v w' => ∃ v1 v2 v3 v4, v = .tuple #[.agg #[v1, v2, v3, .int .i64 (putV m s p f r).c.hand, .int .i64 (putV m s p f r).g.count, .int .i64 (putV m s p f r).g.next, .int .i64 (putV m s p f r).g.round, v4, .int .i64 (putV m s p f r).sp], .bool (putOK m s p f r)] ∧ MaM w.heap.size w' v1 v2 v3 v4 (putV m s p f r) ∧ Below w.heap.size w w') := by
  obtain ⟨W0, hW, hbx, hbk, hbo, hb0, hs0⟩ := box3 w #[vb, vf, vl, .int .i64 m.c.hand, .int .i64 m.g.count, .int .i64 m.g.next, .int .i64 m.g.round, vo, .int .i64 m.sp] 48 #[.int .i64 s, .int .i64 p] 61 #[.slice none 0 0, .slice none 0 0, .slice none 0 0, .int .i64 0, .int .i64 0, .int .i64 0, .int .i64 0, .slice none 0 0, .int .i64 0] 48
  have HX0 := Hd hbx
  have HK0 := Hd hbk
  have HR0 := Hd hbo
  have HB0 := Hd hb0
  have HS0 : Hid (w.heap.size + 3 ≤ W0.heap.size) := Nat.le_of_eq hs0.symm
  clear hbx hbk hbo hb0
  have HM := Hd hM
  have HF := Hd hfree
  obtain ⟨b5, o5, rfl, hb5, y0w⟩ := hR.i1 hf
  have hil := (List.getElem?_eq_some_iff.1 hf).1
  have y0 := (HB0.out.cell (p := ⟨b5, o5 + i, none⟩) hb5).trans y0w
  have y1 := (HB0.out.cell (p := ⟨gf, 0, none⟩) hgf).trans hcf
  have y2 := (HB0.out.cell (p := ⟨gr, 0, none⟩) hgr).trans hcr
  obtain ⟨m00, m10, m20, m30, m40, m50, m60, m70, m80⟩ := cells9 HX0.out
  have k00 := HK0.out.cell_ 0 (v := .int .i64 s) rfl
  have k10 := HK0.out.cell_ 1 (v := .int .i64 p) rfl
  have HMV := Hd (fun W (h : MaR W vb vf vl vo m) (hf : Free W) => PutPage_any vb vf vl vo m s p f r W h hf)
  have Y0 := Hd y0
  have Y1 := Hd y1
  have Y2 := Hd y2
  clear hM hfree hR hf y0w
  go_enter Tryz.func98, Tryz.ntmps98
  go_wp2
  go_region_held_law (fun w' => w'.cell? ⟨w.heap.size, 0, none⟩ = some vb ∧ w'.cell? ⟨w.heap.size, 1, none⟩ = some vf ∧ w'.cell? ⟨w.heap.size, 2, none⟩ = some vl ∧ w'.cell? ⟨w.heap.size, 3, none⟩ = some (.int .i64 m.c.hand) ∧ w'.cell? ⟨w.heap.size, 4, none⟩ = some (.int .i64 m.g.count) ∧ w'.cell? ⟨w.heap.size, 5, none⟩ = some (.int .i64 m.g.next) ∧ w'.cell? ⟨w.heap.size, 6, none⟩ = some (.int .i64 m.g.round) ∧ w'.cell? ⟨w.heap.size, 7, none⟩ = some vo ∧ w'.cell? ⟨w.heap.size, 8, none⟩ = some (.int .i64 m.sp) ∧ w'.cell? ⟨w.heap.size + 1, 0, none⟩ = some (.int .i64 s) ∧ w'.cell? ⟨w.heap.size + 1, 1, none⟩ = some (.int .i64 p) ∧ w'.cell? ⟨gf, 0, none⟩ = some (.slice (some ⟨b5, o5, none⟩) fs.length c) ∧ w'.cell? ⟨gr, 0, none⟩ = some (.int .i64 r) ∧ w'.cell? ⟨b5, o5 + i, none⟩ = some (.int .i64 f)) (go_keep) (first
    | (go_at_call 99
       refine (HMV.out _ (HM.out.now (bD HB0.out)) (HF.out.now (bD HB0.out))).mono ?_
       rintro _ w1 ⟨_, rfl, e1, e2, e3, e4, rfl, hM1, hb1⟩
       have HB1 := Hd (bT (bD HB0.out) hb1)
       have HX1 := Hd (HX0.out.drew.below hb1)
       have HK1 := Hd (HK0.out.drew.below hb1)
       have HR1 := Hd (HR0.out.drew.below hb1)
       have HM1 := Hd (hM1.mono (B' := w.heap.size + 3) (Nat.le_of_eq hs0.symm))
       have z0 := (hb1.cell (p := ⟨b5, o5 + i, none⟩) (Nat.lt_of_lt_of_le hb5 HB0.out.size)).trans (show W0.drew.cell? _ = _ from Y0.out)
       have z1 := (hb1.cell (p := ⟨gf, 0, none⟩) (Nat.lt_of_lt_of_le hgf HB0.out.size)).trans (show W0.drew.cell? _ = _ from Y1.out)
       have z2 := (hb1.cell (p := ⟨gr, 0, none⟩) (Nat.lt_of_lt_of_le hgr HB0.out.size)).trans (show W0.drew.cell? _ = _ from Y2.out)
       obtain ⟨m01, m11, m21, m31, m41, m51, m61, m71, m81⟩ := cells9 HX1.out
       have k01 := HK1.out.cell_ 0 (v := .int .i64 s) rfl
       have k11 := HK1.out.cell_ 1 (v := .int .i64 p) rfl
       obtain ⟨r0x, r1x, r2x, r3x, r4x, r5x, r6x, r7x, r8x⟩ := cells9 HR1.out
       obtain ⟨z0x, z1x, z2x, z3x, z4x, z5x, z6x, z7x, z8x⟩ := free9 HR1.out
       obtain ⟨E1, n1, rfl, _⟩ := HM1.out.t.b
       obtain ⟨E2, n2, rfl, _⟩ := HM1.out.t.f
       obtain ⟨E3, n3, rfl, _⟩ := HM1.out.l
       obtain ⟨E4, n4, rfl, _⟩ := HM1.out.o
       have h7x : w.heap.size + 1 + 1 ≠ w.heap.size := by omega
       have h8x : w.heap.size ≠ w.heap.size + 1 + 1 := by omega
       have h9x : w.heap.size + 1 + 1 ≠ w.heap.size + 1 := by omega
       have h10x : w.heap.size + 1 ≠ w.heap.size + 1 + 1 := by omega
       have h1x : w.heap.size + 1 + 1 ≠ b5 := by omega
       have h2x : w.heap.size + 1 + 1 ≠ gf := by omega
       have h3x : w.heap.size + 1 + 1 ≠ gr := by omega
       have h4x : b5 ≠ w.heap.size + 1 + 1 := by omega
       have h5x : gf ≠ w.heap.size + 1 + 1 := by omega
       have h6x : gr ≠ w.heap.size + 1 + 1 := by omega
       clear hM1 hb1 m00 m10 m20 m30 m40 m50 m60 m70 m80 k00 k10 y0 y1 y2))
  all_goals
    go_wp2
    have o3 := HR1.out.set9 (.slice E1 (putV m s p f r).t.bs.length n1) (.slice E2 (putV m s p f r).t.fs.length n2) (.slice E3 (putV m s p f r).c.ls.length n3) (.int .i64 (putV m s p f r).c.hand) (.int .i64 (putV m s p f r).g.count) (.int .i64 (putV m s p f r).g.next) (.int .i64 (putV m s p f r).g.round) (.slice E4 (putV m s p f r).g.os.length n4) (.int .i64 (putV m s p f r).sp)
    obtain ⟨p0t, p1t, p2t, p3t, p4t, p5t, p6t, p7t, p8t⟩ := cells9 o3
    refine bodyPost_ret (v := .tuple #[.agg #[.slice E1 (putV m s p f r).t.bs.length n1, .slice E2 (putV m s p f r).t.fs.length n2, .slice E3 (putV m s p f r).c.ls.length n3, .int .i64 (putV m s p f r).c.hand, .int .i64 (putV m s p f r).g.count, .int .i64 (putV m s p f r).g.next, .int .i64 (putV m s p f r).g.round, .slice E4 (putV m s p f r).g.os.length n4, .int .i64 (putV m s p f r).sp], .bool (putOK m s p f r)]) (by simp [results, Tryz.results98, go_sem, p0t, p1t, p2t, p3t, p4t, p5t, p6t, p7t, p8t]) rfl ⟨_, rfl, _, _, _, _, rfl, ?_, ?_⟩
    · exact (HM1.out.far9 HR1.out _ _ _ _ _ _ _ _ _).mono (by omega)
    · repeat (refine bS ?_ (by simp <;> omega))
      exact HB1.out
set_option maxHeartbeats 2000000 in
theorem putRanged_any (vb vf vl vo : Value) (m : Ma) (s p r : Int) (gf gr : Nat) (A : Option Addr) (c : Nat) (fs : List Int) (w : World) (hM : MaR w vb vf vl vo m) (hfree : Free w) (hgf : gf < w.heap.size) (hgr : gr < w.heap.size)
  (hcf : w.cell? ⟨gf, 0, none⟩ = some (.slice A fs.length c)) (hcr : w.cell? ⟨gr, 0, none⟩ = some (.int .i64 r)) (hR : Rs intE w.heap.size w A fs) (hl : fs.length ≤ 1048576) :
  Calls Tryz.prog 97 #[.agg #[vb, vf, vl, .int .i64 m.c.hand, .int .i64 m.g.count, .int .i64 m.g.next, .int .i64 m.g.round, vo, .int .i64 m.sp], .agg #[.int .i64 s, .int .i64 p], .int .i64 fs.length, .func (.func 98) #[] #[.pointer (some ⟨gf, 0, none⟩), .pointer (some ⟨gr, 0, none⟩)]] w (Post2 fun v w' => ∃ v1 v2 v3 v4, v = .tuple #[.agg #[v1, v2, v3, .int .i64 (prgV m s p fs r).c.hand, .int .i64 (prgV m s p fs r).g.count, .int .i64 (prgV m s p fs r).g.next, .int .i64 (prgV m s p fs r).g.round, v4, .int .i64 (prgV m s p fs r).sp], .bool (prgO m s p fs r).isSome] ∧ MaM w.heap.size w' v1 v2 v3 v4 (prgV m s p fs r) ∧ Below w.heap.size w w') := by
 obtain ⟨W0, hW, hbx, hbk, hbo, hb0, hs0⟩ := box3 w #[vb, vf, vl, .int .i64 m.c.hand, .int .i64 m.g.count, .int .i64 m.g.next, .int .i64 m.g.round, vo, .int .i64 m.sp] 48 #[.int .i64 s, .int .i64 p] 61 #[.slice none 0 0, .slice none 0 0, .slice none 0 0, .int .i64 0, .int .i64 0, .int .i64 0, .int .i64 0, .slice none 0 0, .int .i64 0] 48
 have HX0 := Hd hbx
 have HK0 := Hd hbk
 have HR0 := Hd hbo
 have HB0 := Hd hb0
 have HS0 : Hid (w.heap.size + 3 ≤ W0.heap.size) := Nat.le_of_eq hs0.symm
 clear hbx hbk hbo hb0
 have HM := Hd hM
 have HF := Hd hfree
 have HRF := Hd hR
 clear hM hfree hR
 obtain ⟨m00, m10, m20, m30, m40, m50, m60, m70, m80⟩ := cells9 HX0.out
 go_enter Tryz.func97, Tryz.ntmps97
 go_wp2_with fail
 refine (MachineValid_any vb vf vl vo m _ (HM.out.now HB0.out) (HF.out.now HB0.out)).mono ?_
 rintro e w1 ⟨rfl, hb1⟩
 have HX1 := Hd (HX0.out.below hb1)
 have HK1 := Hd (HK0.out.below hb1)
 have HR1 := Hd (HR0.out.below hb1)
 have HB1 := Hd (bT HB0.out hb1)
 have HS1 := Hd (Nat.le_trans HS0.out hb1.size)
 clear hb1
 clear m00 m10 m20 m30 m40 m50 m60 m70 m80
 cases h1 : mav m with
 | false =>
  have HO : Hid (prgO m s p fs r = none) := prgO_no (fun h => by rw [h1] at h; cases h.1)
  have HA : Hid ((prgO m s p fs r).isSome = false) := by show _ = _; rw [HO.out]; rfl
  have HV : Hid (prgV m s p fs r = maz) := by show _ = _; unfold prgV; rw [HO.out]; rfl
  obtain ⟨r0x, r1x, r2x, r3x, r4x, r5x, r6x, r7x, r8x⟩ := cells9 HR1.out
  obtain ⟨z0x, z1x, z2x, z3x, z4x, z5x, z6x, z7x, z8x⟩ := free9 HR1.out
  go_wp2
  obtain ⟨t0, t1, t2, t3, t4, t5, t6, t7, t8⟩ := cells9 (set9z HR1.out)
  refine bodyPost_ret (v := .tuple #[.agg #[.slice none 0 0, .slice none 0 0, .slice none 0 0, .int .i64 0, .int .i64 0, .int .i64 0, .int .i64 0, .slice none 0 0, .int .i64 0], .bool false]) (by simp [results, Tryz.results97, go_sem, t0, t1, t2, t3, t4, t5, t6, t7, t8]) rfl ⟨_, rfl, _, _, _, _, by rw [HA.out, HV.out]; rfl, by rw [HV.out]; exact mam_z, ?_⟩
  repeat (refine bS ?_ (by simp <;> omega))
  exact HB1.out
 | true =>
 have k01 := HK1.out.cell_ 0 (v := .int .i64 s) rfl
 have k11 := HK1.out.cell_ 1 (v := .int .i64 p) rfl
 go_wp2_with fail
 refine (keyValid_any s p _).mono ?_
 rintro e w2 ⟨rfl, hb2⟩
 have HX2 := Hd (HX1.out.below hb2)
 have HK2 := Hd (HK1.out.below hb2)
 have HR2 := Hd (HR1.out.below hb2)
 have HB2 := Hd (bT HB1.out hb2)
 have HS2 := Hd (Nat.le_trans HS1.out hb2.size)
 clear hb2
 clear k01 k11
 cases h2k : kval (s, p) with
 | false =>
  have HO : Hid (prgO m s p fs r = none) := by
   show _ = _
   by_cases h : mav m = true ∧ 1 ≤ fs.length ∧ fs.length ≤ 16
   ·rw [prgO_yes h.1 h.2.1 h.2.2]
    cases e : putN s p r fs m fs.length with
    | none => rfl
    | some m' =>
     obtain ⟨j, hj⟩ : ∃ j, fs.length = j + 1 := ⟨fs.length - 1, by omega⟩
     rw [hj] at e
     rw [putN_kval e] at h2k
     cases h2k
   ·exact prgO_no h
  have HA : Hid ((prgO m s p fs r).isSome = false) := by show _ = _; rw [HO.out]; rfl
  have HV : Hid (prgV m s p fs r = maz) := by show _ = _; unfold prgV; rw [HO.out]; rfl
  obtain ⟨r0x, r1x, r2x, r3x, r4x, r5x, r6x, r7x, r8x⟩ := cells9 HR2.out
  obtain ⟨z0x, z1x, z2x, z3x, z4x, z5x, z6x, z7x, z8x⟩ := free9 HR2.out
  go_wp2
  obtain ⟨t0, t1, t2, t3, t4, t5, t6, t7, t8⟩ := cells9 (set9z HR2.out)
  refine bodyPost_ret (v := .tuple #[.agg #[.slice none 0 0, .slice none 0 0, .slice none 0 0, .int .i64 0, .int .i64 0, .int .i64 0, .int .i64 0, .slice none 0 0, .int .i64 0], .bool false]) (by simp [results, Tryz.results97, go_sem, t0, t1, t2, t3, t4, t5, t6, t7, t8]) rfl ⟨_, rfl, _, _, _, _, by rw [HA.out, HV.out]; rfl, by rw [HV.out]; exact mam_z, ?_⟩
  repeat (refine bS ?_ (by simp <;> omega))
  exact HB2.out
 | true =>
 by_cases h2 : fs.length < 1
 ·have HO : Hid (prgO m s p fs r = none) := prgO_no (fun h => by omega)
  have HA : Hid ((prgO m s p fs r).isSome = false) := by show _ = _; rw [HO.out]; rfl
  have HV : Hid (prgV m s p fs r = maz) := by show _ = _; unfold prgV; rw [HO.out]; rfl
  obtain ⟨r0x, r1x, r2x, r3x, r4x, r5x, r6x, r7x, r8x⟩ := cells9 HR2.out
  obtain ⟨z0x, z1x, z2x, z3x, z4x, z5x, z6x, z7x, z8x⟩ := free9 HR2.out
  go_wp2
  obtain ⟨t0, t1, t2, t3, t4, t5, t6, t7, t8⟩ := cells9 (set9z HR2.out)
  refine bodyPost_ret (v := .tuple #[.agg #[.slice none 0 0, .slice none 0 0, .slice none 0 0, .int .i64 0, .int .i64 0, .int .i64 0, .int .i64 0, .slice none 0 0, .int .i64 0], .bool false]) (by simp [results, Tryz.results97, go_sem, t0, t1, t2, t3, t4, t5, t6, t7, t8]) rfl ⟨_, rfl, _, _, _, _, by rw [HA.out, HV.out]; rfl, by rw [HV.out]; exact mam_z, ?_⟩
  repeat (refine bS ?_ (by simp <;> omega))
  exact HB2.out
 by_cases h3 : 16 < fs.length
 ·have HO : Hid (prgO m s p fs r = none) := prgO_no (fun h => by omega)
  have HA : Hid ((prgO m s p fs r).isSome = false) := by show _ = _; rw [HO.out]; rfl
  have HV : Hid (prgV m s p fs r = maz) := by show _ = _; unfold prgV; rw [HO.out]; rfl
  obtain ⟨r0x, r1x, r2x, r3x, r4x, r5x, r6x, r7x, r8x⟩ := cells9 HR2.out
  obtain ⟨z0x, z1x, z2x, z3x, z4x, z5x, z6x, z7x, z8x⟩ := free9 HR2.out
  go_wp2
  obtain ⟨t0, t1, t2, t3, t4, t5, t6, t7, t8⟩ := cells9 (set9z HR2.out)
  refine bodyPost_ret (v := .tuple #[.agg #[.slice none 0 0, .slice none 0 0, .slice none 0 0, .int .i64 0, .int .i64 0, .int .i64 0, .int .i64 0, .slice none 0 0, .int .i64 0], .bool false]) (by simp [results, Tryz.results97, go_sem, t0, t1, t2, t3, t4, t5, t6, t7, t8]) rfl ⟨_, rfl, _, _, _, _, by rw [HA.out, HV.out]; rfl, by rw [HV.out]; exact mam_z, ?_⟩
  repeat (refine bS ?_ (by simp <;> omega))
  exact HB2.out
 have hi1 : 1 ≤ fs.length := by omega
 have hi2 : fs.length ≤ 16 := by omega
 obtain ⟨B1, d1, rfl, _⟩ := HM.out.t.b
 obtain ⟨B2, d2, rfl, _⟩ := HM.out.t.f
 obtain ⟨B3, d3, rfl, _⟩ := HM.out.l
 obtain ⟨B4, d4, rfl, _⟩ := HM.out.o
 obtain ⟨p0m, p1m, p2m, p3m, p4m, p5m, p6m, p7m, p8m⟩ := cells9 HX2.out
 have hkv := kval_iff.1 h2k
 have HO2 := Hd (Own.new_ w2 48 #[.slice B1 m.t.bs.length d1, .slice B2 m.t.fs.length d2, .slice B3 m.c.ls.length d3, .int .i64 m.c.hand, .int .i64 m.g.count, .int .i64 m.g.next, .int .i64 m.g.round, .slice B4 m.g.os.length d4, .int .i64 m.sp])
 have HK3 := Hd (HK2.out.alloc (o := .cells #[.slice B1 m.t.bs.length d1, .slice B2 m.t.fs.length d2, .slice B3 m.c.ls.length d3, .int .i64 m.c.hand, .int .i64 m.g.count, .int .i64 m.g.next, .int .i64 m.g.round, .slice B4 m.g.os.length d4, .int .i64 m.sp] 48))
 have HR3 := Hd (HR2.out.alloc (o := .cells #[.slice B1 m.t.bs.length d1, .slice B2 m.t.fs.length d2, .slice B3 m.c.ls.length d3, .int .i64 m.c.hand, .int .i64 m.g.count, .int .i64 m.g.next, .int .i64 m.g.round, .slice B4 m.g.os.length d4, .int .i64 m.sp] 48))
 have HM3 := Hd (HM.out.now (bA HB2.out (o := .cells #[.slice B1 m.t.bs.length d1, .slice B2 m.t.fs.length d2, .slice B3 m.c.ls.length d3, .int .i64 m.c.hand, .int .i64 m.g.count, .int .i64 m.g.next, .int .i64 m.g.round, .slice B4 m.g.os.length d4, .int .i64 m.sp] 48)))
 have HB3 := Hd (bA HB2.out (o := .cells #[.slice B1 m.t.bs.length d1, .slice B2 m.t.fs.length d2, .slice B3 m.c.ls.length d3, .int .i64 m.c.hand, .int .i64 m.g.count, .int .i64 m.g.next, .int .i64 m.g.round, .slice B4 m.g.os.length d4, .int .i64 m.sp] 48))
 have hgb := HR2.out.lt
 have hs2 := HS2.out
 go_wp2
 clear p0m p1m p2m p3m p4m p5m p6m p7m p8m
 go_loopw [33] (fun u wr => ∃ (k : Nat) (mk : Ma) (c1 c2 c3 c4 : Value), k ≤ fs.length ∧ u = .int .i64 k ∧ Hid (putN s p r fs m k = some mk) ∧ Own wr w2.heap.size 48 #[c1, c2, c3, .int .i64 mk.c.hand, .int .i64 mk.g.count, .int .i64 mk.g.next, .int .i64 mk.g.round, c4, .int .i64 mk.sp] ∧ MaR wr c1 c2 c3 c4 mk ∧ Hid (0 < k → MaM (w.heap.size + 3) wr c1 c2 c3 c4 mk) ∧ Own wr (w.heap.size + 1) 61 #[.int .i64 s, .int .i64 p] ∧ Own wr (w.heap.size + 1 + 1) 48 #[.slice none 0 0, .slice none 0 0, .slice none 0 0, .int .i64 0, .int .i64 0, .int .i64 0, .int .i64 0, .slice none 0 0, .int .i64 0] ∧ Below w.heap.size w wr) (fun u _ => fs.length - (intOf u).toNat)
 case atStart => exact ⟨0, m, _, _, _, _, by omega, rfl, rfl, HO2.out, HM3.out, (fun h => absurd h (by omega)), HK3.out, HR3.out, HB3.out⟩
 case round =>
  obtain ⟨k, mk, c1, c2, c3, c4, hk, rfl, hput, hob, hmk, hmm, hkb, hrb, hbw⟩ := hrel
  have HOB := Hd hob
  have HMK := Hd hmk
  have HKB := Hd hkb
  have HRB := Hd hrb
  have HBW := Hd hbw
  clear hob hmk hkb hrb hbw
  by_cases hlt : k < fs.length
  ·obtain ⟨f, ef⟩ : ∃ f, fs[k]? = some f := ⟨_, List.getElem?_eq_getElem hlt⟩
   have hwk : IntKind.i64.wrap (p + (k : Int)) = p + k := IntWalk.i64_in _ (by omega)
   have EF := Hd ef
   have HC := Hd (PutRange1_any c1 c2 c3 c4 mk k s (p + k) f r gf gr A c fs wr HMK.out (HF.out.now HBW.out) ef (Nat.lt_of_lt_of_le hgf HBW.out.size) (Nat.lt_of_lt_of_le hgr HBW.out.size) ((HBW.out.cell (p := ⟨gf, 0, none⟩) hgf).trans hcf) ((HBW.out.cell (p := ⟨gr, 0, none⟩) hgr).trans hcr) (HRF.out.now (Nat.le_refl _) HBW.out) hi2)
   obtain ⟨p0y, p1y, p2y, p3y, p4y, p5y, p6y, p7y, p8y⟩ := cells9 HOB.out
   have q0 := HKB.out.cell_ 0 (v := .int .i64 s) rfl
   have q1 := HKB.out.cell_ 1 (v := .int .i64 p) rfl
   clear ef
   go_wp2_with fail
   refine HC.out.mono ?_
   rintro e w5 ⟨_, rfl, e1, e2, e3, e4, rfl, hM5, hb5⟩
   have hsw : w.heap.size + 3 ≤ wr.heap.size := Nat.le_trans hs2 (Nat.le_of_lt HOB.out.lt)
   have HM5 := Hd (hM5.mono hsw)
   obtain ⟨E1, n1, rfl, _⟩ := HM5.out.t.b
   obtain ⟨E2, n2, rfl, _⟩ := HM5.out.t.f
   obtain ⟨E3, n3, rfl, _⟩ := HM5.out.l
   obtain ⟨E4, n4, rfl, _⟩ := HM5.out.o
   have HOB5 := HOB.out.below hb5
   have hgl5 := HOB5.lt
   have hO6 := HOB5.alloc (o := .cells #[.slice E1 (putV mk s (p + k) f r).t.bs.length n1, .slice E2 (putV mk s (p + k) f r).t.fs.length n2, .slice E3 (putV mk s (p + k) f r).c.ls.length n3, .int .i64 (putV mk s (p + k) f r).c.hand, .int .i64 (putV mk s (p + k) f r).g.count, .int .i64 (putV mk s (p + k) f r).g.next, .int .i64 (putV mk s (p + k) f r).g.round, .slice E4 (putV mk s (p + k) f r).g.os.length n4, .int .i64 (putV mk s (p + k) f r).sp] 48)
   have hK6 := (HKB.out.below hb5).alloc (o := .cells #[.slice E1 (putV mk s (p + k) f r).t.bs.length n1, .slice E2 (putV mk s (p + k) f r).t.fs.length n2, .slice E3 (putV mk s (p + k) f r).c.ls.length n3, .int .i64 (putV mk s (p + k) f r).c.hand, .int .i64 (putV mk s (p + k) f r).g.count, .int .i64 (putV mk s (p + k) f r).g.next, .int .i64 (putV mk s (p + k) f r).g.round, .slice E4 (putV mk s (p + k) f r).g.os.length n4, .int .i64 (putV mk s (p + k) f r).sp] 48)
   have hR6 := (HRB.out.below hb5).alloc (o := .cells #[.slice E1 (putV mk s (p + k) f r).t.bs.length n1, .slice E2 (putV mk s (p + k) f r).t.fs.length n2, .slice E3 (putV mk s (p + k) f r).c.ls.length n3, .int .i64 (putV mk s (p + k) f r).c.hand, .int .i64 (putV mk s (p + k) f r).g.count, .int .i64 (putV mk s (p + k) f r).g.next, .int .i64 (putV mk s (p + k) f r).g.round, .slice E4 (putV mk s (p + k) f r).g.os.length n4, .int .i64 (putV mk s (p + k) f r).sp] 48)
   have hN6 := Own.new_ w5 48 #[.slice E1 (putV mk s (p + k) f r).t.bs.length n1, .slice E2 (putV mk s (p + k) f r).t.fs.length n2, .slice E3 (putV mk s (p + k) f r).c.ls.length n3, .int .i64 (putV mk s (p + k) f r).c.hand, .int .i64 (putV mk s (p + k) f r).g.count, .int .i64 (putV mk s (p + k) f r).g.next, .int .i64 (putV mk s (p + k) f r).g.round, .slice E4 (putV mk s (p + k) f r).g.os.length n4, .int .i64 (putV mk s (p + k) f r).sp]
   have hM6 := HM5.out.now (bA (bR (w := w5)) (o := .cells #[.slice E1 (putV mk s (p + k) f r).t.bs.length n1, .slice E2 (putV mk s (p + k) f r).t.fs.length n2, .slice E3 (putV mk s (p + k) f r).c.ls.length n3, .int .i64 (putV mk s (p + k) f r).c.hand, .int .i64 (putV mk s (p + k) f r).g.count, .int .i64 (putV mk s (p + k) f r).g.next, .int .i64 (putV mk s (p + k) f r).g.round, .slice E4 (putV mk s (p + k) f r).g.os.length n4, .int .i64 (putV mk s (p + k) f r).sp] 48))
   have hB6 := bA (bT HBW.out hb5) (o := .cells #[.slice E1 (putV mk s (p + k) f r).t.bs.length n1, .slice E2 (putV mk s (p + k) f r).t.fs.length n2, .slice E3 (putV mk s (p + k) f r).c.ls.length n3, .int .i64 (putV mk s (p + k) f r).c.hand, .int .i64 (putV mk s (p + k) f r).g.count, .int .i64 (putV mk s (p + k) f r).g.next, .int .i64 (putV mk s (p + k) f r).g.round, .slice E4 (putV mk s (p + k) f r).g.os.length n4, .int .i64 (putV mk s (p + k) f r).sp] 48)
   clear p0y p1y p2y p3y p4y p5y p6y p7y p8y q0 q1 hM5 hb5 HOB5
   have hne1 : w2.heap.size ≠ w5.heap.size := by omega
   generalize hW6 : w5.alloc (.cells #[.slice E1 (putV mk s (p + k) f r).t.bs.length n1, .slice E2 (putV mk s (p + k) f r).t.fs.length n2, .slice E3 (putV mk s (p + k) f r).c.ls.length n3, .int .i64 (putV mk s (p + k) f r).c.hand, .int .i64 (putV mk s (p + k) f r).g.count, .int .i64 (putV mk s (p + k) f r).g.next, .int .i64 (putV mk s (p + k) f r).g.round, .slice E4 (putV mk s (p + k) f r).g.os.length n4, .int .i64 (putV mk s (p + k) f r).sp] 48) = w6 at *
   have HO6 := Hd hO6
   have HK6 := Hd hK6
   have HR6 := Hd hR6
   have HN6 := Hd hN6
   have HM6 := Hd hM6
   have HB6 := Hd hB6
   clear hO6 hK6 hR6 hN6 hM6 hB6
   have hl6 := HO6.out.lt
   have hl7 := HR6.out.lt
   have hl8 := HN6.out.lt
   cases hok : putOK mk s (p + k) f r with
   | false =>
    have HO : Hid (prgO m s p fs r = none) := by show _ = _; rw [prgO_yes h1 hi1 hi2]; exact putN_none (putN_bad hput.out EF.out hok) (by omega)
    have HA : Hid ((prgO m s p fs r).isSome = false) := by show _ = _; rw [HO.out]; rfl
    have HV : Hid (prgV m s p fs r = maz) := by show _ = _; unfold prgV; rw [HO.out]; rfl
    obtain ⟨r0x, r1x, r2x, r3x, r4x, r5x, r6x, r7x, r8x⟩ := cells9 HR6.out
    obtain ⟨z0x, z1x, z2x, z3x, z4x, z5x, z6x, z7x, z8x⟩ := free9 HR6.out
    go_wp2
    obtain ⟨t0, t1, t2, t3, t4, t5, t6, t7, t8⟩ := cells9 (set9z HR6.out)
    refine bodyPost_ret (v := .tuple #[.agg #[.slice none 0 0, .slice none 0 0, .slice none 0 0, .int .i64 0, .int .i64 0, .int .i64 0, .int .i64 0, .slice none 0 0, .int .i64 0], .bool false]) (by simp [results, Tryz.results97, go_sem, t0, t1, t2, t3, t4, t5, t6, t7, t8]) rfl ⟨_, rfl, _, _, _, _, by rw [HA.out, HV.out]; rfl, by rw [HV.out]; exact mam_z, ?_⟩
    repeat (refine bS ?_ (by simp <;> omega))
    exact HB6.out
   | true =>
    have HPUT := Hd (putN_step hput.out EF.out hok)
    obtain ⟨p0z, p1z, p2z, p3z, p4z, p5z, p6z, p7z, p8z⟩ := cells9 HO6.out
    obtain ⟨w0z, w1z, w2z, w3z, w4z, w5z, w6z, w7z, w8z⟩ := free9 HO6.out
    obtain ⟨p0n, p1n, p2n, p3n, p4n, p5n, p6n, p7n, p8n⟩ := cells9 HN6.out
    go_wp2
    go_roundw
    case rel =>
     refine ⟨k + 1, putV mk s (p + k) f r, _, _, _, _, by omega, by go_num, HPUT, HO6.out.set9 _ _ _ _ _ _ _ _ _, (HM6.out.far9 HO6.out _ _ _ _ _ _ _ _ _).r, (fun _ => HM6.out.far9 HO6.out _ _ _ _ _ _ _ _ _), HK6.out.far9 (by omega) _ _ _ _ _ _ _ _ _, HR6.out.far9 (by omega) _ _ _ _ _ _ _ _ _, ?_⟩
     repeat (refine bS ?_ (by simp <;> omega))
     exact HB6.out
    case measure => simp [intOf]; omega
  ·obtain rfl : k = fs.length := by omega
   have HO : Hid (prgO m s p fs r = some mk) := by show _ = _; rw [prgO_yes h1 hi1 hi2]; exact hput.out
   have HA : Hid ((prgO m s p fs r).isSome = true) := by show _ = _; rw [HO.out]; rfl
   have HV : Hid (prgV m s p fs r = mk) := by show _ = _; unfold prgV; rw [HO.out]; rfl
   have HMM := Hd (hmm.out (by omega))
   obtain ⟨C1, n1, rfl, _⟩ := HMM.out.t.b
   obtain ⟨C2, n2, rfl, _⟩ := HMM.out.t.f
   obtain ⟨C3, n3, rfl, _⟩ := HMM.out.l
   obtain ⟨C4, n4, rfl, _⟩ := HMM.out.o
   obtain ⟨p0z, p1z, p2z, p3z, p4z, p5z, p6z, p7z, p8z⟩ := cells9 HOB.out
   obtain ⟨r0x, r1x, r2x, r3x, r4x, r5x, r6x, r7x, r8x⟩ := cells9 HRB.out
   obtain ⟨z0x, z1x, z2x, z3x, z4x, z5x, z6x, z7x, z8x⟩ := free9 HRB.out
   have hgl := HOB.out.lt
   have hrl := HRB.out.lt
   go_wp2
   have o3 := HRB.out.set9 (.slice C1 mk.t.bs.length n1) (.slice C2 mk.t.fs.length n2) (.slice C3 mk.c.ls.length n3) (.int .i64 mk.c.hand) (.int .i64 mk.g.count) (.int .i64 mk.g.next) (.int .i64 mk.g.round) (.slice C4 mk.g.os.length n4) (.int .i64 mk.sp)
   obtain ⟨p0t, p1t, p2t, p3t, p4t, p5t, p6t, p7t, p8t⟩ := cells9 o3
   refine bodyPost_ret (v := .tuple #[.agg #[.slice C1 mk.t.bs.length n1, .slice C2 mk.t.fs.length n2, .slice C3 mk.c.ls.length n3, .int .i64 mk.c.hand, .int .i64 mk.g.count, .int .i64 mk.g.next, .int .i64 mk.g.round, .slice C4 mk.g.os.length n4, .int .i64 mk.sp], .bool true]) (by simp [results, Tryz.results97, go_sem, p0t, p1t, p2t, p3t, p4t, p5t, p6t, p7t, p8t]) rfl ⟨_, rfl, _, _, _, _, by rw [HA.out, HV.out], ?_, ?_⟩
   ·rw [HV.out]
    exact (HMM.out.far9 HRB.out _ _ _ _ _ _ _ _ _).mono (by omega)
   ·repeat (refine bS ?_ (by simp <;> omega))
    exact HBW.out
end Go.Proofs.YtibpnlojlfcpmaaGreatDoor
