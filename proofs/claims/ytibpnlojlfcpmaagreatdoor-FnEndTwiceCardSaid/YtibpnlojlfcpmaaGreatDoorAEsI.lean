/- A part of the proofs of this seat: EsI. -/
import Derived.Deep.CutRange
import Derived.Deep.LoopGhost
import Derived.Test.YtibpnlojlfcpmaaGreatDoorALvT
set_option linter.unusedVariables false
set_option linter.unusedSimpArgs false
set_option maxRecDepth 1000000
namespace Go.Proofs.YtibpnlojlfcpmaaGreatDoor
open Go.RowKit
theorem list_at {α : Type} {l : List α} {k : Nat} {x : α} (h : l[k]? = some x) : l = l.take k ++ x :: l.drop (k + 1) ∧ l.take (k + 1) = l.take k ++ [x] := by
 obtain ⟨hk, e⟩ := List.getElem?_eq_some_iff.1 h
 refine ⟨?_, by rw [List.take_add_one, h]; rfl⟩
 conv => lhs; rw [← List.take_append_drop k l, List.drop_eq_getElem_cons hk, e]
theorem ks_far {w : World} {A : Option Addr} {l : List Key} {g i : Nat} {u : Value} (h : Ks w.heap.size w A l) (hne : ∀ b o, A = some ⟨b, o, none⟩ → b ≠ g) : Ks (w.setCell ⟨g, i, none⟩ u).heap.size (w.setCell ⟨g, i, none⟩ u) A l := by
 refine ⟨h.len, fun hn => ?_⟩
 obtain ⟨b, o, e, hb, hc⟩ := h.at_ hn
 refine ⟨b, o, e, by simpa using hb, fun j v hj => ?_⟩
 refine (World.cell?_setCell_other _ _ _ _ (fun h => ?_)).trans (hc j v hj)
 injection h with h1 _ _
 first
  | exact hne b o e h1
  | exact hne b o e h1.symm
theorem ks_far9 {w : World} {A : Option Addr} {l : List Key} {g : Nat} (h : Ks w.heap.size w A l) (hne : ∀ b o, A = some ⟨b, o, none⟩ → b ≠ g) (u0 u1 u2 u3 u4 u5 u6 u7 u8 : Value) :
  Ks (((((((((w.setCell ⟨g, 0, none⟩ u0).setCell ⟨g, 1, none⟩ u1).setCell ⟨g, 2, none⟩ u2).setCell ⟨g, 3, none⟩ u3).setCell ⟨g, 4, none⟩ u4).setCell ⟨g, 5, none⟩ u5).setCell ⟨g, 6, none⟩ u6).setCell ⟨g, 7, none⟩ u7).setCell ⟨g, 8, none⟩ u8).heap.size (((((((((w.setCell ⟨g, 0, none⟩ u0).setCell ⟨g, 1, none⟩ u1).setCell ⟨g, 2, none⟩ u2).setCell ⟨g, 3, none⟩ u3).setCell ⟨g, 4, none⟩ u4).setCell ⟨g, 5, none⟩ u5).setCell ⟨g, 6, none⟩ u6).setCell ⟨g, 7, none⟩ u7).setCell ⟨g, 8, none⟩ u8) A l :=
 ks_far (ks_far (ks_far (ks_far (ks_far (ks_far (ks_far (ks_far (ks_far h hne) hne) hne) hne) hne) hne) hne) hne) hne
set_option maxHeartbeats 4000000 in
theorem EndSpace_any (vb vf vl vo : Value) (m : Ma) (s : Int) (w : World) (hM : MaR w vb vf vl vo m) (hfree : Free w) :
  Calls Tryz.prog 27 #[.agg #[vb, vf, vl, .int .i64 m.c.hand, .int .i64 m.g.count, .int .i64 m.g.next, .int .i64 m.g.round, vo, .int .i64 m.sp], .int .i64 s] w (Post2 fun v w' => ∃ v1 v2 v3 v4, v = .tuple #[.agg #[v1, v2, v3, .int .i64 (endV m s).c.hand, .int .i64 (endV m s).g.count, .int .i64 (endV m s).g.next, .int .i64 (endV m s).g.round, v4, .int .i64 (endV m s).sp], .bool (endO m s)] ∧ MaM w.heap.size w' v1 v2 v3 v4 (endV m s) ∧ Below w.heap.size w w') := by
 obtain ⟨W0, hW, hbx, hbo, hb0, hs0⟩ := box2 w #[vb, vf, vl, .int .i64 m.c.hand, .int .i64 m.g.count, .int .i64 m.g.next, .int .i64 m.g.round, vo, .int .i64 m.sp] 48 #[.slice none 0 0, .slice none 0 0, .slice none 0 0, .int .i64 0, .int .i64 0, .int .i64 0, .int .i64 0, .slice none 0 0, .int .i64 0] 48
 obtain ⟨m0q, m1q, m2q, m3q, m4q, m5q, m6q, m7q, m8q⟩ := cells9 hbx
 have HX0 := Hd hbx
 have HO0 := Hd hbo
 have HB0 := Hd hb0
 have HM := Hd hM
 clear hbx hbo hb0 hM
 clear m0q m1q m2q m3q m4q m5q m6q m7q m8q
 have HF := Hd hfree
 clear hfree
 obtain ⟨m00, m10, m20, m30, m40, m50, m60, m70, m80⟩ := cells9 HX0.out
 go_enter Tryz.func27, Tryz.ntmps27
 go_wp2_with fail
 refine (MachineValid_any vb vf vl vo m _ (HM.out.now HB0.out) (HF.out.now HB0.out)).mono ?_
 rintro e w1 ⟨rfl, hb1⟩
 have HX1 := Hd (HX0.out.below hb1)
 have HO1 := Hd (HO0.out.below hb1)
 have HB1 := Hd (bT HB0.out hb1)
 have hs1 : w.heap.size + 2 ≤ w1.heap.size := by have := hb1.size; omega
 clear m00 m10 m20 m30 m40 m50 m60 m70 m80
 clear hb1
 cases h1 : mav m with
 | false =>
  have HA : Hid (endO m s = false) := by show _ = _; unfold endO; rw [h1]; rfl
  have HV := Hd (endO_no HA.out)
  obtain ⟨r0x, r1x, r2x, r3x, r4x, r5x, r6x, r7x, r8x⟩ := cells9 HO1.out
  obtain ⟨z0x, z1x, z2x, z3x, z4x, z5x, z6x, z7x, z8x⟩ := free9 HO1.out
  have hlr := HO1.out.lt
  go_wp2
  obtain ⟨t0, t1, t2, t3, t4, t5, t6, t7, t8⟩ := cells9 (set9z HO1.out)
  refine bodyPost_ret (v := .tuple #[.agg #[.slice none 0 0, .slice none 0 0, .slice none 0 0, .int .i64 0, .int .i64 0, .int .i64 0, .int .i64 0, .slice none 0 0, .int .i64 0], .bool false]) (by simp [results, Tryz.results27, go_sem, t0, t1, t2, t3, t4, t5, t6, t7, t8]) rfl ⟨_, rfl, _, _, _, _, by rw [HA.out, HV.out]; rfl, by rw [HV.out]; exact mam_z, ?_⟩
  repeat (refine bS ?_ (by simp <;> omega))
  exact HB1.out
 | true =>
 have m8 := HX1.out.cell_ 8 (v := .int .i64 m.sp) rfl
 by_cases h2 : s < 1
 ·have HA : Hid (endO m s = false) := by show _ = _; unfold endO; rw [decide_eq_false (show ¬ 1 ≤ s by omega)]; simp
  have HV := Hd (endO_no HA.out)
  obtain ⟨r0x, r1x, r2x, r3x, r4x, r5x, r6x, r7x, r8x⟩ := cells9 HO1.out
  obtain ⟨z0x, z1x, z2x, z3x, z4x, z5x, z6x, z7x, z8x⟩ := free9 HO1.out
  have hlr := HO1.out.lt
  go_wp2
  obtain ⟨t0, t1, t2, t3, t4, t5, t6, t7, t8⟩ := cells9 (set9z HO1.out)
  refine bodyPost_ret (v := .tuple #[.agg #[.slice none 0 0, .slice none 0 0, .slice none 0 0, .int .i64 0, .int .i64 0, .int .i64 0, .int .i64 0, .slice none 0 0, .int .i64 0], .bool false]) (by simp [results, Tryz.results27, go_sem, t0, t1, t2, t3, t4, t5, t6, t7, t8]) rfl ⟨_, rfl, _, _, _, _, by rw [HA.out, HV.out]; rfl, by rw [HV.out]; exact mam_z, ?_⟩
  repeat (refine bS ?_ (by simp <;> omega))
  exact HB1.out
 by_cases h3 : 16 ≤ s
 ·have HA : Hid (endO m s = false) := by show _ = _; unfold endO; rw [decide_eq_false (show ¬ s < 16 by omega)]; simp
  have HV := Hd (endO_no HA.out)
  obtain ⟨r0x, r1x, r2x, r3x, r4x, r5x, r6x, r7x, r8x⟩ := cells9 HO1.out
  obtain ⟨z0x, z1x, z2x, z3x, z4x, z5x, z6x, z7x, z8x⟩ := free9 HO1.out
  have hlr := HO1.out.lt
  go_wp2
  obtain ⟨t0, t1, t2, t3, t4, t5, t6, t7, t8⟩ := cells9 (set9z HO1.out)
  refine bodyPost_ret (v := .tuple #[.agg #[.slice none 0 0, .slice none 0 0, .slice none 0 0, .int .i64 0, .int .i64 0, .int .i64 0, .int .i64 0, .slice none 0 0, .int .i64 0], .bool false]) (by simp [results, Tryz.results27, go_sem, t0, t1, t2, t3, t4, t5, t6, t7, t8]) rfl ⟨_, rfl, _, _, _, _, by rw [HA.out, HV.out]; rfl, by rw [HV.out]; exact mam_z, ?_⟩
  repeat (refine bS ?_ (by simp <;> omega))
  exact HB1.out
 by_cases h4 : s = m.sp
 ·have HA : Hid (endO m s = false) := by show _ = _; unfold endO; rw [decide_eq_true h4]; simp
  have HV := Hd (endO_no HA.out)
  have hbq : (s == m.sp) = true := by rw [beq_iff_eq]; exact h4
  have HS4 := Hd h4
  clear h4
  obtain ⟨r0x, r1x, r2x, r3x, r4x, r5x, r6x, r7x, r8x⟩ := cells9 HO1.out
  obtain ⟨z0x, z1x, z2x, z3x, z4x, z5x, z6x, z7x, z8x⟩ := free9 HO1.out
  have hlr := HO1.out.lt
  go_wp2
  obtain ⟨t0, t1, t2, t3, t4, t5, t6, t7, t8⟩ := cells9 (set9z HO1.out)
  refine bodyPost_ret (v := .tuple #[.agg #[.slice none 0 0, .slice none 0 0, .slice none 0 0, .int .i64 0, .int .i64 0, .int .i64 0, .int .i64 0, .slice none 0 0, .int .i64 0], .bool false]) (by simp [results, Tryz.results27, go_sem, t0, t1, t2, t3, t4, t5, t6, t7, t8]) rfl ⟨_, rfl, _, _, _, _, by rw [HA.out, HV.out]; rfl, by rw [HV.out]; exact mam_z, ?_⟩
  repeat (refine bS ?_ (by simp <;> omega))
  exact HB1.out
 have hbq : (s == m.sp) = false := by rw [beq_eq_false_iff_ne]; exact h4
 have HA : Hid (endO m s = true) := by show _ = _; unfold endO; rw [h1, decide_eq_true (show 1 ≤ s by omega), decide_eq_true (show s < 16 by omega), decide_eq_false h4]; rfl
 clear h4
 obtain ⟨a1, a2, a3, a4⟩ := mav_len h1
 have hkp := kys_perm (mav_parts h1).1
 have hkl : (kys m.t).length ≤ 16 := by have := kys_len m.t; have := ((tv_parts (mav_parts h1).1).1).2.1; omega
 have HMV := Hd h1
 have HKP := Hd hkp
 clear hkp h1 m8
 obtain ⟨m01, m11, m21, m31, m41, m51, m61, m71, m81⟩ := cells9 HX1.out
 go_wp2_with fail
 refine (mclone_any vb vf vl vo m _ (HM.out.now HB1.out) a1 a2 a3 a4).mono ?_
 rintro e w3 ⟨_, rfl, q1, q2, q3, q4, rfl, hM3, hb3⟩
 obtain ⟨B1, d1, rfl, _⟩ := hM3.t.b
 obtain ⟨B2, d2, rfl, _⟩ := hM3.t.f
 obtain ⟨B3, d3, rfl, _⟩ := hM3.l
 obtain ⟨B4, d4, rfl, _⟩ := hM3.o
 have HX3 := Hd (HX1.out.below hb3)
 have HO3 := Hd (HO1.out.below hb3)
 have HB3 := Hd (bT HB1.out hb3)
 have hs3 : w1.heap.size ≤ w3.heap.size := hb3.size
 have hu4 := Own.new_ w3 48 #[.slice B1 m.t.bs.length d1, .slice B2 m.t.fs.length d2, .slice B3 m.c.ls.length d3, .int .i64 m.c.hand, .int .i64 m.g.count, .int .i64 m.g.next, .int .i64 m.g.round, .slice B4 m.g.os.length d4, .int .i64 m.sp]
 have hb4 : Below w3.heap.size w3 (w3.alloc (.cells #[.slice B1 m.t.bs.length d1, .slice B2 m.t.fs.length d2, .slice B3 m.c.ls.length d3, .int .i64 m.c.hand, .int .i64 m.g.count, .int .i64 m.g.next, .int .i64 m.g.round, .slice B4 m.g.os.length d4, .int .i64 m.sp] 48)) := bA bR
 generalize hW4 : w3.alloc (.cells #[.slice B1 m.t.bs.length d1, .slice B2 m.t.fs.length d2, .slice B3 m.c.ls.length d3, .int .i64 m.c.hand, .int .i64 m.g.count, .int .i64 m.g.next, .int .i64 m.g.round, .slice B4 m.g.os.length d4, .int .i64 m.sp] 48) = w4 at hu4 hb4
 have HX4 := Hd (HX3.out.below hb4)
 have HO4 := Hd (HO3.out.below hb4)
 have HB4 := Hd (bT HB3.out hb4)
 have HM4 := Hd ((hM3.now hb4).mono (show w.heap.size + 2 ≤ w1.heap.size by omega))
 have HU4 := Hd hu4
 clear m01 m11 m21 m31 m41 m51 m61 m71 m81
 clear hM3 hb3 hb4 hu4
 go_upto_region 4 with fail
 try rw [hW4]
 clear hW4
 obtain ⟨m04, m14, m24, m34, m44, m54, m64, m74, m84⟩ := cells9 HX4.out
 go_wp2_with fail
 refine (KeysOf_imp vb vf m.t _ (HM.out.now HB4.out).t (HF.out.now HB4.out)).mono ?_
 rintro e w5 ⟨_, rfl, K, kc, rfl, hkc, ⟨hks, hkn⟩, hb5⟩
 have HKN : Hid (∀ b o, K = some ⟨b, o, none⟩ → b ≠ w3.heap.size) := Hd (fun b o h => by have := hkn b o h; have := HU4.out.lt; omega)
 clear hkn
 have HX5 := Hd (HX4.out.below hb5)
 have HO5 := Hd (HO4.out.below hb5)
 have HB5 := Hd (bT HB4.out hb5)
 have HU5 := Hd (HU4.out.below hb5)
 have HM5 := Hd (HM4.out.now hb5)
 have HKS := Hd hks
 clear m04 m14 m24 m34 m44 m54 m64 m74 m84
 clear hb5 hks HX5 HX4 HX3 HX1 HX0 HO4 HO3 HU4 HM4 HM
 go_wp2
 go_loopw [37] (fun u wr => ∃ (k : Nat) (z : Ma) (c1 c2 c3 c4 : Value), k ≤ (kys m.t).length ∧ u = .int .i64 k ∧ Hid (z = takL s (pgs s ((kys m.t).take k)) m) ∧ Own wr w3.heap.size 48 #[c1, c2, c3, .int .i64 z.c.hand, .int .i64 z.g.count, .int .i64 z.g.next, .int .i64 z.g.round, c4, .int .i64 z.sp] ∧ MaM (w.heap.size + 2) wr c1 c2 c3 c4 z ∧ Own wr (w.heap.size + 1) 48 #[.slice none 0 0, .slice none 0 0, .slice none 0 0, .int .i64 0, .int .i64 0, .int .i64 0, .int .i64 0, .slice none 0 0, .int .i64 0] ∧ Below w.heap.size w wr ∧ Ks wr.heap.size wr K (kys m.t)) (fun u _ => (kys m.t).length - (intOf u).toNat)
 case atStart => exact ⟨0, m, _, _, _, _, by omega, rfl, rfl, HU5.out, HM5.out, HO5.out, HB5.out, HKS.out⟩
 case round =>
  obtain ⟨k, z, v1, v2, v3, v4, hk, rfl, hz, hu, hmm, ho, hb, hkr⟩ := hrel
  clear HU5 HM5 HO5 HB5 HKS
  by_cases hlt : k < (kys m.t).length
  ·have hki : (k : Int) < ((kys m.t).length : Int) := by omega
   have hk0 : (0 : Int) ≤ (k : Int) := by omega
   obtain ⟨bq, oq, x, y, rfl, hbq2, y0, y1, e1⟩ := hkr.key2 hlt
   obtain ⟨L1, L2⟩ := list_at e1
   have HL1 := Hd L1
   have HL2 := Hd L2
   clear e1 L1 L2
   obtain ⟨wf, hWF, hf, hbf, _⟩ := box1 wr #[.int .i64 x, .int .i64 y] 61
   go_upto_region 7 with fail
   try rw [hWF]
   have HU := Hd (hu.below hbf)
   have HMM := Hd (hmm.now hbf)
   have HO := Hd (ho.below hbf)
   have HB := Hd (bT hb hbf)
   have HKR := Hd (hkr.now (Nat.le_refl _) hbf)
   have f0 := hf.cell_ 0 (v := .int .i64 x) rfl
   have f1 := hf.cell_ 1 (v := .int .i64 y) rfl
   clear hu hmm ho hb hkr hf hbf y0 y1 hWF
   by_cases hxs : x = s
   ·subst hxs
    have hEN := end_next HMV.out (s := x) (p := y) HKP.out HL1.out
    rw [← hz.out, ← HL2.out] at hEN
    obtain ⟨g1, g2⟩ := hEN
    have hsw : w.heap.size + 2 ≤ wf.heap.size := by have := HU.out.lt; omega
    obtain ⟨C1, n1, rfl, _⟩ := HMM.out.t.b
    obtain ⟨C2, n2, rfl, _⟩ := HMM.out.t.f
    obtain ⟨C3, n3, rfl, _⟩ := HMM.out.l
    obtain ⟨C4, n4, rfl, _⟩ := HMM.out.o
    have HTP := Hd (TakePage_any _ _ _ _ z x y wf HMM.out.r (HF.out.now HB.out))
    rw [g1] at HTP
    obtain ⟨Z, hZ⟩ : ∃ Z, takV z x y = Z := ⟨_, rfl⟩
    rw [hZ] at HTP g2
    have HZZ := Hd g2
    clear g1 g2 hZ
    obtain ⟨p0y, p1y, p2y, p3y, p4y, p5y, p6y, p7y, p8y⟩ := cells9 HU.out
    go_wp2_with fail
    refine HTP.out.mono ?_
    rintro e w9 ⟨_, rfl, u1, u2, u3, u4, rfl, hM9, hb9⟩
    clear p0y p1y p2y p3y p4y p5y p6y p7y p8y f0 f1 HTP
    obtain ⟨D1, e1, rfl, _⟩ := hM9.t.b
    obtain ⟨D2, e2, rfl, _⟩ := hM9.t.f
    obtain ⟨D3, e3, rfl, _⟩ := hM9.l
    obtain ⟨D4, e4, rfl, _⟩ := hM9.o
    obtain ⟨wX, hWX, hoX, hbX, _⟩ := box1 w9 #[.slice D1 Z.t.bs.length e1, .slice D2 Z.t.fs.length e2, .slice D3 Z.c.ls.length e3, .int .i64 Z.c.hand, .int .i64 Z.g.count, .int .i64 Z.g.next, .int .i64 Z.g.round, .slice D4 Z.g.os.length e4, .int .i64 Z.sp] 48
    have hbx := bT hb9 hbX
    replace HU := Hd (HU.out.below hbx)
    replace HO := Hd (HO.out.below hbx)
    replace HB := Hd (bT HB.out hbx)
    replace HKR := Hd (HKR.out.now (Nat.le_refl _) hbx)
    have HP := Hd hoX
    have HN := Hd ((hM9.now hbX).mono hsw)
    have hs9 := hb9.size
    clear hM9 hb9 hbX hbx hoX HMM
    go_upto_region 9 with fail
    try rw [hWX]
    clear hWX
    obtain ⟨p0p, p1p, p2p, p3p, p4p, p5p, p6p, p7p, p8p⟩ := cells9 HP.out
    obtain ⟨p0y, p1y, p2y, p3y, p4y, p5y, p6y, p7y, p8y⟩ := cells9 HU.out
    obtain ⟨w0y, w1y, w2y, w3y, w4y, w5y, w6y, w7y, w8y⟩ := free9 HU.out
    have hlu := HU.out.lt
    have hlp := HP.out.lt
    go_wp2
    go_roundw
    case rel =>
     refine ⟨k + 1, Z, _, _, _, _, by omega, by simp, HZZ.out.symm, HU.out.set9 _ _ _ _ _ _ _ _ _, HN.out.far9 HU.out _ _ _ _ _ _ _ _ _, HO.out.far9 (by omega) _ _ _ _ _ _ _ _ _, ?_, ?_⟩
     ·repeat (refine bS ?_ (by simp <;> omega))
      exact HB.out
     ·exact ks_far9 HKR.out HKN.out _ _ _ _ _ _ _ _ _
    case measure => simp [intOf]; omega
   ·have hb1 : (x == s) = false := by rw [beq_eq_false_iff_ne]; exact hxs
    have HZZ : Hid (z = takL s (pgs s ((kys m.t).take (k + 1))) m) := by show _ = _; rw [HL2.out, end_skip hxs]; exact hz.out
    clear hxs
    go_wp2
    go_roundw
    case rel => exact ⟨k + 1, z, _, _, _, _, by omega, by simp, HZZ, HU.out, HMM.out, HO.out, HB.out, HKR.out⟩
    case measure => simp [intOf]; omega
  ·obtain rfl : k = (kys m.t).length := by omega
   have hki : decide (((kys m.t).length : Int) < ((kys m.t).length : Int)) = false := by simp
   have HZE : Hid (z = endA m s) := by show _ = _; rw [hz.out, List.take_length]; exact end_all HMV.out HKP.out
   clear hz hkr
   have HZ : Hid (z = endA m s) := HZE
   have hzg : z.g = m.g := by rw [HZ.out]; exact (endA_state HMV.out s).g
   have HV0 : Hid (endV m s = { z with g := lvG m.g s }) := by show _ = _; rw [endV_at HA.out, HZ.out]
   have HU := Hd hu
   have HMM := Hd hmm
   have HO := Hd ho
   have HB := Hd hb
   clear hu hmm ho hb HZE
   obtain ⟨C1, n1, rfl, _⟩ := HMM.out.t.b
   obtain ⟨C2, n2, rfl, _⟩ := HMM.out.t.f
   obtain ⟨C3, n3, rfl, _⟩ := HMM.out.l
   obtain ⟨C4, n4, rfl, _⟩ := HMM.out.o
   have hle := fun W (h : SlR owE W (.slice C4 z.g.os.length n4) z.g.os) => LeaveTag_any (.slice C4 z.g.os.length n4) z.g s W h
   rw [hzg] at hle
   have HLE := Hd hle
   have HZG := Hd hzg
   clear hle hzg
   obtain ⟨p0y, p1y, p2y, p3y, p4y, p5y, p6y, p7y, p8y⟩ := cells9 HU.out
   rw [HZG.out] at p4y p5y p6y p7y
   go_wp2_with fail
   refine (HLE.out wr (by have h := HMM.out.r.o; rw [HZG.out] at h; exact h)).mono ?_
   rintro e w5 ⟨_, rfl, v4, rfl, hG5, hb5⟩
   clear p0y p1y p2y p3y p4y p5y p6y p7y p8y
   obtain ⟨A7, c7, rfl, _⟩ := id hG5
   generalize hLv : lvV m.g s = LG at *
   have hp6 := Own.new_ w5 46 #[.int .i64 LG.count, .int .i64 LG.next, .int .i64 LG.round, .slice A7 LG.os.length c7]
   have hb6 : Below w5.heap.size w5 (w5.alloc (.cells #[.int .i64 LG.count, .int .i64 LG.next, .int .i64 LG.round, .slice A7 LG.os.length c7] 46)) := bA bR
   generalize hW6 : w5.alloc (.cells #[.int .i64 LG.count, .int .i64 LG.next, .int .i64 LG.round, .slice A7 LG.os.length c7] 46) = w6 at hp6 hb6
   have hbx := bT hb5 hb6
   have HP := Hd hp6
   have hsw : w.heap.size + 2 ≤ wr.heap.size := by have := HU.out.lt; omega
   have HLG := Hd ((hG5.now hb6).mono hsw)
   replace HU := Hd (HU.out.below hbx)
   replace HMM := Hd (HMM.out.now hbx)
   replace HO := Hd (HO.out.below hbx)
   replace HB := Hd (bT HB.out hbx)
   have hlp := HP.out.lt
   have hlu := HU.out.lt
   have hlo := HO.out.lt
   clear hG5 hb5 hb6 hp6 hbx HLE
   cases htg : tgO m.g s with
   | false =>
    have HV : Hid (endV m s = z) := by
     show _ = _
     rw [HV0.out]
     unfold lvG
     rw [htg]
     simp only [Bool.false_eq_true, if_false]
     rw [← HZG.out]
    clear HV0 htg
    obtain ⟨r0x, r1x, r2x, r3x, r4x, r5x, r6x, r7x, r8x⟩ := cells9 HO.out
    obtain ⟨z0x, z1x, z2x, z3x, z4x, z5x, z6x, z7x, z8x⟩ := free9 HO.out
    obtain ⟨p0y, p1y, p2y, p3y, p4y, p5y, p6y, p7y, p8y⟩ := cells9 HU.out
    go_wp2
    have o3 := HO.out.set9 (.slice C1 z.t.bs.length n1) (.slice C2 z.t.fs.length n2) (.slice C3 z.c.ls.length n3) (.int .i64 z.c.hand) (.int .i64 z.g.count) (.int .i64 z.g.next) (.int .i64 z.g.round) (.slice C4 z.g.os.length n4) (.int .i64 z.sp)
    obtain ⟨p0t, p1t, p2t, p3t, p4t, p5t, p6t, p7t, p8t⟩ := cells9 o3
    refine bodyPost_ret (v := .tuple #[.agg #[.slice C1 z.t.bs.length n1, .slice C2 z.t.fs.length n2, .slice C3 z.c.ls.length n3, .int .i64 z.c.hand, .int .i64 z.g.count, .int .i64 z.g.next, .int .i64 z.g.round, .slice C4 z.g.os.length n4, .int .i64 z.sp], .bool true]) (by simp [results, Tryz.results27, go_sem, p0t, p1t, p2t, p3t, p4t, p5t, p6t, p7t, p8t]) rfl ⟨_, rfl, _, _, _, _, by rw [HA.out, HV.out], ?_, ?_⟩
    ·rw [HV.out]
     exact (HMM.out.far9 HO.out _ _ _ _ _ _ _ _ _).mono (by omega)
    ·repeat (refine bS ?_ (by simp <;> omega))
     exact HB.out
   | true =>
    have HV : Hid (endV m s = ⟨z.t, z.c, LG, z.sp⟩) := by
     show _ = _
     rw [HV0.out, ← hLv]
     unfold lvG lvV
     rw [htg]
     rfl
    clear HV0 htg hLv
    have s0 := HP.out.cell_ 0 (v := .int .i64 LG.count) rfl
    have s1 := HP.out.cell_ 1 (v := .int .i64 LG.next) rfl
    have s2 := HP.out.cell_ 2 (v := .int .i64 LG.round) rfl
    have s3 := HP.out.cell_ 3 (v := .slice A7 LG.os.length c7) rfl
    obtain ⟨p0y, p1y, p2y, p3y, p4y, p5y, p6y, p7y, p8y⟩ := cells9 HU.out
    have f4 := HU.out.free 4
    have f5 := HU.out.free 5
    have f6 := HU.out.free 6
    have f7 := HU.out.free 7
    have n9 : w.heap.size + 1 ≠ w3.heap.size := by omega
    have n8 : w3.heap.size ≠ w.heap.size + 1 := by omega
    have v1 := HU.out.set_ 4 (.int .i64 LG.count)
    have v2 := v1.set_ 5 (.int .i64 LG.next)
    have v3 := v2.set_ 6 (.int .i64 LG.round)
    have v4 := v3.set_ 7 (.slice A7 LG.os.length c7)
    have hm7 : MaM (w.heap.size + 2) w6 (.slice C1 z.t.bs.length n1) (.slice C2 z.t.fs.length n2) (.slice C3 z.c.ls.length n3) (.slice A7 LG.os.length c7) ⟨z.t, z.c, LG, z.sp⟩ := ⟨HMM.out.t, HMM.out.l, HLG.out⟩
    have HM8 := Hd ((((hm7.farT HU.out (i := 4) (u := .int .i64 LG.count)).farT v1 (i := 5) (u := .int .i64 LG.next)).farT v2 (i := 6) (u := .int .i64 LG.round)).farT v3 (i := 7) (u := .slice A7 LG.os.length c7))
    have HO8 := Hd ((((HO.out.far (p := ⟨w3.heap.size, 4, none⟩) (u := .int .i64 LG.count) n9).far (p := ⟨w3.heap.size, 5, none⟩) (u := .int .i64 LG.next) n9).far (p := ⟨w3.heap.size, 6, none⟩) (u := .int .i64 LG.round) n9).far (p := ⟨w3.heap.size, 7, none⟩) (u := .slice A7 LG.os.length c7) n9)
    have hww : w.heap.size ≤ w3.heap.size := by omega
    have HB8 := Hd (bS (bS (bS (bS HB.out (p := ⟨w3.heap.size, 4, none⟩) (u := .int .i64 LG.count) hww) (p := ⟨w3.heap.size, 5, none⟩) (u := .int .i64 LG.next) hww) (p := ⟨w3.heap.size, 6, none⟩) (u := .int .i64 LG.round) hww) (p := ⟨w3.heap.size, 7, none⟩) (u := .slice A7 LG.os.length c7) hww)
    have HU8 : Hid (Own ((((w6.setCell ⟨w3.heap.size, 4, none⟩ (.int .i64 LG.count)).setCell ⟨w3.heap.size, 5, none⟩ (.int .i64 LG.next)).setCell ⟨w3.heap.size, 6, none⟩ (.int .i64 LG.round)).setCell ⟨w3.heap.size, 7, none⟩ (.slice A7 LG.os.length c7)) w3.heap.size 48 #[.slice C1 z.t.bs.length n1, .slice C2 z.t.fs.length n2, .slice C3 z.c.ls.length n3, .int .i64 (⟨z.t, z.c, LG, z.sp⟩ : Ma).c.hand, .int .i64 (⟨z.t, z.c, LG, z.sp⟩ : Ma).g.count, .int .i64 (⟨z.t, z.c, LG, z.sp⟩ : Ma).g.next, .int .i64 (⟨z.t, z.c, LG, z.sp⟩ : Ma).g.round, .slice A7 LG.os.length c7, .int .i64 (⟨z.t, z.c, LG, z.sp⟩ : Ma).sp]) := Hd (by simpa using v4)
    clear v1 v2 v3 v4 hm7
    generalize hW8 : (((w6.setCell ⟨w3.heap.size, 4, none⟩ (.int .i64 LG.count)).setCell ⟨w3.heap.size, 5, none⟩ (.int .i64 LG.next)).setCell ⟨w3.heap.size, 6, none⟩ (.int .i64 LG.round)).setCell ⟨w3.heap.size, 7, none⟩ (.slice A7 LG.os.length c7) = w8 at HM8 HO8 HB8 HU8
    go_upto_region 16 with fail
    try rw [hW8]
    clear hW8 s0 s1 s2 s3 p0y p1y p2y p3y p4y p5y p6y p7y p8y f4 f5 f6 f7
    obtain ⟨r0x, r1x, r2x, r3x, r4x, r5x, r6x, r7x, r8x⟩ := cells9 HO8.out
    obtain ⟨z0x, z1x, z2x, z3x, z4x, z5x, z6x, z7x, z8x⟩ := free9 HO8.out
    obtain ⟨p0y, p1y, p2y, p3y, p4y, p5y, p6y, p7y, p8y⟩ := cells9 HU8.out
    have hlu8 := HU8.out.lt
    have hlo8 := HO8.out.lt
    go_wp2
    have o3 := HO8.out.set9 (.slice C1 z.t.bs.length n1) (.slice C2 z.t.fs.length n2) (.slice C3 z.c.ls.length n3) (.int .i64 z.c.hand) (.int .i64 LG.count) (.int .i64 LG.next) (.int .i64 LG.round) (.slice A7 LG.os.length c7) (.int .i64 z.sp)
    obtain ⟨p0t, p1t, p2t, p3t, p4t, p5t, p6t, p7t, p8t⟩ := cells9 o3
    refine bodyPost_ret (v := .tuple #[.agg #[.slice C1 z.t.bs.length n1, .slice C2 z.t.fs.length n2, .slice C3 z.c.ls.length n3, .int .i64 (⟨z.t, z.c, LG, z.sp⟩ : Ma).c.hand, .int .i64 (⟨z.t, z.c, LG, z.sp⟩ : Ma).g.count, .int .i64 (⟨z.t, z.c, LG, z.sp⟩ : Ma).g.next, .int .i64 (⟨z.t, z.c, LG, z.sp⟩ : Ma).g.round, .slice A7 LG.os.length c7, .int .i64 (⟨z.t, z.c, LG, z.sp⟩ : Ma).sp], .bool true]) (by simp [results, Tryz.results27, go_sem, p0t, p1t, p2t, p3t, p4t, p5t, p6t, p7t, p8t]) rfl ⟨_, rfl, _, _, _, _, by rw [HA.out, HV.out], ?_, ?_⟩
    ·rw [HV.out]
     exact (HM8.out.far9 HO8.out _ _ _ _ _ _ _ _ _).mono (by omega)
    ·repeat (refine bS ?_ (by simp <;> omega))
     exact HB8.out
theorem keysL_at {fs : List Fr} {k : Nat} {y : Fr} (h : fs[k]? = some y) (hu : y.used = true) : keysL fs = keysL (fs.take k) ++ (y.s, y.p) :: keysL (fs.drop (k + 1)) ∧ keysL (fs.take (k + 1)) = keysL (fs.take k) ++ [(y.s, y.p)] := by
 refine ⟨?_, by rw [keysL_take h, hu]; rfl⟩
 conv => lhs; rw [(list_at h).1]
 unfold keysL
 rw [List.filterMap_append, List.filterMap_cons]
 simp [hu]
set_option maxHeartbeats 4000000 in
theorem sEndSpace_any (vb vf vl vo : Value) (m : Ma) (s : Int) (w : World) (hM : MaR w vb vf vl vo m) :
  Calls Tryz.prog 28 #[.agg #[vb, vf, vl, .int .i64 m.c.hand, .int .i64 m.g.count, .int .i64 m.g.next, .int .i64 m.g.round, vo, .int .i64 m.sp], .int .i64 s] w (Post2 fun v w' => ∃ v1 v2 v3 v4, v = .tuple #[.agg #[v1, v2, v3, .int .i64 (endV m s).c.hand, .int .i64 (endV m s).g.count, .int .i64 (endV m s).g.next, .int .i64 (endV m s).g.round, v4, .int .i64 (endV m s).sp], .bool (endO m s)] ∧ MaM w.heap.size w' v1 v2 v3 v4 (endV m s) ∧ Below w.heap.size w w') := by
 obtain ⟨W0, hW, hbx, hbo, hb0, hs0⟩ := box2 w #[vb, vf, vl, .int .i64 m.c.hand, .int .i64 m.g.count, .int .i64 m.g.next, .int .i64 m.g.round, vo, .int .i64 m.sp] 48 #[.slice none 0 0, .slice none 0 0, .slice none 0 0, .int .i64 0, .int .i64 0, .int .i64 0, .int .i64 0, .slice none 0 0, .int .i64 0] 48
 obtain ⟨m0q, m1q, m2q, m3q, m4q, m5q, m6q, m7q, m8q⟩ := cells9 hbx
 have HX0 := Hd hbx
 have HO0 := Hd hbo
 have HB0 := Hd hb0
 have HM := Hd hM
 clear hbx hbo hb0 hM
 clear m0q m1q m2q m3q m4q m5q m6q m7q m8q
 obtain ⟨m00, m10, m20, m30, m40, m50, m60, m70, m80⟩ := cells9 HX0.out
 go_enter Tryz.func28, Tryz.ntmps28
 go_wp2_with fail
 refine (sMachineValid_any vb vf vl vo m _ (HM.out.now HB0.out)).mono ?_
 rintro e w1 ⟨rfl, hb1⟩
 have HX1 := Hd (HX0.out.below hb1)
 have HO1 := Hd (HO0.out.below hb1)
 have HB1 := Hd (bT HB0.out hb1)
 have hs1 : w.heap.size + 2 ≤ w1.heap.size := by have := hb1.size; omega
 clear m00 m10 m20 m30 m40 m50 m60 m70 m80
 clear hb1
 cases h1 : mav m with
 | false =>
  have HA : Hid (endO m s = false) := by show _ = _; unfold endO; rw [h1]; rfl
  have HV := Hd (endO_no HA.out)
  obtain ⟨r0x, r1x, r2x, r3x, r4x, r5x, r6x, r7x, r8x⟩ := cells9 HO1.out
  obtain ⟨z0x, z1x, z2x, z3x, z4x, z5x, z6x, z7x, z8x⟩ := free9 HO1.out
  have hlr := HO1.out.lt
  go_wp2
  obtain ⟨t0, t1, t2, t3, t4, t5, t6, t7, t8⟩ := cells9 (set9z HO1.out)
  refine bodyPost_ret (v := .tuple #[.agg #[.slice none 0 0, .slice none 0 0, .slice none 0 0, .int .i64 0, .int .i64 0, .int .i64 0, .int .i64 0, .slice none 0 0, .int .i64 0], .bool false]) (by simp [results, Tryz.results28, go_sem, t0, t1, t2, t3, t4, t5, t6, t7, t8]) rfl ⟨_, rfl, _, _, _, _, by rw [HA.out, HV.out]; rfl, by rw [HV.out]; exact mam_z, ?_⟩
  repeat (refine bS ?_ (by simp <;> omega))
  exact HB1.out
 | true =>
 have m8 := HX1.out.cell_ 8 (v := .int .i64 m.sp) rfl
 cases h2 : inR s 16 with
 | false =>
  have h2' : ¬ (0 ≤ s ∧ s < 16) := fun h => by rw [inR_iff.2 h] at h2; cases h2
  have HA : Hid (endO m s = false) := by
   show _ = _
   unfold endO
   by_cases hh : 1 ≤ s
   ·rw [decide_eq_false (show ¬ s < 16 by omega)]; simp
   ·rw [decide_eq_false hh]; simp
  have HV := Hd (endO_no HA.out)
  go_wp2_with fail
  refine (l1Space_any _ _).mono ?_
  rintro e w' ⟨rfl, rfl⟩
  rw [h2]
  clear h2 h2'
  obtain ⟨r0x, r1x, r2x, r3x, r4x, r5x, r6x, r7x, r8x⟩ := cells9 HO1.out
  obtain ⟨z0x, z1x, z2x, z3x, z4x, z5x, z6x, z7x, z8x⟩ := free9 HO1.out
  have hlr := HO1.out.lt
  go_wp2
  obtain ⟨t0, t1, t2, t3, t4, t5, t6, t7, t8⟩ := cells9 (set9z HO1.out)
  refine bodyPost_ret (v := .tuple #[.agg #[.slice none 0 0, .slice none 0 0, .slice none 0 0, .int .i64 0, .int .i64 0, .int .i64 0, .int .i64 0, .slice none 0 0, .int .i64 0], .bool false]) (by simp [results, Tryz.results28, go_sem, t0, t1, t2, t3, t4, t5, t6, t7, t8]) rfl ⟨_, rfl, _, _, _, _, by rw [HA.out, HV.out]; rfl, by rw [HV.out]; exact mam_z, ?_⟩
  repeat (refine bS ?_ (by simp <;> omega))
  exact HB1.out
 | true =>
 obtain ⟨h0, h16⟩ := inR_iff.1 h2
 go_wp2_with fail
 refine (l1Space_any _ _).mono ?_
 rintro e w' ⟨rfl, rfl⟩
 rw [h2]
 clear h2
 by_cases h4 : s = m.sp
 ·have HA : Hid (endO m s = false) := by show _ = _; unfold endO; rw [decide_eq_true h4]; simp
  have HV := Hd (endO_no HA.out)
  have hbq : (s == m.sp) = true := by rw [beq_iff_eq]; exact h4
  have HS4 := Hd h4
  clear h4
  obtain ⟨r0x, r1x, r2x, r3x, r4x, r5x, r6x, r7x, r8x⟩ := cells9 HO1.out
  obtain ⟨z0x, z1x, z2x, z3x, z4x, z5x, z6x, z7x, z8x⟩ := free9 HO1.out
  have hlr := HO1.out.lt
  go_wp2
  obtain ⟨t0, t1, t2, t3, t4, t5, t6, t7, t8⟩ := cells9 (set9z HO1.out)
  refine bodyPost_ret (v := .tuple #[.agg #[.slice none 0 0, .slice none 0 0, .slice none 0 0, .int .i64 0, .int .i64 0, .int .i64 0, .int .i64 0, .slice none 0 0, .int .i64 0], .bool false]) (by simp [results, Tryz.results28, go_sem, t0, t1, t2, t3, t4, t5, t6, t7, t8]) rfl ⟨_, rfl, _, _, _, _, by rw [HA.out, HV.out]; rfl, by rw [HV.out]; exact mam_z, ?_⟩
  repeat (refine bS ?_ (by simp <;> omega))
  exact HB1.out
 have hbq : (s == m.sp) = false := by rw [beq_eq_false_iff_ne]; exact h4
 by_cases h5 : s = 0
 ·have HA : Hid (endO m s = false) := by show _ = _; unfold endO; rw [decide_eq_false (show ¬ 1 ≤ s by omega)]; simp
  have HV := Hd (endO_no HA.out)
  have hbz : (s == 0) = true := by rw [beq_iff_eq]; exact h5
  have HS5 := Hd h5
  clear h4 h5
  obtain ⟨r0x, r1x, r2x, r3x, r4x, r5x, r6x, r7x, r8x⟩ := cells9 HO1.out
  obtain ⟨z0x, z1x, z2x, z3x, z4x, z5x, z6x, z7x, z8x⟩ := free9 HO1.out
  have hlr := HO1.out.lt
  go_wp2
  obtain ⟨t0, t1, t2, t3, t4, t5, t6, t7, t8⟩ := cells9 (set9z HO1.out)
  refine bodyPost_ret (v := .tuple #[.agg #[.slice none 0 0, .slice none 0 0, .slice none 0 0, .int .i64 0, .int .i64 0, .int .i64 0, .int .i64 0, .slice none 0 0, .int .i64 0], .bool false]) (by simp [results, Tryz.results28, go_sem, t0, t1, t2, t3, t4, t5, t6, t7, t8]) rfl ⟨_, rfl, _, _, _, _, by rw [HA.out, HV.out]; rfl, by rw [HV.out]; exact mam_z, ?_⟩
  repeat (refine bS ?_ (by simp <;> omega))
  exact HB1.out
 have hbz : (s == 0) = false := by rw [beq_eq_false_iff_ne]; exact h5
 have HA : Hid (endO m s = true) := by show _ = _; unfold endO; rw [h1, decide_eq_true (show 1 ≤ s by omega), decide_eq_true h16, decide_eq_false h4]; rfl
 clear h4 h5
 obtain ⟨a1, a2, a3, a4⟩ := mav_len h1
 have hfl : m.t.fs.length ≤ 16 := ((tv_parts (mav_parts h1).1).1).2.1
 have HMV := Hd h1
 clear h1 m8
 obtain ⟨Af, cf, rfl, hfc, hfm, hL⟩ := id HM.out.t.f
 have HLF := Hd hL
 clear hL hfm
 obtain ⟨m0, m1, m2, m3, m4, m5, m6, m7, m8⟩ := cells9 HX1.out
 go_wp2_with fail
 refine (l6Copy_any vb (.slice Af m.t.fs.length cf) vl vo m _ (HM.out.now HB1.out) a1 a2 a3 a4).mono ?_
 rintro e w3 ⟨_, rfl, q1, q2, q3, q4, rfl, hM3, hb3⟩
 obtain ⟨B1, d1, rfl, _⟩ := hM3.t.b
 obtain ⟨B2, d2, rfl, _⟩ := hM3.t.f
 obtain ⟨B3, d3, rfl, _⟩ := hM3.l
 obtain ⟨B4, d4, rfl, _⟩ := hM3.o
 have HX3 := Hd (HX1.out.below hb3)
 have HO3 := Hd (HO1.out.below hb3)
 have HB3 := Hd (bT HB1.out hb3)
 have hs3 : w1.heap.size ≤ w3.heap.size := hb3.size
 have hu4 := Own.new_ w3 48 #[.slice B1 m.t.bs.length d1, .slice B2 m.t.fs.length d2, .slice B3 m.c.ls.length d3, .int .i64 m.c.hand, .int .i64 m.g.count, .int .i64 m.g.next, .int .i64 m.g.round, .slice B4 m.g.os.length d4, .int .i64 m.sp]
 have hb4 : Below w3.heap.size w3 (w3.alloc (.cells #[.slice B1 m.t.bs.length d1, .slice B2 m.t.fs.length d2, .slice B3 m.c.ls.length d3, .int .i64 m.c.hand, .int .i64 m.g.count, .int .i64 m.g.next, .int .i64 m.g.round, .slice B4 m.g.os.length d4, .int .i64 m.sp] 48)) := bA bR
 generalize hW4 : w3.alloc (.cells #[.slice B1 m.t.bs.length d1, .slice B2 m.t.fs.length d2, .slice B3 m.c.ls.length d3, .int .i64 m.c.hand, .int .i64 m.g.count, .int .i64 m.g.next, .int .i64 m.g.round, .slice B4 m.g.os.length d4, .int .i64 m.sp] 48) = w4 at hu4 hb4
 have HX4 := Hd (HX3.out.below hb4)
 have HO4 := Hd (HO3.out.below hb4)
 have HB4 := Hd (bT HB3.out hb4)
 have HM4 := Hd ((hM3.now hb4).mono (show w.heap.size + 2 ≤ w1.heap.size by omega))
 have HU4 := Hd hu4
 have hx4 := HX4.out.cell_ 1 (v := .slice Af m.t.fs.length cf) rfl
 clear hM3 hb3 hb4 hu4 m0 m1 m2 m3 m4 m5 m6 m7 m8
 go_upto_region 4 with fail
 try rw [hW4]
 clear hW4
 go_wp2
 go_loopw [7] (fun u wr => ∃ (k : Nat) (z : Ma) (c1 c2 c3 c4 : Value), k ≤ m.t.fs.length ∧ u = .int .i64 k ∧ Hid (z = takL s (pgs s (keysL (m.t.fs.take k))) m) ∧ Own wr w3.heap.size 48 #[c1, c2, c3, .int .i64 z.c.hand, .int .i64 z.g.count, .int .i64 z.g.next, .int .i64 z.g.round, c4, .int .i64 z.sp] ∧ MaM (w.heap.size + 2) wr c1 c2 c3 c4 z ∧ Own wr (w.heap.size + 1) 48 #[.slice none 0 0, .slice none 0 0, .slice none 0 0, .int .i64 0, .int .i64 0, .int .i64 0, .int .i64 0, .slice none 0 0, .int .i64 0] ∧ Below w.heap.size w wr ∧ Own wr w.heap.size 48 #[vb, .slice Af m.t.fs.length cf, vl, .int .i64 m.c.hand, .int .i64 m.g.count, .int .i64 m.g.next, .int .i64 m.g.round, vo, .int .i64 m.sp]) (fun u _ => m.t.fs.length - (intOf u).toNat)
 case atStart => exact ⟨0, m, _, _, _, _, by omega, rfl, rfl, HU4.out, HM4.out, HO4.out, HB4.out, HX4.out⟩
 case round =>
  obtain ⟨k, z, v1, v2, v3, v4, hk, rfl, hz, hu, hmm, ho, hb, hx⟩ := hrel
  clear HU4 HM4 HO4 HB4 HX4 HX3 HX1 HX0 hx4
  by_cases hlt : k < m.t.fs.length
  ·have hki : (k : Int) < (m.t.fs.length : Int) := by omega
   have hk0 : (0 : Int) ≤ (k : Int) := by omega
   obtain ⟨y, ey⟩ : ∃ y, m.t.fs[k]? = some y := ⟨_, List.getElem?_eq_getElem hlt⟩
   obtain ⟨bq, oq, rfl, hbq2, y0, y1, y2, y3, y4⟩ := (HLF.out.now (Nat.le_refl _) hb).fr ey
   have HEY := Hd ey
   clear ey
   obtain ⟨wf, hWF, hf, hbf, _⟩ := box1 wr #[.bool y.used, .int .i64 y.s, .int .i64 y.p, .int .i64 y.r, .int .i64 y.n] 66
   have x1 := hx.cell_ 1 (v := .slice (some ⟨bq, oq, none⟩) m.t.fs.length cf) rfl
   go_upto_region 8 with fail
   try rw [hWF]
   have HU := Hd (hu.below hbf)
   have HMM := Hd (hmm.now hbf)
   have HO := Hd (ho.below hbf)
   have HB := Hd (bT hb hbf)
   have HX := Hd (hx.below hbf)
   have f0 := hf.cell_ 0 (v := .bool y.used) rfl
   have f1 := hf.cell_ 1 (v := .int .i64 y.s) rfl
   have f2 := hf.cell_ 2 (v := .int .i64 y.p) rfl
   clear hu hmm ho hb hx hf hbf y0 y1 y2 y3 y4 x1 hWF
   cases hyu : y.used with
   | false =>
    have HZZ : Hid (z = takL s (pgs s (keysL (m.t.fs.take (k + 1)))) m) := by show _ = _; rw [keysL_take HEY.out, hyu]; simpa using hz.out
    rw [hyu] at f0
    clear hyu
    go_wp2
    go_roundw
    case rel => exact ⟨k + 1, z, _, _, _, _, by omega, by simp, HZZ, HU.out, HMM.out, HO.out, HB.out, HX.out⟩
    case measure => simp [intOf]; omega
   | true =>
   rw [hyu] at f0
   obtain ⟨L1, L2⟩ := keysL_at HEY.out hyu
   have HL1 := Hd L1
   have HL2 := Hd L2
   clear L1 L2 hyu
   by_cases hxs : y.s = s
   ·have HYS := Hd hxs
    have hb1 : (y.s == s) = true := by rw [beq_iff_eq]; exact hxs
    have hEN := end_next HMV.out (s := y.s) (p := y.p) (List.Perm.refl _) HL1.out
    rw [← HL2.out] at hEN
    rw [hxs] at hEN
    rw [← hz.out] at hEN
    obtain ⟨g1, g2⟩ := hEN
    have hsw : w.heap.size + 2 ≤ wf.heap.size := by have := HU.out.lt; omega
    obtain ⟨C1, n1, rfl, _⟩ := HMM.out.t.b
    obtain ⟨C2, n2, rfl, _⟩ := HMM.out.t.f
    obtain ⟨C3, n3, rfl, _⟩ := HMM.out.l
    obtain ⟨C4, n4, rfl, _⟩ := HMM.out.o
    have htp := sTakePage_any _ _ _ _ z s y.p wf HMM.out.r
    rw [g1] at htp
    obtain ⟨Z, hZ⟩ : ∃ Z, takV z s y.p = Z := ⟨_, rfl⟩
    rw [hZ] at htp g2
    rw [show s = y.s from hxs.symm] at htp
    have HTP := Hd htp
    have HZZ := Hd g2
    clear g1 g2 hZ hxs htp
    obtain ⟨p0y, p1y, p2y, p3y, p4y, p5y, p6y, p7y, p8y⟩ := cells9 HU.out
    go_wp2_with fail
    refine HTP.out.mono ?_
    rintro e w9 ⟨_, rfl, u1, u2, u3, u4, rfl, hM9, hb9⟩
    clear p0y p1y p2y p3y p4y p5y p6y p7y p8y f0 f1 f2 HTP
    obtain ⟨D1, e1, rfl, _⟩ := hM9.t.b
    obtain ⟨D2, e2, rfl, _⟩ := hM9.t.f
    obtain ⟨D3, e3, rfl, _⟩ := hM9.l
    obtain ⟨D4, e4, rfl, _⟩ := hM9.o
    replace HU := Hd (HU.out.below hb9)
    replace HO := Hd (HO.out.below hb9)
    replace HB := Hd (bT HB.out hb9)
    replace HX := Hd (HX.out.below hb9)
    have HN := Hd (hM9.mono hsw)
    clear hM9 hb9 HMM
    obtain ⟨p0y, p1y, p2y, p3y, p4y, p5y, p6y, p7y, p8y⟩ := cells9 HU.out
    obtain ⟨w0y, w1y, w2y, w3y, w4y, w5y, w6y, w7y, w8y⟩ := free9 HU.out
    have hlu := HU.out.lt
    go_wp2
    go_roundw
    case rel =>
     refine ⟨k + 1, Z, _, _, _, _, by omega, by simp, HZZ.out.symm, HU.out.set9 _ _ _ _ _ _ _ _ _, HN.out.far9 HU.out _ _ _ _ _ _ _ _ _, HO.out.far9 (by omega) _ _ _ _ _ _ _ _ _, ?_, HX.out.far9 (by omega) _ _ _ _ _ _ _ _ _⟩
     repeat (refine bS ?_ (by simp <;> omega))
     exact HB.out
    case measure => simp [intOf]; omega
   ·have hb1 : (y.s == s) = false := by rw [beq_eq_false_iff_ne]; exact hxs
    have HZZ : Hid (z = takL s (pgs s (keysL (m.t.fs.take (k + 1)))) m) := by show _ = _; rw [HL2.out, end_skip hxs]; exact hz.out
    clear hxs
    go_wp2
    go_roundw
    case rel => exact ⟨k + 1, z, _, _, _, _, by omega, by simp, HZZ, HU.out, HMM.out, HO.out, HB.out, HX.out⟩
    case measure => simp [intOf]; omega
  ·obtain rfl : k = m.t.fs.length := by omega
   have hki : decide ((m.t.fs.length : Int) < (m.t.fs.length : Int)) = false := by simp
   have HZE : Hid (z = endA m s) := by show _ = _; rw [hz.out, List.take_length]; rfl
   have x1 := hx.cell_ 1 (v := .slice Af m.t.fs.length cf) rfl
   clear hz hx
   have HZ : Hid (z = endA m s) := HZE
   have hzg : z.g = m.g := by rw [HZ.out]; exact (endA_state HMV.out s).g
   have HV0 : Hid (endV m s = { z with g := lvG m.g s }) := by show _ = _; rw [endV_at HA.out, HZ.out]
   have HU := Hd hu
   have HMM := Hd hmm
   have HO := Hd ho
   have HB := Hd hb
   clear hu hmm ho hb HZE
   obtain ⟨C1, n1, rfl, _⟩ := HMM.out.t.b
   obtain ⟨C2, n2, rfl, _⟩ := HMM.out.t.f
   obtain ⟨C3, n3, rfl, _⟩ := HMM.out.l
   obtain ⟨C4, n4, rfl, _⟩ := HMM.out.o
   have hle := fun W (h : SlR owE W (.slice C4 z.g.os.length n4) z.g.os) => sLeaveTag_any (.slice C4 z.g.os.length n4) z.g s W h
   rw [hzg] at hle
   have HLE := Hd hle
   have HZG := Hd hzg
   clear hle hzg
   obtain ⟨p0y, p1y, p2y, p3y, p4y, p5y, p6y, p7y, p8y⟩ := cells9 HU.out
   rw [HZG.out] at p4y p5y p6y p7y
   go_wp2_with fail
   refine (HLE.out wr (by have h := HMM.out.r.o; rw [HZG.out] at h; exact h)).mono ?_
   rintro e w5 ⟨_, rfl, v4, rfl, hG5, hb5⟩
   clear p0y p1y p2y p3y p4y p5y p6y p7y p8y
   obtain ⟨A7, c7, rfl, _⟩ := id hG5
   generalize hLv : lvV m.g s = LG at *
   have hp6 := Own.new_ w5 46 #[.int .i64 LG.count, .int .i64 LG.next, .int .i64 LG.round, .slice A7 LG.os.length c7]
   have hb6 : Below w5.heap.size w5 (w5.alloc (.cells #[.int .i64 LG.count, .int .i64 LG.next, .int .i64 LG.round, .slice A7 LG.os.length c7] 46)) := bA bR
   generalize hW6 : w5.alloc (.cells #[.int .i64 LG.count, .int .i64 LG.next, .int .i64 LG.round, .slice A7 LG.os.length c7] 46) = w6 at hp6 hb6
   have hbx := bT hb5 hb6
   have HP := Hd hp6
   have hsw : w.heap.size + 2 ≤ wr.heap.size := by have := HU.out.lt; omega
   have HLG := Hd ((hG5.now hb6).mono hsw)
   replace HU := Hd (HU.out.below hbx)
   replace HMM := Hd (HMM.out.now hbx)
   replace HO := Hd (HO.out.below hbx)
   replace HB := Hd (bT HB.out hbx)
   have hlp := HP.out.lt
   have hlu := HU.out.lt
   have hlo := HO.out.lt
   clear hG5 hb5 hb6 hp6 hbx HLE
   cases htg : tgO m.g s with
   | false =>
    have HV : Hid (endV m s = z) := by
     show _ = _
     rw [HV0.out]
     unfold lvG
     rw [htg]
     simp only [Bool.false_eq_true, if_false]
     rw [← HZG.out]
    clear HV0 htg
    obtain ⟨r0x, r1x, r2x, r3x, r4x, r5x, r6x, r7x, r8x⟩ := cells9 HO.out
    obtain ⟨z0x, z1x, z2x, z3x, z4x, z5x, z6x, z7x, z8x⟩ := free9 HO.out
    obtain ⟨p0y, p1y, p2y, p3y, p4y, p5y, p6y, p7y, p8y⟩ := cells9 HU.out
    go_wp2
    have o3 := HO.out.set9 (.slice C1 z.t.bs.length n1) (.slice C2 z.t.fs.length n2) (.slice C3 z.c.ls.length n3) (.int .i64 z.c.hand) (.int .i64 z.g.count) (.int .i64 z.g.next) (.int .i64 z.g.round) (.slice C4 z.g.os.length n4) (.int .i64 z.sp)
    obtain ⟨p0t, p1t, p2t, p3t, p4t, p5t, p6t, p7t, p8t⟩ := cells9 o3
    refine bodyPost_ret (v := .tuple #[.agg #[.slice C1 z.t.bs.length n1, .slice C2 z.t.fs.length n2, .slice C3 z.c.ls.length n3, .int .i64 z.c.hand, .int .i64 z.g.count, .int .i64 z.g.next, .int .i64 z.g.round, .slice C4 z.g.os.length n4, .int .i64 z.sp], .bool true]) (by simp [results, Tryz.results28, go_sem, p0t, p1t, p2t, p3t, p4t, p5t, p6t, p7t, p8t]) rfl ⟨_, rfl, _, _, _, _, by rw [HA.out, HV.out], ?_, ?_⟩
    ·rw [HV.out]
     exact (HMM.out.far9 HO.out _ _ _ _ _ _ _ _ _).mono (by omega)
    ·repeat (refine bS ?_ (by simp <;> omega))
     exact HB.out
   | true =>
    have HV : Hid (endV m s = ⟨z.t, z.c, LG, z.sp⟩) := by
     show _ = _
     rw [HV0.out, ← hLv]
     unfold lvG lvV
     rw [htg]
     rfl
    clear HV0 htg hLv
    have s0 := HP.out.cell_ 0 (v := .int .i64 LG.count) rfl
    have s1 := HP.out.cell_ 1 (v := .int .i64 LG.next) rfl
    have s2 := HP.out.cell_ 2 (v := .int .i64 LG.round) rfl
    have s3 := HP.out.cell_ 3 (v := .slice A7 LG.os.length c7) rfl
    obtain ⟨p0y, p1y, p2y, p3y, p4y, p5y, p6y, p7y, p8y⟩ := cells9 HU.out
    have f4 := HU.out.free 4
    have f5 := HU.out.free 5
    have f6 := HU.out.free 6
    have f7 := HU.out.free 7
    have n9 : w.heap.size + 1 ≠ w3.heap.size := by omega
    have n8 : w3.heap.size ≠ w.heap.size + 1 := by omega
    have v1 := HU.out.set_ 4 (.int .i64 LG.count)
    have v2 := v1.set_ 5 (.int .i64 LG.next)
    have v3 := v2.set_ 6 (.int .i64 LG.round)
    have v4 := v3.set_ 7 (.slice A7 LG.os.length c7)
    have hm7 : MaM (w.heap.size + 2) w6 (.slice C1 z.t.bs.length n1) (.slice C2 z.t.fs.length n2) (.slice C3 z.c.ls.length n3) (.slice A7 LG.os.length c7) ⟨z.t, z.c, LG, z.sp⟩ := ⟨HMM.out.t, HMM.out.l, HLG.out⟩
    have HM8 := Hd ((((hm7.farT HU.out (i := 4) (u := .int .i64 LG.count)).farT v1 (i := 5) (u := .int .i64 LG.next)).farT v2 (i := 6) (u := .int .i64 LG.round)).farT v3 (i := 7) (u := .slice A7 LG.os.length c7))
    have HO8 := Hd ((((HO.out.far (p := ⟨w3.heap.size, 4, none⟩) (u := .int .i64 LG.count) n9).far (p := ⟨w3.heap.size, 5, none⟩) (u := .int .i64 LG.next) n9).far (p := ⟨w3.heap.size, 6, none⟩) (u := .int .i64 LG.round) n9).far (p := ⟨w3.heap.size, 7, none⟩) (u := .slice A7 LG.os.length c7) n9)
    have hww : w.heap.size ≤ w3.heap.size := by omega
    have HB8 := Hd (bS (bS (bS (bS HB.out (p := ⟨w3.heap.size, 4, none⟩) (u := .int .i64 LG.count) hww) (p := ⟨w3.heap.size, 5, none⟩) (u := .int .i64 LG.next) hww) (p := ⟨w3.heap.size, 6, none⟩) (u := .int .i64 LG.round) hww) (p := ⟨w3.heap.size, 7, none⟩) (u := .slice A7 LG.os.length c7) hww)
    have HU8 : Hid (Own ((((w6.setCell ⟨w3.heap.size, 4, none⟩ (.int .i64 LG.count)).setCell ⟨w3.heap.size, 5, none⟩ (.int .i64 LG.next)).setCell ⟨w3.heap.size, 6, none⟩ (.int .i64 LG.round)).setCell ⟨w3.heap.size, 7, none⟩ (.slice A7 LG.os.length c7)) w3.heap.size 48 #[.slice C1 z.t.bs.length n1, .slice C2 z.t.fs.length n2, .slice C3 z.c.ls.length n3, .int .i64 (⟨z.t, z.c, LG, z.sp⟩ : Ma).c.hand, .int .i64 (⟨z.t, z.c, LG, z.sp⟩ : Ma).g.count, .int .i64 (⟨z.t, z.c, LG, z.sp⟩ : Ma).g.next, .int .i64 (⟨z.t, z.c, LG, z.sp⟩ : Ma).g.round, .slice A7 LG.os.length c7, .int .i64 (⟨z.t, z.c, LG, z.sp⟩ : Ma).sp]) := Hd (by simpa using v4)
    clear v1 v2 v3 v4 hm7
    generalize hW8 : (((w6.setCell ⟨w3.heap.size, 4, none⟩ (.int .i64 LG.count)).setCell ⟨w3.heap.size, 5, none⟩ (.int .i64 LG.next)).setCell ⟨w3.heap.size, 6, none⟩ (.int .i64 LG.round)).setCell ⟨w3.heap.size, 7, none⟩ (.slice A7 LG.os.length c7) = w8 at HM8 HO8 HB8 HU8
    go_upto_region 13 with fail
    try rw [hW8]
    clear hW8 s0 s1 s2 s3 p0y p1y p2y p3y p4y p5y p6y p7y p8y f4 f5 f6 f7
    obtain ⟨r0x, r1x, r2x, r3x, r4x, r5x, r6x, r7x, r8x⟩ := cells9 HO8.out
    obtain ⟨z0x, z1x, z2x, z3x, z4x, z5x, z6x, z7x, z8x⟩ := free9 HO8.out
    obtain ⟨p0y, p1y, p2y, p3y, p4y, p5y, p6y, p7y, p8y⟩ := cells9 HU8.out
    have hlu8 := HU8.out.lt
    have hlo8 := HO8.out.lt
    go_wp2
    have o3 := HO8.out.set9 (.slice C1 z.t.bs.length n1) (.slice C2 z.t.fs.length n2) (.slice C3 z.c.ls.length n3) (.int .i64 z.c.hand) (.int .i64 LG.count) (.int .i64 LG.next) (.int .i64 LG.round) (.slice A7 LG.os.length c7) (.int .i64 z.sp)
    obtain ⟨p0t, p1t, p2t, p3t, p4t, p5t, p6t, p7t, p8t⟩ := cells9 o3
    refine bodyPost_ret (v := .tuple #[.agg #[.slice C1 z.t.bs.length n1, .slice C2 z.t.fs.length n2, .slice C3 z.c.ls.length n3, .int .i64 (⟨z.t, z.c, LG, z.sp⟩ : Ma).c.hand, .int .i64 (⟨z.t, z.c, LG, z.sp⟩ : Ma).g.count, .int .i64 (⟨z.t, z.c, LG, z.sp⟩ : Ma).g.next, .int .i64 (⟨z.t, z.c, LG, z.sp⟩ : Ma).g.round, .slice A7 LG.os.length c7, .int .i64 (⟨z.t, z.c, LG, z.sp⟩ : Ma).sp], .bool true]) (by simp [results, Tryz.results28, go_sem, p0t, p1t, p2t, p3t, p4t, p5t, p6t, p7t, p8t]) rfl ⟨_, rfl, _, _, _, _, by rw [HA.out, HV.out], ?_, ?_⟩
    ·rw [HV.out]
     exact (HM8.out.far9 HO8.out _ _ _ _ _ _ _ _ _).mono (by omega)
    ·repeat (refine bS ?_ (by simp <;> omega))
     exact HB8.out
end Go.Proofs.YtibpnlojlfcpmaaGreatDoor
