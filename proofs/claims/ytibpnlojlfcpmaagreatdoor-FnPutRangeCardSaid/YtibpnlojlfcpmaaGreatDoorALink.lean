/- A part of the proofs of this seat: Link, MapI, PpI. -/
import Derived.Deep.RegionHeldLaw
import Derived.Test.YtibpnlojlfcpmaaGreatDoorAOwn
set_option linter.unusedVariables false
set_option linter.unusedSimpArgs false
set_option maxRecDepth 1000000
namespace Go.Proofs.YtibpnlojlfcpmaaGreatDoor
open Go.RowKit
set_option maxHeartbeats 2000000 in
theorem link_any (base : Nat) (vb vf : Value) (t : Tab) (s p : Int) (fr : Nat) (r : Int) (w : World) (hT : TaM base w vb vf t) (hb : base ≤ w.heap.size) (hk : kval (s, p) = true) (h1 : 1 ≤ t.bs.length) (h16 : t.bs.length ≤ 16) (hf : fr < t.fs.length) :
  Calls Tryz.prog 223 #[.agg #[vb, vf], .agg #[.int .i64 s, .int .i64 p], .int .i64 fr, .int .i64 r] w (Post2 fun _ w' => TaM base w' vb vf (mapT t s p fr r) ∧ Below base w w' ∧ ∀ g ty cs, Own w g ty cs → ty ≠ 3 → ty ≠ 66 → Own w' g ty cs) := by
 obtain ⟨g1, c1, g2, c2, rfl, rfl, e1, e2, l1, l2, hne, a1, a2, b1, b2, m1, m2⟩ := hT.open_ h1 (by omega)
 obtain ⟨hbk, heq⟩ := bkt_in hk h1
 have hbx := (Own.new_ w 40 #[.slice (some ⟨g1, 0, none⟩) t.bs.length c1, .slice (some ⟨g2, 0, none⟩) t.fs.length c2]).alloc (o := .cells #[.int .i64 s, .int .i64 p] 61)
 have hbk2 := Own.new_ (w.alloc (.cells #[.slice (some ⟨g1, 0, none⟩) t.bs.length c1, .slice (some ⟨g2, 0, none⟩) t.fs.length c2] 40)) 61 #[.int .i64 s, .int .i64 p]
 have hb0 : Below w.heap.size w ((w.alloc (.cells #[.slice (some ⟨g1, 0, none⟩) t.bs.length c1, .slice (some ⟨g2, 0, none⟩) t.fs.length c2] 40)).alloc (.cells #[.int .i64 s, .int .i64 p] 61)) := bA (bA bR)
 have hs0 : ((w.alloc (.cells #[.slice (some ⟨g1, 0, none⟩) t.bs.length c1, .slice (some ⟨g2, 0, none⟩) t.fs.length c2] 40)).alloc (.cells #[.int .i64 s, .int .i64 p] 61)).heap.size = w.heap.size + 2 := by simp
 rw [show (w.alloc (.cells #[.slice (some ⟨g1, 0, none⟩) t.bs.length c1, .slice (some ⟨g2, 0, none⟩) t.fs.length c2] 40)).heap.size = w.heap.size + 1 by simp] at hbk2
 generalize hW : (w.alloc (.cells #[.slice (some ⟨g1, 0, none⟩) t.bs.length c1, .slice (some ⟨g2, 0, none⟩) t.fs.length c2] 40)).alloc (.cells #[.int .i64 s, .int .i64 p] 61) = W0 at hbx hbk2 hb0 hs0
 have q0 := hbx.cell_ 0 (v := .slice (some ⟨g1, 0, none⟩) t.bs.length c1) rfl
 have q1 := hbx.cell_ 1 (v := .slice (some ⟨g2, 0, none⟩) t.fs.length c2) rfl
 have k0 := hbk2.cell_ 0 (v := .int .i64 s) rfl
 have k1 := hbk2.cell_ 1 (v := .int .i64 p) rfl
 go_enter Tryz.func223, Tryz.ntmps223
 go_wp2_with fail
 refine (hash_any s p t.bs.length _ hk ⟨by omega, by omega⟩).mono ?_
 rintro e w1 ⟨rfl, hb1⟩
 rw [heq]
 generalize hbb : bkt t s p = b at *
 have hbx1 := hbx.below hb1
 have hbk1 := hbk2.below hb1
 have x0 := hbx1.cell_ 0 (v := .slice (some ⟨g1, 0, none⟩) t.bs.length c1) rfl
 have x1 := hbx1.cell_ 1 (v := .slice (some ⟨g2, 0, none⟩) t.fs.length c2) rfl
 have z0 := hbk1.cell_ 0 (v := .int .i64 s) rfl
 have z1 := hbk1.cell_ 1 (v := .int .i64 p) rfl
 have hbt := bT hb0 hb1
 have M1 := m1.below hbt
 have M2 := m2.below hbt
 obtain ⟨n, en⟩ : ∃ n, t.bs[b]? = some n := ⟨_, List.getElem?_eq_getElem hbk⟩
 obtain ⟨b', o', e3, _, d0⟩ := M1.is.i1 en
 injection e3 with e3
 injection e3 with e3 e4
 subst e3 e4
 rw [Nat.zero_add] at d0
 obtain ⟨f, ef⟩ : ∃ f, t.fs[fr]? = some f := ⟨_, List.getElem?_eq_getElem hf⟩
 obtain ⟨b', o', e3, _, y0, y1, y2, y3, y4⟩ := M2.is.fr ef
 injection e3 with e3
 injection e3 with e3 e4
 subst e3 e4
 rw [Nat.zero_add] at y0 y1 y2 y3 y4
 obtain ⟨_, cs1, u1, _, O1, S1⟩ := M1.own (by omega)
 injection u1 with u1
 injection u1 with u1
 subst u1
 obtain ⟨_, cs2, u2, _, O2, S2⟩ := M2.own (by omega)
 injection u2 with u2
 injection u2 with u2
 subst u2
 have z2 := O1.free b
 have z3 := O2.free (fr * 5)
 have z4 := O2.free (fr * 5 + 1)
 have z5 := O2.free (fr * 5 + 2)
 have z6 := O2.free (fr * 5 + 3)
 have z7 := O2.free (fr * 5 + 4)
 have hfar1 : Hid (∀ g ty cs, Own w1 g ty cs → ty ≠ 3 → g ≠ g1) := by
  intro g ty cs h hty hg
  subst hg
  unfold Own at h O1
  rw [h] at O1
  injection O1 with O1
  injection O1 with _ O1
  exact hty O1
 have hfar2 : Hid (∀ g ty cs, Own w1 g ty cs → ty ≠ 66 → g ≠ g2) := by
  intro g ty cs h hty hg
  subst hg
  unfold Own at h O2
  rw [h] at O2
  injection O2 with O2
  injection O2 with _ O2
  exact hty O2
 have HM1 := Hd M1
 have HM2 := Hd M2
 have HBT := Hd hbt
 have HX1 := Hd hbx1
 have hmt : mapT t s p fr r = ⟨t.bs.set b fr, t.fs.set fr ⟨true, s, p, r, n⟩⟩ := by
  unfold mapT
  rw [hbb, Int.toNat_natCast, List.getD_eq_getElem?_getD, en]
  rfl
 clear M1 M2 O1 O2 S1 S2 m1 m2 hT hbx hbk2 hb0 hbt hbx1 hbk1 hb1 en ef
 go_wp2
 go_region_law (fail)
 all_goals
  clear z3 z4 z5 z6 z7 y0 y1 y2 y3 y4
  go_wp2
  have M3 := (HM2.out.wfr hf ⟨true, s, p, r, n⟩).other (p := ⟨g1, b, none⟩) (u := .int .i64 fr) hne
  have M4 := (((((HM1.out.other (p := ⟨g2, fr * 5, none⟩) (u := .bool true) hne.symm).other (p := ⟨g2, fr * 5 + 1, none⟩) (u := .int .i64 s) hne.symm).other (p := ⟨g2, fr * 5 + 2, none⟩) (u := .int .i64 p) hne.symm).other (p := ⟨g2, fr * 5 + 3, none⟩) (u := .int .i64 r) hne.symm).other (p := ⟨g2, fr * 5 + 4, none⟩) (u := .int .i64 n) hne.symm).wint hbk fr
  have hbz : Below base w w1 := Below.mono HBT.out hb
  go_end0
  refine ⟨_, rfl, ⟨?_, ?_⟩, ?_, ?_⟩
  ·rw [hmt]
   exact slm_of (by simp) (by simpa using a1) a2 (M4.below (bD bR))
  ·rw [hmt]
   exact slm_of (by simp) (by simpa using b1) b2 (M3.below (bD bR))
  ·exact ((((((hbz.setCell e2 _).setCell e2 _).setCell e2 _).setCell e2 _).setCell e2 _).setCell e1 _).drew
  ·intro g ty cs ho h3 h4
   have ho1 := ho.below HBT.out
   have n1 := hfar1.out _ _ _ ho1 h3
   have n2 := hfar2.out _ _ _ ho1 h4
   exact ((((((ho1.far n2).far n2).far n2).far n2).far n2).far n1).drew
set_option maxHeartbeats 4000000 in
theorem MapPage_any (vb vf : Value) (t : Tab) (s p fr r : Int) (w : World) (hT : TaR w vb vf t) (hfree : Free w) :
  Calls Tryz.prog 172 #[.agg #[vb, vf], .agg #[.int .i64 s, .int .i64 p], .int .i64 fr, .int .i64 r] w (Post2 fun v w' => ∃ v1 v2, v = .tuple #[.agg #[v1, v2], .bool (mapOK t s p fr r)] ∧ TaM w.heap.size w' v1 v2 (mapV t s p fr r) ∧ Below w.heap.size w w') := by
 have ht0 := ((Own.new_ w 40 #[vb, vf]).alloc (o := .cells #[.int .i64 s, .int .i64 p] 61)).alloc (o := .cells #[.slice none 0 0, .slice none 0 0] 40)
 have hk0 := (Own.new_ (w.alloc (.cells #[vb, vf] 40)) 61 #[.int .i64 s, .int .i64 p]).alloc (o := .cells #[.slice none 0 0, .slice none 0 0] 40)
 have hr0 := Own.new_ ((w.alloc (.cells #[vb, vf] 40)).alloc (.cells #[.int .i64 s, .int .i64 p] 61)) 40 #[.slice none 0 0, .slice none 0 0]
 have hb0 : Below w.heap.size w (((w.alloc (.cells #[vb, vf] 40)).alloc (.cells #[.int .i64 s, .int .i64 p] 61)).alloc (.cells #[.slice none 0 0, .slice none 0 0] 40)) := bA (bA (bA bR))
 rw [show (w.alloc (.cells #[vb, vf] 40)).heap.size = w.heap.size + 1 by simp] at hk0
 rw [show ((w.alloc (.cells #[vb, vf] 40)).alloc (.cells #[.int .i64 s, .int .i64 p] 61)).heap.size = w.heap.size + 1 + 1 by simp] at hr0
 have hs0 : (((w.alloc (.cells #[vb, vf] 40)).alloc (.cells #[.int .i64 s, .int .i64 p] 61)).alloc (.cells #[.slice none 0 0, .slice none 0 0] 40)).heap.size = w.heap.size + 3 := by simp
 generalize hW : ((w.alloc (.cells #[vb, vf] 40)).alloc (.cells #[.int .i64 s, .int .i64 p] 61)).alloc (.cells #[.slice none 0 0, .slice none 0 0] 40) = W0 at ht0 hk0 hr0 hb0 hs0
 have HT0 := Hd ht0
 have HK0 := Hd hk0
 have HR0 := Hd hr0
 have HB0 := Hd hb0
 clear ht0 hk0 hr0 hb0
 have t00 := HT0.out.cell_ 0 (v := vb) rfl
 have t10 := HT0.out.cell_ 1 (v := vf) rfl
 have k00 := HK0.out.cell_ 0 (v := .int .i64 s) rfl
 have k10 := HK0.out.cell_ 1 (v := .int .i64 p) rfl
 have HTR := Hd hT
 have HF := Hd hfree
 clear hT hfree
 go_enter Tryz.func172, Tryz.ntmps172
 go_wp2_with fail
 refine (TableValid_any vb vf t _ (HTR.out.now HB0.out) (HF.out.now HB0.out)).mono ?_
 rintro e w1 ⟨rfl, hb1⟩
 have HT1 := Hd (HT0.out.below hb1)
 have HK1 := Hd (HK0.out.below hb1)
 have HR1 := Hd (HR0.out.below hb1)
 have HB1 := Hd (bT HB0.out hb1)
 clear hb1
 have t01 := HT1.out.cell_ 0 rfl
 have t11 := HT1.out.cell_ 1 rfl
 have k01 := HK1.out.cell_ 0 (v := .int .i64 s) rfl
 have k11 := HK1.out.cell_ 1 (v := .int .i64 p) rfl
 have r01 := HR1.out.cell_ 0 (v := .slice none 0 0) rfl
 have r11 := HR1.out.cell_ 1 (v := .slice none 0 0) rfl
 have fr01 := HR1.out.free 0
 have fr11 := HR1.out.free 1
 clear t00 t10 k00 k10
 try clear r00 r10 fr00 fr10
 cases h1 : tv t with
 | false =>
  have HA : Hid (mapOK t s p fr r = false) := by show _ = _; unfold mapOK; rw [h1]; rfl
  have HV := Hd (mapOK_false HA.out)
  go_wp2
  have o3 := (HR1.out.set_ 0 (.slice none 0 0)).set_ 1 (.slice none 0 0)
  have e0 := o3.cell_ 0 (v := .slice none 0 0) rfl
  have e1 := o3.cell_ 1 (v := .slice none 0 0) rfl
  refine bodyPost_ret (v := .tuple #[.agg #[.slice none 0 0, .slice none 0 0], .bool false]) (by simp [results, Tryz.results172, go_sem, e0, e1]) rfl ⟨_, rfl, _, _, by rw [HA.out], ?_, bS (bS HB1.out (by simp; omega)) (by simp; omega)⟩
  rw [HV.out]
  exact tam_z
 | true =>
  go_wp2_with fail
  refine (keyValid_any _ _ _).mono ?_
  rintro e w2 ⟨rfl, hb2⟩
  have HT2 := Hd (HT1.out.below hb2)
  have HK2 := Hd (HK1.out.below hb2)
  have HR2 := Hd (HR1.out.below hb2)
  have HB2 := Hd (bT HB1.out hb2)
  clear hb2
  have t02 := HT2.out.cell_ 0 rfl
  have t12 := HT2.out.cell_ 1 rfl
  have k02 := HK2.out.cell_ 0 (v := .int .i64 s) rfl
  have k12 := HK2.out.cell_ 1 (v := .int .i64 p) rfl
  have r02 := HR2.out.cell_ 0 (v := .slice none 0 0) rfl
  have r12 := HR2.out.cell_ 1 (v := .slice none 0 0) rfl
  have fr02 := HR2.out.free 0
  have fr12 := HR2.out.free 1
  clear t01 t11 k01 k11
  try clear r01 r11 fr01 fr11
  cases h2 : kval (s, p) with
  | false =>
   have HA : Hid (mapOK t s p fr r = false) := by show _ = _; unfold mapOK; rw [h1, h2]; rfl
   have HV := Hd (mapOK_false HA.out)
   go_wp2
   have o3 := (HR2.out.set_ 0 (.slice none 0 0)).set_ 1 (.slice none 0 0)
   have e0 := o3.cell_ 0 (v := .slice none 0 0) rfl
   have e1 := o3.cell_ 1 (v := .slice none 0 0) rfl
   refine bodyPost_ret (v := .tuple #[.agg #[.slice none 0 0, .slice none 0 0], .bool false]) (by simp [results, Tryz.results172, go_sem, e0, e1]) rfl ⟨_, rfl, _, _, by rw [HA.out], ?_, bS (bS HB2.out (by simp; omega)) (by simp; omega)⟩
   rw [HV.out]
   exact tam_z
  | true =>
   go_wp2_with fail
   refine (find_any vb vf t s p _ (HTR.out.now HB2.out)).mono ?_
   rintro e w3 ⟨rfl, hb3⟩
   have HT3 := Hd (HT2.out.below hb3)
   have HK3 := Hd (HK2.out.below hb3)
   have HR3 := Hd (HR2.out.below hb3)
   have HB3 := Hd (bT HB2.out hb3)
   clear hb3
   have t03 := HT3.out.cell_ 0 rfl
   have t13 := HT3.out.cell_ 1 rfl
   have k03 := HK3.out.cell_ 0 (v := .int .i64 s) rfl
   have k13 := HK3.out.cell_ 1 (v := .int .i64 p) rfl
   have r03 := HR3.out.cell_ 0 (v := .slice none 0 0) rfl
   have r13 := HR3.out.cell_ 1 (v := .slice none 0 0) rfl
   have fr03 := HR3.out.free 0
   have fr13 := HR3.out.free 1
   clear t02 t12 k02 k12
   try clear r02 r12 fr02 fr12
   by_cases h3 : 0 ≤ fndI t.fs s p
   ·have HA : Hid (mapOK t s p fr r = false) := by show _ = _; unfold mapOK; rw [h1, h2, decide_eq_true h3]; rfl
    have HV := Hd (mapOK_false HA.out)
    go_wp2
    have o3 := (HR3.out.set_ 0 (.slice none 0 0)).set_ 1 (.slice none 0 0)
    have e0 := o3.cell_ 0 (v := .slice none 0 0) rfl
    have e1 := o3.cell_ 1 (v := .slice none 0 0) rfl
    refine bodyPost_ret (v := .tuple #[.agg #[.slice none 0 0, .slice none 0 0], .bool false]) (by simp [results, Tryz.results172, go_sem, e0, e1]) rfl ⟨_, rfl, _, _, by rw [HA.out], ?_, bS (bS HB3.out (by simp; omega)) (by simp; omega)⟩
    rw [HV.out]
    exact tam_z
   ·obtain ⟨Af, cf, rfl, hfc, hfm, hF⟩ := HTR.out.f
    obtain ⟨⟨_, hlen, hb1', hlen2⟩, _⟩ := tv_parts h1
    have h3f : decide (0 ≤ fndI t.fs s p) = false := decide_eq_false h3
    have HN3 := Hd h3f
    clear h3f
    cases h4 : inR fr t.fs.length with
    | false =>
     have HA : Hid (mapOK t s p fr r = false) := by show _ = _; unfold mapOK; rw [h1, h2, HN3.out, h4]; rfl
     have HV := Hd (mapOK_false HA.out)
     go_wp2_with fail
     refine (within_any _ _ _).mono ?_
     rintro e w4 ⟨rfl, rfl⟩
     rw [h4]
     go_wp2
     have o3 := (HR3.out.set_ 0 (.slice none 0 0)).set_ 1 (.slice none 0 0)
     have e0 := o3.cell_ 0 (v := .slice none 0 0) rfl
     have e1 := o3.cell_ 1 (v := .slice none 0 0) rfl
     refine bodyPost_ret (v := .tuple #[.agg #[.slice none 0 0, .slice none 0 0], .bool false]) (by simp [results, Tryz.results172, go_sem, e0, e1]) rfl ⟨_, rfl, _, _, by rw [HA.out], ?_, bS (bS HB3.out (by simp; omega)) (by simp; omega)⟩
     rw [HV.out]
     exact tam_z
    | true =>
     obtain ⟨h5, h6⟩ : 0 ≤ fr ∧ fr < t.fs.length := by unfold inR at h4; simpa using h4
     obtain ⟨k, rfl⟩ := Int.eq_ofNat_of_zero_le h5
     have hk : k < t.fs.length := by omega
     obtain ⟨f, ef⟩ : ∃ f, t.fs[k]? = some f := ⟨_, List.getElem?_eq_getElem hk⟩
     obtain ⟨b4, o4, rfl, hb4, d0, d1, d2, d3, d4⟩ := (hF.now (Nat.le_refl _) HB3.out).fr ef
     clear d1 d2 d3 d4
     cases h7 : f.used with
     | true =>
      rw [h7] at d0
      have HA : Hid (mapOK t s p k r = false) := by show _ = _; unfold mapOK; rw [h1, h2, HN3.out, h4, Int.toNat_natCast, ef]; simp [h7]
      have HV := Hd (mapOK_false HA.out)
      go_wp2_with fail
      refine (within_any _ _ _).mono ?_
      rintro e w4 ⟨rfl, rfl⟩
      rw [h4]
      clear ef h4
      go_wp2
      have o3 := (HR3.out.set_ 0 (.slice none 0 0)).set_ 1 (.slice none 0 0)
      have e0 := o3.cell_ 0 (v := .slice none 0 0) rfl
      have e1 := o3.cell_ 1 (v := .slice none 0 0) rfl
      refine bodyPost_ret (v := .tuple #[.agg #[.slice none 0 0, .slice none 0 0], .bool false]) (by simp [results, Tryz.results172, go_sem, e0, e1]) rfl ⟨_, rfl, _, _, by rw [HA.out], ?_, bS (bS HB3.out (by simp; omega)) (by simp; omega)⟩
      rw [HV.out]
      exact tam_z
     | false =>
      rw [h7] at d0
      cases h8 : inR r 8 with
      | false =>
       have HA : Hid (mapOK t s p k r = false) := by show _ = _; unfold mapOK; rw [h8]; simp
       have HV := Hd (mapOK_false HA.out)
       go_wp2_with fail
       refine (within_any _ _ _).mono ?_
       rintro e w4 ⟨rfl, rfl⟩
       rw [h4]
       clear ef h4
       go_wp2_with fail
       refine (RightsValid_any _ _).mono ?_
       rintro e w4 ⟨rfl, rfl⟩
       rw [h8]
       go_wp2
       have o3 := (HR3.out.set_ 0 (.slice none 0 0)).set_ 1 (.slice none 0 0)
       have e0 := o3.cell_ 0 (v := .slice none 0 0) rfl
       have e1 := o3.cell_ 1 (v := .slice none 0 0) rfl
       refine bodyPost_ret (v := .tuple #[.agg #[.slice none 0 0, .slice none 0 0], .bool false]) (by simp [results, Tryz.results172, go_sem, e0, e1]) rfl ⟨_, rfl, _, _, by rw [HA.out], ?_, bS (bS HB3.out (by simp; omega)) (by simp; omega)⟩
       rw [HV.out]
       exact tam_z
      | true =>
       have HA : Hid (mapOK t s p k r = true) := by show _ = _; unfold mapOK; rw [h1, h2, HN3.out, h4, Int.toNat_natCast, ef, h8]; simp [h7]
       have HV : Hid (mapV t s p k r = mapT t s p k r) := by show _ = _; unfold mapV; rw [HA.out]; rfl
       go_wp2_with fail
       refine (within_any _ _ _).mono ?_
       rintro e w4 ⟨rfl, rfl⟩
       rw [h4]
       clear ef h4
       go_wp2_with fail
       refine (RightsValid_any _ _).mono ?_
       rintro e w4 ⟨rfl, rfl⟩
       rw [h8]
       go_wp2_with fail
       refine (tclone_any vb _ t _ (HTR.out.now HB3.out) (by omega) (by omega)).mono ?_
       rintro e w4 ⟨v1, v2, rfl, hM4, hb4⟩
       have HM4S : Hid (w3.heap.size ≤ w4.heap.size) := hb4.size
       have HT4 := Hd (HT3.out.below hb4)
       have HK4 := Hd (HK3.out.below hb4)
       have HR4 := Hd (HR3.out.below hb4)
       have HB4 := Hd (bT HB3.out hb4)
       clear hb4
       have t04 := HT4.out.cell_ 0 rfl
       have t14 := HT4.out.cell_ 1 rfl
       have k04 := HK4.out.cell_ 0 (v := .int .i64 s) rfl
       have k14 := HK4.out.cell_ 1 (v := .int .i64 p) rfl
       have r04 := HR4.out.cell_ 0 (v := .slice none 0 0) rfl
       have r14 := HR4.out.cell_ 1 (v := .slice none 0 0) rfl
       have fr04 := HR4.out.free 0
       have fr14 := HR4.out.free 1
       clear t03 t13 k03 k13
       try clear r03 r13 fr03 fr13
       obtain ⟨A1, c1, rfl, _⟩ := hM4.b
       obtain ⟨A2, c2, rfl, _⟩ := hM4.f
       have ho5 := Own.new_ w4 40 #[.slice A1 t.bs.length c1, .slice A2 t.fs.length c2]
       have hb5 : Below w4.heap.size w4 (w4.alloc (.cells #[.slice A1 t.bs.length c1, .slice A2 t.fs.length c2] 40)) := bA bR
       generalize hW5 : w4.alloc (.cells #[.slice A1 t.bs.length c1, .slice A2 t.fs.length c2] 40) = w5 at ho5 hb5
       have HM5 := Hd (hM4.now hb5)
       have HT5 := Hd (HT4.out.below hb5)
       have HK5 := Hd (HK4.out.below hb5)
       have HR5 := Hd (HR4.out.below hb5)
       have HB5 := Hd (bT HB4.out hb5)
       clear hb5
       have t05 := HT5.out.cell_ 0 rfl
       have t15 := HT5.out.cell_ 1 rfl
       have k05 := HK5.out.cell_ 0 (v := .int .i64 s) rfl
       have k15 := HK5.out.cell_ 1 (v := .int .i64 p) rfl
       have r05 := HR5.out.cell_ 0 (v := .slice none 0 0) rfl
       have r15 := HR5.out.cell_ 1 (v := .slice none 0 0) rfl
       have fr05 := HR5.out.free 0
       have fr15 := HR5.out.free 1
       clear t04 t14 k04 k14
       try clear r04 r14 fr04 fr14
       have o50 := ho5.cell_ 0 rfl
       have o51 := ho5.cell_ 1 rfl
       have HO5 := Hd ho5
       have hsz3 := HB3.out.size
       have hsz5 : w3.heap.size ≤ w5.heap.size := by have := ho5.lt; have := HM4S.out; omega
       clear hM4 ho5
       go_wp2_with fail
       refine (link_any w3.heap.size _ _ t s p k r _ HM5.out hsz5 h2 hb1' hlen2 hk).mono ?_
       rintro e w6 ⟨v6, rfl, hM6, hb6, hkeep⟩
       have hR6 := hkeep _ _ _ HR5.out (by decide) (by decide)
       have hO6 := hkeep _ _ _ HO5.out (by decide) (by decide)
       have HB6 : Hid (Below w.heap.size w w6) := HB5.out.trans (hb6.mono hsz3)
       have HM6 := Hd hM6
       have r06 := hR6.cell_ 0 (v := .slice none 0 0) rfl
       have r16 := hR6.cell_ 1 (v := .slice none 0 0) rfl
       have fr06 := hR6.free 0
       have fr16 := hR6.free 1
       have o60 := hO6.cell_ 0 (v := .slice A1 t.bs.length c1) rfl
       have o61 := hO6.cell_ 1 (v := .slice A2 t.fs.length c2) rfl
       have HR6 := Hd hR6
       have hlt3 := HR3.out.lt
       clear hM6 hb6 hkeep hR6 hO6
       go_wp2
       have o3 := (HR6.out.set_ 0 (.slice A1 t.bs.length c1)).set_ 1 (.slice A2 t.fs.length c2)
       have e0 := o3.cell_ 0 (v := .slice A1 t.bs.length c1) rfl
       have e1 := o3.cell_ 1 (v := .slice A2 t.fs.length c2) rfl
       have M7 := ((HM6.out.far (p := ⟨w.heap.size + 1 + 1, 0, none⟩) (u := .slice A1 t.bs.length c1) hlt3).far (p := ⟨w.heap.size + 1 + 1, 1, none⟩) (u := .slice A2 t.fs.length c2) hlt3).mono hsz3
       refine bodyPost_ret (v := .tuple #[.agg #[.slice A1 t.bs.length c1, .slice A2 t.fs.length c2], .bool true]) (by simp [results, Tryz.results172, go_sem, e0, e1]) rfl ⟨_, rfl, _, _, by rw [HA.out], ?_, bS (bS HB6.out (by simp; omega)) (by simp; omega)⟩
       rw [HV.out]
       exact M7
set_option maxHeartbeats 2000000 in
theorem PutPage_any (vb vf vl vo : Value) (m : Ma) (s p fr r : Int) (w : World) (hM : MaR w vb vf vl vo m) (hfree : Free w) :
  Calls Tryz.prog 99 #[.agg #[vb, vf, vl, .int .i64 m.c.hand, .int .i64 m.g.count, .int .i64 m.g.next, .int .i64 m.g.round, vo, .int .i64 m.sp], .agg #[.int .i64 s, .int .i64 p], .int .i64 fr, .int .i64 r] w (Post2 fun v w' => ∃ v1 v2 v3 v4, v = .tuple #[.agg #[v1, v2, v3, .int .i64 (putV m s p fr r).c.hand, .int .i64 (putV m s p fr r).g.count, .int .i64 (putV m s p fr r).g.next, .int .i64 (putV m s p fr r).g.round, v4, .int .i64 (putV m s p fr r).sp], .bool (putOK m s p fr r)] ∧ MaM w.heap.size w' v1 v2 v3 v4 (putV m s p fr r) ∧ Below w.heap.size w w') := by
 obtain ⟨W0, hW, hbx, hbk, hbo, hb0, hs0⟩ := box3 w #[vb, vf, vl, .int .i64 m.c.hand, .int .i64 m.g.count, .int .i64 m.g.next, .int .i64 m.g.round, vo, .int .i64 m.sp] 48 #[.int .i64 s, .int .i64 p] 61 #[.slice none 0 0, .slice none 0 0, .slice none 0 0, .int .i64 0, .int .i64 0, .int .i64 0, .int .i64 0, .slice none 0 0, .int .i64 0] 48
 have HX0 := Hd hbx
 have HK0 := Hd hbk
 have HR0 := Hd hbo
 have HB0 := Hd hb0
 have HS0 : Hid (w.heap.size + 3 ≤ W0.heap.size) := Nat.le_of_eq hs0.symm
 clear hbx hbk hbo hb0
 have HM := Hd hM
 have HF := Hd hfree
 clear hM hfree
 have HMV := Hd (fun W (h : MaR W vb vf vl vo m) (hf : Free W) => MachineValid_any vb vf vl vo m W h hf)
 have HKF := Hd (KeyFor_any s p)
 have x0 := xcell (HX0.out.cell_ 0 (v := vb) rfl) HX0.out.lt
 have x1 := xcell (HX0.out.cell_ 1 (v := vf) rfl) HX0.out.lt
 have x2 := xcell (HX0.out.cell_ 2 (v := vl) rfl) HX0.out.lt
 have x3 := xcell (HX0.out.cell_ 3 (v := .int .i64 m.c.hand) rfl) HX0.out.lt
 have x4 := xcell (HX0.out.cell_ 4 (v := .int .i64 m.g.count) rfl) HX0.out.lt
 have x5 := xcell (HX0.out.cell_ 5 (v := .int .i64 m.g.next) rfl) HX0.out.lt
 have x6 := xcell (HX0.out.cell_ 6 (v := .int .i64 m.g.round) rfl) HX0.out.lt
 have x7 := xcell (HX0.out.cell_ 7 (v := vo) rfl) HX0.out.lt
 have x8 := xcell (HX0.out.cell_ 8 (v := .int .i64 m.sp) rfl) HX0.out.lt
 have y0 := xcell (HK0.out.cell_ 0 (v := .int .i64 s) rfl) HK0.out.lt
 have y1 := xcell (HK0.out.cell_ 1 (v := .int .i64 p) rfl) HK0.out.lt
 have hne := fun W => neq_of (t := 61) (fun e w => eqIn_key (e + 1) s p (keyI s p) p w) W
 cases h1 : mav m with
 | false =>
  rw [h1] at HMV
  have HA : Hid (putOK m s p fr r = false) := by show _ = _; unfold putOK; rw [h1]; rfl
  have HV := Hd (putOK_false HA.out)
  go_enter Tryz.func99, Tryz.ntmps99
  go_wp2
  refine wp_region_ext (by kernel_rfl) (by kernel_rfl) ?_
  repeat (go_big_quiet_step ((first | (go_at_call 31; exact ext_call (HMV.out _ (HM.out.now (bT HB0.out (Ext.ok _))) (HF.out.now (bT HB0.out (Ext.ok _))))) | (go_at_call 44; exact ext_call (HKF.out _)))))
  refine wpQuiet_nil ?_
  intro _ hw'
  obtain ⟨⟨wq, hq⟩, hw''⟩ := hw'
  subst hw''
  try dsimp only
  have hb1 := hq
  clear x0 x1 x2 x3 x4 x5 x6 x7 x8 y0 y1
  have HX1 := Hd (HX0.out.below hb1)
  have HK1 := Hd (HK0.out.below hb1)
  have HR1 := Hd (HR0.out.below hb1)
  have HB1 := Hd (bT HB0.out hb1)
  have HS1 := Hd (Nat.le_trans HS0.out hb1.size)
  clear hb1
  obtain ⟨r0x, r1x, r2x, r3x, r4x, r5x, r6x, r7x, r8x⟩ := cells9 HR1.out
  obtain ⟨z0x, z1x, z2x, z3x, z4x, z5x, z6x, z7x, z8x⟩ := free9 HR1.out
  go_wp2
  obtain ⟨t0, t1, t2, t3, t4, t5, t6, t7, t8⟩ := cells9 (set9z HR1.out)
  refine bodyPost_ret (v := .tuple #[.agg #[.slice none 0 0, .slice none 0 0, .slice none 0 0, .int .i64 0, .int .i64 0, .int .i64 0, .int .i64 0, .slice none 0 0, .int .i64 0], .bool false]) (by simp [results, Tryz.results99, go_sem, t0, t1, t2, t3, t4, t5, t6, t7, t8]) rfl ⟨_, rfl, _, _, _, _, by rw [HA.out, HV.out]; rfl, by rw [HV.out]; exact mam_z, ?_⟩
  repeat (refine bS ?_ (by simp <;> omega))
  exact HB1.out
 | true =>
  rw [h1] at HMV
  by_cases h2 : keyI s p = s
  case neg =>
   have HA : Hid (putOK m s p fr r = false) := by show _ = _; unfold putOK; rw [decide_eq_false h2]; simp
   have HV := Hd (putOK_false HA.out)
   have hkq : keq s p (keyI s p) p = false := by unfold keq; simp; exact fun h => h2 h.symm
   rw [hkq] at hne
   generalize keyI s p = ks at *
   go_enter Tryz.func99, Tryz.ntmps99
   go_wp2
   refine wp_region_ext (by kernel_rfl) (by kernel_rfl) ?_
   repeat (go_big_quiet_step ((first | (go_at_call 31; exact ext_call (HMV.out _ (HM.out.now (bT HB0.out (Ext.ok _))) (HF.out.now (bT HB0.out (Ext.ok _))))) | (go_at_call 44; exact ext_call (HKF.out _)))))
   refine wpQuiet_nil ?_
   intro _ hw'
   obtain ⟨⟨wq, hq⟩, hw''⟩ := hw'
   subst hw''
   try dsimp only
   have hb1 := hq
   clear x0 x1 x2 x3 x4 x5 x6 x7 x8 y0 y1
   have HX1 := Hd (HX0.out.below hb1)
   have HK1 := Hd (HK0.out.below hb1)
   have HR1 := Hd (HR0.out.below hb1)
   have HB1 := Hd (bT HB0.out hb1)
   have HS1 := Hd (Nat.le_trans HS0.out hb1.size)
   clear hb1
   obtain ⟨r0x, r1x, r2x, r3x, r4x, r5x, r6x, r7x, r8x⟩ := cells9 HR1.out
   obtain ⟨z0x, z1x, z2x, z3x, z4x, z5x, z6x, z7x, z8x⟩ := free9 HR1.out
   go_wp2
   obtain ⟨t0, t1, t2, t3, t4, t5, t6, t7, t8⟩ := cells9 (set9z HR1.out)
   refine bodyPost_ret (v := .tuple #[.agg #[.slice none 0 0, .slice none 0 0, .slice none 0 0, .int .i64 0, .int .i64 0, .int .i64 0, .int .i64 0, .slice none 0 0, .int .i64 0], .bool false]) (by simp [results, Tryz.results99, go_sem, t0, t1, t2, t3, t4, t5, t6, t7, t8]) rfl ⟨_, rfl, _, _, _, _, by rw [HA.out, HV.out]; rfl, by rw [HV.out]; exact mam_z, ?_⟩
   repeat (refine bS ?_ (by simp <;> omega))
   exact HB1.out
  case pos =>
   have hkq : keq s p (keyI s p) p = true := by unfold keq; rw [h2]; simp
   rw [hkq] at hne
   rw [h2] at hne HKF
   obtain ⟨a1, a2, a3, a4⟩ := mav_len h1
   go_enter Tryz.func99, Tryz.ntmps99
   go_wp2
   refine wp_region_ext (by kernel_rfl) (by kernel_rfl) ?_
   repeat (go_big_quiet_step ((first | (go_at_call 31; exact ext_call (HMV.out _ (HM.out.now (bT HB0.out (Ext.ok _))) (HF.out.now (bT HB0.out (Ext.ok _))))) | (go_at_call 44; exact ext_call (HKF.out _)))))
   refine wpQuiet_nil ?_
   intro _ hw'
   obtain ⟨⟨wq, hq⟩, hw''⟩ := hw'
   subst hw''
   try dsimp only
   have hb1 := hq
   clear x0 x1 x2 x3 x4 x5 x6 x7 x8 y0 y1
   have HX1 := Hd (HX0.out.below hb1)
   have HK1 := Hd (HK0.out.below hb1)
   have HR1 := Hd (HR0.out.below hb1)
   have HB1 := Hd (bT HB0.out hb1)
   have HS1 := Hd (Nat.le_trans HS0.out hb1.size)
   clear hb1
   obtain ⟨m01, m11, m21, m31, m41, m51, m61, m71, m81⟩ := cells9 HX1.out
   have k01 := HK1.out.cell_ 0 (v := .int .i64 s) rfl
   have k11 := HK1.out.cell_ 1 (v := .int .i64 p) rfl
   go_wp2_with fail
   refine (MapPage_any vb vf m.t s p fr r _ (HM.out.t.now HB1.out) (HF.out.now HB1.out)).mono ?_
   rintro e w2 ⟨_, rfl, v1, v2, rfl, hT2, hb2⟩
   obtain ⟨A1, c1, rfl, _⟩ := hT2.b
   obtain ⟨A2, c2, rfl, _⟩ := hT2.f
   have hs1 := HS1.out
   have HX2 := Hd (HX1.out.below hb2)
   have HK2 := Hd (HK1.out.below hb2)
   have HR2 := Hd (HR1.out.below hb2)
   have HB2 := Hd (bT HB1.out hb2)
   have HS2 := Hd (Nat.le_trans HS1.out hb2.size)
   clear hb2
   clear m01 m11 m21 m31 m41 m51 m61 m71 m81
   clear k01 k11
   have ho5 := Own.new_ w2 40 #[.slice A1 (mapV m.t s p fr r).bs.length c1, .slice A2 (mapV m.t s p fr r).fs.length c2]
   have hb5 : Below w2.heap.size w2 (w2.alloc (.cells #[.slice A1 (mapV m.t s p fr r).bs.length c1, .slice A2 (mapV m.t s p fr r).fs.length c2] 40)) := bA bR
   generalize hW5 : w2.alloc (.cells #[.slice A1 (mapV m.t s p fr r).bs.length c1, .slice A2 (mapV m.t s p fr r).fs.length c2] 40) = w5 at ho5 hb5
   have HT5 := Hd ((hT2.now hb5).mono hs1)
   clear hT2
   have HX5 := Hd (HX2.out.below hb5)
   have HK5 := Hd (HK2.out.below hb5)
   have HR5 := Hd (HR2.out.below hb5)
   have HB5 := Hd (bT HB2.out hb5)
   have HS5 := Hd (Nat.le_trans HS2.out hb5.size)
   clear hb5
   cases h3 : mapOK m.t s p fr r with
   | false =>
    have HA : Hid (putOK m s p fr r = false) := by show _ = _; unfold putOK; rw [h3]; simp
    have HV := Hd (putOK_false HA.out)
    clear ho5
    obtain ⟨r0x, r1x, r2x, r3x, r4x, r5x, r6x, r7x, r8x⟩ := cells9 HR5.out
    obtain ⟨z0x, z1x, z2x, z3x, z4x, z5x, z6x, z7x, z8x⟩ := free9 HR5.out
    go_wp2
    obtain ⟨t0, t1, t2, t3, t4, t5, t6, t7, t8⟩ := cells9 (set9z HR5.out)
    refine bodyPost_ret (v := .tuple #[.agg #[.slice none 0 0, .slice none 0 0, .slice none 0 0, .int .i64 0, .int .i64 0, .int .i64 0, .int .i64 0, .slice none 0 0, .int .i64 0], .bool false]) (by simp [results, Tryz.results99, go_sem, t0, t1, t2, t3, t4, t5, t6, t7, t8]) rfl ⟨_, rfl, _, _, _, _, by rw [HA.out, HV.out]; rfl, by rw [HV.out]; exact mam_z, ?_⟩
    repeat (refine bS ?_ (by simp <;> omega))
    exact HB5.out
   | true =>
    have HA : Hid (putOK m s p fr r = true) := by show _ = _; unfold putOK; rw [h1, h3, decide_eq_true h2]; rfl
    have HV : Hid (putV m s p fr r = { m with t := mapV m.t s p fr r }) := by show _ = _; unfold putV; rw [HA.out]; rfl
    obtain ⟨m05, m15, m25, m35, m45, m55, m65, m75, m85⟩ := cells9 HX5.out
    go_wp2_with fail
    refine (mclone_any vb vf vl vo m _ (HM.out.now HB5.out) a1 a2 a3 a4).mono ?_
    rintro e w3 ⟨_, rfl, q1, q2, q3, q4, rfl, hM3, hb3⟩
    have hs2 := HS5.out
    have HT3 := Hd (HT5.out.now hb3)
    have HM3 := Hd (hM3.mono hs2)
    have ho3 := ho5.below hb3
    have u0 := ho3.cell_ 0 (v := .slice A1 (mapV m.t s p fr r).bs.length c1) rfl
    have u1 := ho3.cell_ 1 (v := .slice A2 (mapV m.t s p fr r).fs.length c2) rfl
    have hl5 := ho3.lt
    obtain ⟨B1, d1, rfl, _⟩ := HM3.out.t.b
    obtain ⟨B2, d2, rfl, _⟩ := HM3.out.t.f
    obtain ⟨B3, d3, rfl, _⟩ := HM3.out.l
    obtain ⟨B4, d4, rfl, _⟩ := HM3.out.o
    clear hM3 ho3 ho5
    have HX3 := Hd (HX5.out.below hb3)
    have HK3 := Hd (HK5.out.below hb3)
    have HR3 := Hd (HR5.out.below hb3)
    have HB3 := Hd (bT HB5.out hb3)
    have HS3 := Hd (Nat.le_trans HS5.out hb3.size)
    clear hb3
    clear m05 m15 m25 m35 m45 m55 m65 m75 m85
    obtain ⟨r0x, r1x, r2x, r3x, r4x, r5x, r6x, r7x, r8x⟩ := cells9 HR3.out
    obtain ⟨z0x, z1x, z2x, z3x, z4x, z5x, z6x, z7x, z8x⟩ := free9 HR3.out
    have hl3 := HR3.out.lt
    go_wp2
    have o3 := (((((((((HR3.out.set_ 0 (.slice A1 (mapV m.t s p fr r).bs.length c1)).set_ 1 (.slice A2 (mapV m.t s p fr r).fs.length c2)).set_ 2 (.slice B3 m.c.ls.length d3)).set_ 3 (.int .i64 m.c.hand)).set_ 4 (.int .i64 m.g.count)).set_ 5 (.int .i64 m.g.next)).set_ 6 (.int .i64 m.g.round)).set_ 7 (.slice B4 m.g.os.length d4)).set_ 8 (.int .i64 m.sp))
    have o4 := o3.alloc (o := .cells #[.slice A1 (mapV m.t s p fr r).bs.length c1, .slice A2 (mapV m.t s p fr r).fs.length c2, .slice B3 m.c.ls.length d3, .int .i64 m.c.hand, .int .i64 m.g.count, .int .i64 m.g.next, .int .i64 m.g.round, .slice B4 m.g.os.length d4, .int .i64 m.sp] 48)
    have v0 := o4.cell_ 0 (v := .slice A1 (mapV m.t s p fr r).bs.length c1) (by simp)
    have v1 := o4.cell_ 1 (v := .slice A2 (mapV m.t s p fr r).fs.length c2) (by simp)
    have v2 := o4.cell_ 2 (v := .slice B3 m.c.ls.length d3) (by simp)
    have v3 := o4.cell_ 3 (v := .int .i64 m.c.hand) (by simp)
    have v4 := o4.cell_ 4 (v := .int .i64 m.g.count) (by simp)
    have v5 := o4.cell_ 5 (v := .int .i64 m.g.next) (by simp)
    have v6 := o4.cell_ 6 (v := .int .i64 m.g.round) (by simp)
    have v7 := o4.cell_ 7 (v := .slice B4 m.g.os.length d4) (by simp)
    have v8 := o4.cell_ 8 (v := .int .i64 m.sp) (by simp)
    refine bodyPost_ret (v := .tuple #[.agg #[.slice A1 (mapV m.t s p fr r).bs.length c1, .slice A2 (mapV m.t s p fr r).fs.length c2, .slice B3 m.c.ls.length d3, .int .i64 m.c.hand, .int .i64 m.g.count, .int .i64 m.g.next, .int .i64 m.g.round, .slice B4 m.g.os.length d4, .int .i64 m.sp], .bool true]) (by simp [results, Tryz.results99, go_sem, v0, v1, v2, v3, v4, v5, v6, v7, v8]) rfl ⟨_, rfl, _, _, _, _, by rw [HA.out, HV.out], ?_, ?_⟩
    ·rw [HV.out]
     have hmm : MaM (w.heap.size + 3) w3 (.slice A1 (mapV m.t s p fr r).bs.length c1) (.slice A2 (mapV m.t s p fr r).fs.length c2) (.slice B3 m.c.ls.length d3) (.slice B4 m.g.os.length d4) { m with t := mapV m.t s p fr r } := ⟨HT3.out, HM3.out.l, HM3.out.o⟩
     refine MaM.mono (B := w.heap.size + 3) (MaM.now ?_ (bA bR)) (by omega)
     repeat (refine MaM.far ?_ (by show w.heap.size + 1 + 1 < w.heap.size + 3; omega))
     exact hmm
    ·refine bA ?_
     repeat (refine bS ?_ (by simp <;> omega))
     exact HB3.out
end Go.Proofs.YtibpnlojlfcpmaaGreatDoor
