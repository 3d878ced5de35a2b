/- A part of the proofs of this seat: ProtI, LnS. -/
import Derived.Test.YtnaagdmaggdbmaaGreatDoorQCaP
import Derived.Test.YtnaagdmaggdbmaaGreatDoorQMa
import Derived.Test.YtnaagdmaggdbmaaGreatDoorQCaS
set_option linter.unusedVariables false
set_option linter.unusedSimpArgs false
namespace Go.Proofs.YtnaagdmaggdbmaaGreatDoor
open Go.RowKit
set_option maxRecDepth 1000000
theorem prOK_false {t : Tab} {s p r : Int} (h : prOK t s p r = false) : prV t s p r = tabz := by unfold prV; rw [h]; rfl
theorem fndI_lt {fs : List Fr} {s p : Int} (h : 0 ≤ fndI fs s p) : ∃ (k : Nat) (f : Fr), fndI fs s p = (k : Int) ∧ fs[k]? = some f ∧ f.used = true ∧ (f.s, f.p) = (s, p) := by
 unfold fndI at h ⊢
 cases e : fnd fs s p with
 | none => rw [e] at h; simp at h
 | some i =>
  obtain ⟨f, h1, h2, h3⟩ := fnd_some e
  exact ⟨i, f, rfl, h1, h2, h3⟩
theorem find_p (vb vf : Value) (t : Tab) (s p : Int) (w : World) (hT : TaR w vb vf t) :
  Calls Tryz.prog 68 #[.agg #[vb, vf], .agg #[.int .i64 s, .int .i64 p]] w (Post2 fun v w' => v = .int .i64 (fndI t.fs s p) ∧ Below w.heap.size w w') := (find_any vb vf t s p w hT).mono fun _ _ h => ⟨_, h.1, rfl, h.2⟩
set_option maxHeartbeats 4000000 in
theorem ProtectPage_any (vb vf : Value) (t : Tab) (s p r : Int) (w : World) (hT : TaR w vb vf t) (hfree : Free w) :
    Calls Tryz.prog 61 #[.agg #[vb, vf], .agg #[.int .i64 s, .int .i64 p], .int .i64 r] w (Post2 fun v w' => ∃ v1 v2, v = .tuple #[.agg #[v1, v2], .bool (prOK t s p r)] ∧ TaM w.heap.size w' v1 v2 (prV t s p r) ∧ Below w.heap.size w w') := by
  have ht0 := ((Own.new_ w 26 #[vb, vf]).alloc (o := .cells #[.int .i64 s, .int .i64 p] 36)).alloc (o := .cells #[.slice none 0 0, .slice none 0 0] 26)
  have hk0 := (Own.new_ (w.alloc (.cells #[vb, vf] 26)) 36 #[.int .i64 s, .int .i64 p]).alloc (o := .cells #[.slice none 0 0, .slice none 0 0] 26)
  have hr0 := Own.new_ ((w.alloc (.cells #[vb, vf] 26)).alloc (.cells #[.int .i64 s, .int .i64 p] 36)) 26 #[.slice none 0 0, .slice none 0 0]
  have hb0 : Below w.heap.size w (((w.alloc (.cells #[vb, vf] 26)).alloc (.cells #[.int .i64 s, .int .i64 p] 36)).alloc (.cells #[.slice none 0 0, .slice none 0 0] 26)) := bA (bA (bA bR))
  rw [show (w.alloc (.cells #[vb, vf] 26)).heap.size = w.heap.size + 1 by simp] at hk0
  rw [show ((w.alloc (.cells #[vb, vf] 26)).alloc (.cells #[.int .i64 s, .int .i64 p] 36)).heap.size = w.heap.size + 1 + 1 by simp] at hr0
  have hs0 : (((w.alloc (.cells #[vb, vf] 26)).alloc (.cells #[.int .i64 s, .int .i64 p] 36)).alloc (.cells #[.slice none 0 0, .slice none 0 0] 26)).heap.size = w.heap.size + 3 := by simp
  generalize hW : ((w.alloc (.cells #[vb, vf] 26)).alloc (.cells #[.int .i64 s, .int .i64 p] 36)).alloc (.cells #[.slice none 0 0, .slice none 0 0] 26) = W0 at ht0 hk0 hr0 hb0 hs0
  have HT0 := Lib.hid ht0
  have HK0 := Lib.hid hk0
  have HR0 := Lib.hid hr0
  have HB0 := Lib.hid hb0
  clear ht0 hk0 hr0 hb0
  have t00 := HT0.out.cell_ 0 (v := vb) rfl
  have t10 := HT0.out.cell_ 1 (v := vf) rfl
  have k00 := HK0.out.cell_ 0 (v := .int .i64 s) rfl
  have k10 := HK0.out.cell_ 1 (v := .int .i64 p) rfl
  have HTR := Lib.hid hT
  have HF := Lib.hid hfree
  clear hT hfree
  go_enter Tryz.func61, Tryz.ntmps61
  go_wp2_with fail
  refine (TableValid_any vb vf t _ (HTR.out.now HB0.out) (HF.out.now HB0.out)).mono ?_
  rintro e w1 ⟨rfl, hb1⟩
  have HT1 := Lib.hid (HT0.out.below hb1)
  have HK1 := Lib.hid (HK0.out.below hb1)
  have HR1 := Lib.hid (HR0.out.below hb1)
  have HB1 := Lib.hid (bT HB0.out hb1)
  clear hb1
  have t01 := HT1.out.cell_ 0 rfl
  have t11 := HT1.out.cell_ 1 rfl
  have k01 := HK1.out.cell_ 0 (v := .int .i64 s) rfl
  have k11 := HK1.out.cell_ 1 (v := .int .i64 p) rfl
  have r01 := HR1.out.cell_ 0 (v := .slice none 0 0) rfl
  have r11 := HR1.out.cell_ 1 (v := .slice none 0 0) rfl
  have fr01 := HR1.out.free 0
  have fr11 := HR1.out.free 1
  clear t00 t10 k00 k10
  try clear r00 r10 fr00 fr10
  cases h1 : tv t with
  | false =>
    have HA : Hid (prOK t s p r = false) := by show _ = _; unfold prOK fOK; rw [h1]; rfl
    have HV := Lib.hid (prOK_false HA.out)
    go_wp2
    have o3 := (HR1.out.set_ 0 (.slice none 0 0)).set_ 1 (.slice none 0 0)
    have e0 := o3.cell_ 0 (v := .slice none 0 0) rfl
    have e1 := o3.cell_ 1 (v := .slice none 0 0) rfl
    refine bodyPost_ret (v := .tuple #[.agg #[.slice none 0 0, .slice none 0 0], .bool false]) (by simp [results, Tryz.results61, go_sem, e0, e1]) rfl ⟨_, rfl, _, _, by rw [HA.out], ?_, bS (bS HB1.out (by simp; omega)) (by simp; omega)⟩
    rw [HV.out]
    exact tam_z
  | true =>
    go_wp2_with fail
    refine (keyValid_any _ _ _).mono ?_
    rintro e w2 ⟨rfl, hb2⟩
    have HT2 := Lib.hid (HT1.out.below hb2)
    have HK2 := Lib.hid (HK1.out.below hb2)
    have HR2 := Lib.hid (HR1.out.below hb2)
    have HB2 := Lib.hid (bT HB1.out hb2)
    clear hb2
    have t02 := HT2.out.cell_ 0 rfl
    have t12 := HT2.out.cell_ 1 rfl
    have k02 := HK2.out.cell_ 0 (v := .int .i64 s) rfl
    have k12 := HK2.out.cell_ 1 (v := .int .i64 p) rfl
    have r02 := HR2.out.cell_ 0 (v := .slice none 0 0) rfl
    have r12 := HR2.out.cell_ 1 (v := .slice none 0 0) rfl
    have fr02 := HR2.out.free 0
    have fr12 := HR2.out.free 1
    clear t01 t11 k01 k11
    try clear r01 r11 fr01 fr11
    cases h2 : kval (s, p) with
    | false =>
      have HA : Hid (prOK t s p r = false) := by show _ = _; unfold prOK fOK; rw [h1, h2]; rfl
      have HV := Lib.hid (prOK_false HA.out)
      go_wp2
      have o3 := (HR2.out.set_ 0 (.slice none 0 0)).set_ 1 (.slice none 0 0)
      have e0 := o3.cell_ 0 (v := .slice none 0 0) rfl
      have e1 := o3.cell_ 1 (v := .slice none 0 0) rfl
      refine bodyPost_ret (v := .tuple #[.agg #[.slice none 0 0, .slice none 0 0], .bool false]) (by simp [results, Tryz.results61, go_sem, e0, e1]) rfl ⟨_, rfl, _, _, by rw [HA.out], ?_, bS (bS HB2.out (by simp; omega)) (by simp; omega)⟩
      rw [HV.out]
      exact tam_z
    | true =>
      go_wp2_with fail
      refine (find_any vb vf t s p _ (HTR.out.now HB2.out)).mono ?_
      rintro e w3 ⟨rfl, hb3⟩
      have HT3 := Lib.hid (HT2.out.below hb3)
      have HK3 := Lib.hid (HK2.out.below hb3)
      have HR3 := Lib.hid (HR2.out.below hb3)
      have HB3 := Lib.hid (bT HB2.out hb3)
      clear hb3
      have t03 := HT3.out.cell_ 0 rfl
      have t13 := HT3.out.cell_ 1 rfl
      have k03 := HK3.out.cell_ 0 (v := .int .i64 s) rfl
      have k13 := HK3.out.cell_ 1 (v := .int .i64 p) rfl
      have r03 := HR3.out.cell_ 0 (v := .slice none 0 0) rfl
      have r13 := HR3.out.cell_ 1 (v := .slice none 0 0) rfl
      have fr03 := HR3.out.free 0
      have fr13 := HR3.out.free 1
      clear t02 t12 k02 k12
      try clear r02 r12 fr02 fr12
      by_cases h3 : 0 ≤ fndI t.fs s p
      case neg =>
        have HA : Hid (prOK t s p r = false) := by show _ = _; unfold prOK fOK; rw [h1, h2, decide_eq_false h3]; rfl
        have HV := Lib.hid (prOK_false HA.out)
        have h3b : fndI t.fs s p < 0 := by omega
        go_wp2
        have o3 := (HR3.out.set_ 0 (.slice none 0 0)).set_ 1 (.slice none 0 0)
        have e0 := o3.cell_ 0 (v := .slice none 0 0) rfl
        have e1 := o3.cell_ 1 (v := .slice none 0 0) rfl
        refine bodyPost_ret (v := .tuple #[.agg #[.slice none 0 0, .slice none 0 0], .bool false]) (by simp [results, Tryz.results61, go_sem, e0, e1]) rfl ⟨_, rfl, _, _, by rw [HA.out], ?_, bS (bS HB3.out (by simp; omega)) (by simp; omega)⟩
        rw [HV.out]
        exact tam_z
      case pos =>
        obtain ⟨⟨_, hlen, hb1', hlen2⟩, _⟩ := tv_parts h1
        obtain ⟨k, f, hk, ef, hfu, hfk⟩ := fndI_lt h3
        have HFK := Lib.hid h3
        have h3b : ¬ fndI t.fs s p < 0 := by omega
        have HN := Lib.hid hk
        rw [hk] at h3 h3b ⊢
        cases h8 : inR r 8 with
        | false =>
          have HA : Hid (prOK t s p r = false) := by show _ = _; unfold prOK; rw [h8]; simp
          have HV := Lib.hid (prOK_false HA.out)
          clear hk ef hfk
          go_wp2_with fail
          refine (RightsValid_any _ _).mono ?_
          rintro e w4 ⟨rfl, rfl⟩
          rw [h8]
          go_wp2
          have o3 := (HR3.out.set_ 0 (.slice none 0 0)).set_ 1 (.slice none 0 0)
          have e0 := o3.cell_ 0 (v := .slice none 0 0) rfl
          have e1 := o3.cell_ 1 (v := .slice none 0 0) rfl
          refine bodyPost_ret (v := .tuple #[.agg #[.slice none 0 0, .slice none 0 0], .bool false]) (by simp [results, Tryz.results61, go_sem, e0, e1]) rfl ⟨_, rfl, _, _, by rw [HA.out], ?_, bS (bS HB3.out (by simp; omega)) (by simp; omega)⟩
          rw [HV.out]
          exact tam_z
        | true =>
          have HA : Hid (prOK t s p r = true) := by show _ = _; unfold prOK fOK; rw [h1, h2, h8, decide_eq_true HFK.out]; rfl
          have HV : Hid (prV t s p r = ⟨t.bs, t.fs.set k { f with r := r }⟩) := by
            show _ = _
            unfold prV
            rw [HA.out, if_pos rfl]
            unfold prT
            rw [HN.out, Int.toNat_natCast]
            simp only [List.getD_eq_getElem?_getD, ef]
            rfl
          have HEF := Lib.hid ef
          clear hk ef hfk
          go_wp2_with fail
          refine (RightsValid_any _ _).mono ?_
          rintro e w4 ⟨rfl, rfl⟩
          rw [h8]
          go_wp2_with fail
          refine (tclone_any vb _ t _ (HTR.out.now HB3.out) (by omega) (by omega)).mono ?_
          rintro e w4 ⟨v1, v2, rfl, hM4, hb4⟩
          have HM4S : Hid (w3.heap.size ≤ w4.heap.size) := hb4.size
          have HT4 := Lib.hid (HT3.out.below hb4)
          have HK4 := Lib.hid (HK3.out.below hb4)
          have HR4 := Lib.hid (HR3.out.below hb4)
          have HB4 := Lib.hid (bT HB3.out hb4)
          clear hb4
          have t04 := HT4.out.cell_ 0 rfl
          have t14 := HT4.out.cell_ 1 rfl
          have k04 := HK4.out.cell_ 0 (v := .int .i64 s) rfl
          have k14 := HK4.out.cell_ 1 (v := .int .i64 p) rfl
          have r04 := HR4.out.cell_ 0 (v := .slice none 0 0) rfl
          have r14 := HR4.out.cell_ 1 (v := .slice none 0 0) rfl
          have fr04 := HR4.out.free 0
          have fr14 := HR4.out.free 1
          clear t03 t13 k03 k13
          try clear r03 r13 fr03 fr13
          have hfl := (List.getElem?_eq_some_iff.1 HEF.out).1
          obtain ⟨g1, c1, g2, c2, rfl, rfl, e1, e2, l1, l2, hne, a1, a2, b1, b2, m1, m2⟩ := hM4.open_ hb1' (by omega)
          have ho5 := Own.new_ w4 26 #[.slice (some ⟨g1, 0, none⟩) t.bs.length c1, .slice (some ⟨g2, 0, none⟩) t.fs.length c2]
          have hb5 : Below w4.heap.size w4 (w4.alloc (.cells #[.slice (some ⟨g1, 0, none⟩) t.bs.length c1, .slice (some ⟨g2, 0, none⟩) t.fs.length c2] 26)) := bA bR
          generalize hW5 : w4.alloc (.cells #[.slice (some ⟨g1, 0, none⟩) t.bs.length c1, .slice (some ⟨g2, 0, none⟩) t.fs.length c2] 26) = w5 at ho5 hb5
          have M1 := Lib.hid (m1.below hb5)
          have M2 := Lib.hid (m2.below hb5)
          have HT5 := Lib.hid (HT4.out.below hb5)
          have HK5 := Lib.hid (HK4.out.below hb5)
          have HR5 := Lib.hid (HR4.out.below hb5)
          have HB5 := Lib.hid (bT HB4.out hb5)
          clear hb5
          have t05 := HT5.out.cell_ 0 rfl
          have t15 := HT5.out.cell_ 1 rfl
          have k05 := HK5.out.cell_ 0 (v := .int .i64 s) rfl
          have k15 := HK5.out.cell_ 1 (v := .int .i64 p) rfl
          have r05 := HR5.out.cell_ 0 (v := .slice none 0 0) rfl
          have r15 := HR5.out.cell_ 1 (v := .slice none 0 0) rfl
          have fr05 := HR5.out.free 0
          have fr15 := HR5.out.free 1
          clear t04 t14 k04 k14
          try clear r04 r14 fr04 fr14
          have o50 := ho5.cell_ 0 (v := .slice (some ⟨g1, 0, none⟩) t.bs.length c1) rfl
          have o51 := ho5.cell_ 1 (v := .slice (some ⟨g2, 0, none⟩) t.fs.length c2) rfl
          have HO5 := Lib.hid ho5
          clear hM4 ho5 m1 m2
          go_wp2
          go_region_law (first
            | (refine step_call rfl ?_ (find_p vb vf t s p _ (HTR.out.now (bD HB5.out))) ?_
               go_simp
               rintro vx w6 ⟨rfl, hb6⟩
               rw [HN.out]
               have hr6 := HR5.out.drew.below hb6
               have ho6 := HO5.out.drew.below hb6
               have o60 := ho6.cell_ 0 (v := .slice (some ⟨g1, 0, none⟩) t.bs.length c1) rfl
               have o61 := ho6.cell_ 1 (v := .slice (some ⟨g2, 0, none⟩) t.fs.length c2) rfl
               have r06 := hr6.cell_ 0 (v := .slice none 0 0) rfl
               have r16 := hr6.cell_ 1 (v := .slice none 0 0) rfl
               have fr06 := hr6.free 0
               have fr16 := hr6.free 1
               have N2 := (M2.out.below (w' := w5.drew) (bD bR)).below hb6
               have N1 := (M1.out.below (w' := w5.drew) (bD bR)).below hb6
               obtain ⟨bq, oq, eq1, _, y0, y1, y2, y3, y4⟩ := N2.is.fr HEF.out
               injection eq1 with eq1
               injection eq1 with eq1 eq2
               subst eq1 eq2
               rw [Nat.zero_add] at y0 y1 y2 y3 y4
               obtain ⟨_, cs2, u2, _, O2, _⟩ := N2.own (by omega)
               injection u2 with u2
               injection u2 with u2
               subst u2
               have fz := O2.free (k * 5 + 3)
               have P1 := Lib.hid N1
               have P2 := Lib.hid N2
               have HR6 := Lib.hid hr6
               have HO6 := Lib.hid ho6
               have HB6 := Lib.hid (bT (bD HB5.out) hb6)
               clear N1 N2 O2 y0 y1 y2 y4 hr6 ho6 hb6))
          all_goals
            have hsz3 := HB3.out.size
            have hsz4 := HM4S.out
            have hlt3 := HR3.out.lt
            have P3 := (P2.out.wrights HEF.out r)
            have P4 := P1.out.other (p := ⟨g2, k * 5 + 3, none⟩) (u := .int .i64 r) hne.symm
            have R7 := HR6.out.far (p := ⟨g2, k * 5 + 3, none⟩) (u := .int .i64 r) (by simp; omega)
            have r07 := R7.cell_ 0 (v := .slice none 0 0) rfl
            have r17 := R7.cell_ 1 (v := .slice none 0 0) rfl
            have fr07 := R7.free 0
            have fr17 := R7.free 1
            have O7 := HO6.out.far (p := ⟨g2, k * 5 + 3, none⟩) (u := .int .i64 r) (by simp; omega)
            have o70 := O7.cell_ 0 (v := .slice (some ⟨g1, 0, none⟩) t.bs.length c1) rfl
            have o71 := O7.cell_ 1 (v := .slice (some ⟨g2, 0, none⟩) t.fs.length c2) rfl
            have RR := Lib.hid R7
            have PP3 := Lib.hid P3
            have PP4 := Lib.hid P4
            have HB7 := Lib.hid (HB6.out.setCell (p := ⟨g2, k * 5 + 3, none⟩) (by show w.heap.size ≤ g2; omega) (.int .i64 r))
            clear R7 P3 P4 O7
            go_wp2
            have o3 := (RR.out.set_ 0 (.slice (some ⟨g1, 0, none⟩) t.bs.length c1)).set_ 1 (.slice (some ⟨g2, 0, none⟩) t.fs.length c2)
            have e0 := o3.cell_ 0 (v := .slice (some ⟨g1, 0, none⟩) t.bs.length c1) rfl
            have e1 := o3.cell_ 1 (v := .slice (some ⟨g2, 0, none⟩) t.fs.length c2) rfl
            have Q3 := (PP3.out.far (p := ⟨w.heap.size + 1 + 1, 0, none⟩) (u := .slice (some ⟨g1, 0, none⟩) t.bs.length c1) hlt3).far (p := ⟨w.heap.size + 1 + 1, 1, none⟩) (u := .slice (some ⟨g2, 0, none⟩) t.fs.length c2) hlt3
            have Q4 := (PP4.out.far (p := ⟨w.heap.size + 1 + 1, 0, none⟩) (u := .slice (some ⟨g1, 0, none⟩) t.bs.length c1) hlt3).far (p := ⟨w.heap.size + 1 + 1, 1, none⟩) (u := .slice (some ⟨g2, 0, none⟩) t.fs.length c2) hlt3
            refine bodyPost_ret (v := .tuple #[.agg #[.slice (some ⟨g1, 0, none⟩) t.bs.length c1, .slice (some ⟨g2, 0, none⟩) t.fs.length c2], .bool true]) (by simp [results, Tryz.results61, go_sem, e0, e1]) rfl ⟨_, rfl, _, _, by rw [HA.out], ?_, bS (bS HB7.out (by simp; omega)) (by simp; omega)⟩
            rw [HV.out]
            exact ⟨slm_of rfl a1 a2 (Q4.mono hsz3), slm_of (by simp) (by simpa using b1) b2 (Q3.mono hsz3)⟩
end Go.Proofs.YtnaagdmaggdbmaaGreatDoor
namespace Go.Proofs.YtnaagdmaggdbmaaGreatDoor
open Go.RowKit
set_option maxRecDepth 1000000
set_option maxHeartbeats 4000000 in
theorem l6Line_any (vb vf vl vo : Value) (m : Ma) (xt xp xf xr : Int) (xw : Bool) (w : World) (hM : MaR w vb vf vl vo m) (htv : tv m.t = true) (hgv : tgv m.g = true) (hp256 : inR xp 256 = true) :
    Calls Tryz.prog 116 #[.agg #[vb, vf, vl, .int .i64 m.c.hand, .int .i64 m.g.count, .int .i64 m.g.next, .int .i64 m.g.round, vo, .int .i64 m.sp], .agg #[.bool true, .int .i64 xt, .int .i64 xp, .int .i64 xf, .int .i64 xr, .bool xw]] w fun r w' => r = .returned (.bool (lnM m ⟨true, xt, xp, xf, xr, xw⟩)) ∧ Below w.heap.size w w' := by
  have HM := Lib.hid hM
  obtain ⟨Af, cf, rfl, hfc, hfm, hF⟩ := hM.t.f
  have HFS := Lib.hid hF
  clear hM hF
  have hbx := (Own.new_ w 34 #[vb, .slice Af m.t.fs.length cf, vl, .int .i64 m.c.hand, .int .i64 m.g.count, .int .i64 m.g.next, .int .i64 m.g.round, vo, .int .i64 m.sp]).alloc (o := .cells #[.bool true, .int .i64 xt, .int .i64 xp, .int .i64 xf, .int .i64 xr, .bool xw] 106)
  have hbl := Own.new_ (w.alloc (.cells #[vb, .slice Af m.t.fs.length cf, vl, .int .i64 m.c.hand, .int .i64 m.g.count, .int .i64 m.g.next, .int .i64 m.g.round, vo, .int .i64 m.sp] 34)) 106 #[.bool true, .int .i64 xt, .int .i64 xp, .int .i64 xf, .int .i64 xr, .bool xw]
  have hb0 : Below w.heap.size w ((w.alloc (.cells #[vb, .slice Af m.t.fs.length cf, vl, .int .i64 m.c.hand, .int .i64 m.g.count, .int .i64 m.g.next, .int .i64 m.g.round, vo, .int .i64 m.sp] 34)).alloc (.cells #[.bool true, .int .i64 xt, .int .i64 xp, .int .i64 xf, .int .i64 xr, .bool xw] 106)) := bA (bA bR)
  rw [show (w.alloc (.cells #[vb, .slice Af m.t.fs.length cf, vl, .int .i64 m.c.hand, .int .i64 m.g.count, .int .i64 m.g.next, .int .i64 m.g.round, vo, .int .i64 m.sp] 34)).heap.size = w.heap.size + 1 by simp] at hbl
  generalize hW : (w.alloc (.cells #[vb, .slice Af m.t.fs.length cf, vl, .int .i64 m.c.hand, .int .i64 m.g.count, .int .i64 m.g.next, .int .i64 m.g.round, vo, .int .i64 m.sp] 34)).alloc (.cells #[.bool true, .int .i64 xt, .int .i64 xp, .int .i64 xf, .int .i64 xr, .bool xw] 106) = W0 at hbx hbl hb0
  have HX0 := Lib.hid hbx
  have HL0 := Lib.hid hbl
  have HB0 := Lib.hid hb0
  clear hbx hbl hb0
  have m0 := HX0.out.cell_ 0 (v := vb) rfl
  have m1 := HX0.out.cell_ 1 (v := .slice Af m.t.fs.length cf) rfl
  have m4 := HX0.out.cell_ 4 (v := .int .i64 m.g.count) rfl
  have m5 := HX0.out.cell_ 5 (v := .int .i64 m.g.next) rfl
  have m6 := HX0.out.cell_ 6 (v := .int .i64 m.g.round) rfl
  have m7 := HX0.out.cell_ 7 (v := vo) rfl
  have x1 := HL0.out.cell_ 1 (v := .int .i64 xt) rfl
  have x2 := HL0.out.cell_ 2 (v := .int .i64 xp) rfl
  by_cases hp : 128 ≤ xp
  case pos =>
    by_cases ht : xt = -1
    case neg =>
      have HE : Hid (lnM m ⟨true, xt, xp, xf, xr, xw⟩ = false) := lnM_sh rfl (fun h => ht (h.1 hp))
      have ht3 : (xt == (-1 : Int)) = false := by rw [beq_eq_false_iff_ne]; exact ht
      go_enter Tryz.func116, Tryz.ntmps116
      go_wp2
      go_ret
      exact ⟨by rw [HE.out]; rfl, HB0.out⟩
    case pos =>
      subst ht
      have hln := lnM_at2 (m := m) (f := xf) (r := xr) (w := xw) ⟨fun _ => rfl, fun _ => hp⟩ (lnSp_sh hp)
      have hkv := lnSp_kval (m := m) (x := ⟨true, -1, xp, xf, xr, xw⟩) hgv hp256 (lnSp_sh hp)
      go_enter Tryz.func116, Tryz.ntmps116
      go_wp2
      have HK := Lib.hid (sKeyFor_any 0 xp)
      have HFN := Lib.hid (fun W (h : TaR W vb (.slice Af m.t.fs.length cf) m.t) => l3Find_any vb (.slice Af m.t.fs.length cf) m.t (keyI 0 xp) xp W h htv hkv)
      have hidx := @fndI_lt m.t.fs (keyI 0 xp) xp
      generalize keyI 0 xp = ks at *
      generalize hN : fndI m.t.fs ks xp = N at *
      go_region_held_law (fun w' => w'.cell? ⟨w.heap.size, 0, none⟩ = some vb ∧ w'.cell? ⟨w.heap.size, 1, none⟩ = some (.slice Af m.t.fs.length cf) ∧ w'.cell? ⟨w.heap.size + 1, 2, none⟩ = some (.int .i64 xp)) (go_keep) (first
        | (go_at_call 49
           refine (HK.out _).mono ?_
           rintro _ w5 ⟨rfl, hb5⟩
           have HB5 := Lib.hid (bT (bD HB0.out) hb5)
           have HX5 := Lib.hid (HX0.out.drew.below hb5)
           have HL5 := Lib.hid (HL0.out.drew.below hb5)
           have d0 := HX5.out.cell_ 0 (v := vb) rfl
           have d1 := HX5.out.cell_ 1 (v := .slice Af m.t.fs.length cf) rfl
           have d2 := HL5.out.cell_ 2 (v := .int .i64 xp) rfl
           clear hb5)
        | (go_at_call 144
           refine (HFN.out _ (HM.out.t.now HB5.out)).mono ?_
           rintro _ w6 ⟨stp, rfl, hb6⟩
           have HB6 := Lib.hid (bT HB5.out hb6)
           have HX6 := Lib.hid (HX5.out.below hb6)
           have HL6 := Lib.hid (HL5.out.below hb6)
           have e0 := HX6.out.cell_ 0 (v := vb) rfl
           have e1 := HX6.out.cell_ 1 (v := .slice Af m.t.fs.length cf) rfl
           have e2 := HL6.out.cell_ 2 (v := .int .i64 xp) rfl
           clear hb6 d0 d1 d2))
      all_goals
        clear m0 m1 m4 m5 m6 m7 x1 x2 e0 e1 e2
        have l1 := xcell (HL6.out.cell_ 1 (v := .int .i64 (-1)) rfl) HL6.out.lt
        have l3 := xcell (HL6.out.cell_ 3 (v := .int .i64 xf) rfl) HL6.out.lt
        have l4 := xcell (HL6.out.cell_ 4 (v := .int .i64 xr) rfl) HL6.out.lt
        have l5 := xcell (HL6.out.cell_ 5 (v := .bool xw) rfl) HL6.out.lt
        have l6 := xcell (HX6.out.cell_ 1 (v := .slice Af m.t.fs.length cf) rfl) HX6.out.lt
        by_cases hn : 0 ≤ N
        case neg =>
          have HE : Hid (lnM m ⟨true, -1, xp, xf, xr, xw⟩ = false) := by show _ = _; rw [hln, decide_eq_false hn]; rfl
          clear hidx hln
          go_wp2
          have hn2 : ¬ 0 ≤ N := by omega
          refine wp_region_ext (by kernel_rfl) (by kernel_rfl) ?_
          repeat (go_big_quiet_step (fail))
          refine wpQuiet_nil ?_
          intro _ hw'
          obtain ⟨⟨wq, hq⟩, hw''⟩ := hw'
          subst hw''
          try dsimp only
          go_wp2
          go_ret
          exact ⟨by rw [HE.out]; rfl, bT HB6.out hq⟩
        case pos =>
          obtain ⟨i, f, rfl, ef, _, _⟩ := hidx hn
          obtain ⟨b', o', eA, hbb', f0, f1, f2, f3, f4⟩ := (HFS.out.below HB6.out).fr ef
          subst eA
          have hfr := xcell f3 (by have := HB6.out.size; show b' < _; omega)
          rw [decide_eq_true hn, Int.toNat_natCast, List.getD_eq_getElem?_getD, ef, Option.getD_some, Bool.true_and] at hln
          have hil := (List.getElem?_eq_some_iff.1 ef).1
          clear f0 f1 f2 f3 f4 ef hidx
          by_cases hf : (i : Int) = xf
          case neg =>
            have HE : Hid (lnM m ⟨true, -1, xp, xf, xr, xw⟩ = false) := by show _ = _; rw [hln, decide_eq_false hf]; rfl
            clear hln
            go_wp2
            have hf2 : ((i : Int) == xf) = false := by rw [beq_eq_false_iff_ne]; exact hf
            have hn2 : 0 ≤ (i : Int) := by omega
            refine wp_region_ext (by kernel_rfl) (by kernel_rfl) ?_
            repeat (go_big_quiet_step (fail))
            refine wpQuiet_nil ?_
            intro _ hw'
            obtain ⟨⟨wq, hq⟩, hw''⟩ := hw'
            subst hw''
            try dsimp only
            go_wp2
            go_ret
            exact ⟨by rw [HE.out]; rfl, bT HB6.out hq⟩
          case pos =>
          subst hf
          by_cases hr : f.r = xr
          case neg =>
            have HE : Hid (lnM m ⟨true, -1, xp, i, xr, xw⟩ = false) := by show _ = _; rw [hln, decide_eq_false hr]; simp
            clear hln
            go_wp2
            have hr2 : (f.r == xr) = false := by rw [beq_eq_false_iff_ne]; exact hr
            have hn2 : 0 ≤ (i : Int) := by omega
            refine wp_region_ext (by kernel_rfl) (by kernel_rfl) ?_
            repeat (go_big_quiet_step (fail))
            refine wpQuiet_nil ?_
            intro _ hw'
            obtain ⟨⟨wq, hq⟩, hw''⟩ := hw'
            subst hw''
            try dsimp only
            go_wp2
            go_ret
            exact ⟨by rw [HE.out]; rfl, bT HB6.out hq⟩
          case pos =>
            subst hr
            rw [decide_eq_true rfl, decide_eq_true rfl, Bool.true_and, Bool.true_and] at hln
            cases xw with
            | false =>
              have HE : Hid (lnM m ⟨true, -1, xp, i, f.r, false⟩ = true) := by show _ = _; rw [hln]; rfl
              clear hln
              go_wp2
              have hf2 : ((i : Int) == (i : Int)) = true := beq_self_eq_true _
              have hr2 : (f.r == f.r) = true := beq_self_eq_true _
              have hn2 : 0 ≤ (i : Int) := by omega
              refine wp_region_ext (by kernel_rfl) (by kernel_rfl) ?_
              repeat (go_big_quiet_step (fail))
              refine wpQuiet_nil ?_
              intro _ hw'
              obtain ⟨⟨wq, hq⟩, hw''⟩ := hw'
              subst hw''
              try dsimp only
              go_wp2
              go_ret
              exact ⟨by rw [HE.out]; rfl, bT HB6.out hq⟩
            | true =>
              have HE : Hid (lnM m ⟨true, -1, xp, i, f.r, true⟩ = true) := by show _ = _; rw [hln, decide_eq_true hp]; rfl
              clear hln
              go_wp2
              have hf2 : ((i : Int) == (i : Int)) = true := beq_self_eq_true _
              have hr2 : (f.r == f.r) = true := beq_self_eq_true _
              have hn2 : 0 ≤ (i : Int) := by omega
              have ht4 : ((-1 : Int) == (-1 : Int)) = true := rfl
              refine wp_region_ext (by kernel_rfl) (by kernel_rfl) ?_
              repeat (go_big_quiet_step (fail))
              refine wpQuiet_nil ?_
              intro _ hw'
              obtain ⟨⟨wq, hq⟩, hw''⟩ := hw'
              subst hw''
              try dsimp only
              go_wp2
              go_ret
              exact ⟨by rw [HE.out]; rfl, bT HB6.out hq⟩
  case neg =>
    by_cases ht : xt = -1
    case pos =>
      subst ht
      have HE : Hid (lnM m ⟨true, -1, xp, xf, xr, xw⟩ = false) := lnM_sh rfl (fun h => hp (h.2 rfl))
      go_enter Tryz.func116, Tryz.ntmps116
      go_wp2
      go_ret
      exact ⟨by rw [HE.out]; rfl, HB0.out⟩
    case neg =>
      have hop := lnSp_of (m := m) (x := ⟨true, xt, xp, xf, xr, xw⟩) hgv hp
      have ht2 : (xt != (-1 : Int)) = true := by rw [bne_iff_ne]; exact ht
      have ht3 : (xt == (-1 : Int)) = false := by rw [beq_eq_false_iff_ne]; exact ht
      go_enter Tryz.func116, Tryz.ntmps116
      go_wp2_with fail
      refine (sSpaceOf_any vo m.g xt _ (HM.out.o.now HB0.out)).mono ?_
      rintro e w1 ⟨rfl, hb1⟩
      have HX1 := Lib.hid (HX0.out.below hb1)
      have HL1 := Lib.hid (HL0.out.below hb1)
      have HB1 := Lib.hid (bT HB0.out hb1)
      clear hb1 m0 m1 m4 m5 m6 m7 x1 x2
      have m0 := HX1.out.cell_ 0 (v := vb) rfl
      have m1 := HX1.out.cell_ 1 (v := .slice Af m.t.fs.length cf) rfl
      have m4 := HX1.out.cell_ 4 (v := .int .i64 m.g.count) rfl
      have m5 := HX1.out.cell_ 5 (v := .int .i64 m.g.next) rfl
      have m6 := HX1.out.cell_ 6 (v := .int .i64 m.g.round) rfl
      have m7 := HX1.out.cell_ 7 (v := vo) rfl
      have x1 := HL1.out.cell_ 1 (v := .int .i64 xt) rfl
      have x2 := HL1.out.cell_ 2 (v := .int .i64 xp) rfl
      cases hso : spO m.g xt with
      | false =>
        have HE : Hid (lnM m ⟨true, xt, xp, xf, xr, xw⟩ = false) := lnM_sp rfl (hop.2 hso)
        go_wp2
        go_ret
        exact ⟨by rw [HE.out]; rfl, HB1.out⟩
      | true =>
        have hsp := hop.1 hso
        have hln := lnM_at2 (m := m) (f := xf) (r := xr) (w := xw) ⟨fun h => absurd h (by omega), fun h => absurd h ht⟩ hsp
        have hkv := lnSp_kval (m := m) (x := ⟨true, xt, xp, xf, xr, xw⟩) hgv hp256 hsp
        generalize spV m.g xt = sp at *
        clear hop hsp
        go_wp2
        have HK := Lib.hid (sKeyFor_any sp xp)
        have HFN := Lib.hid (fun W (h : TaR W vb (.slice Af m.t.fs.length cf) m.t) => l3Find_any vb (.slice Af m.t.fs.length cf) m.t (keyI sp xp) xp W h htv hkv)
        have hidx := @fndI_lt m.t.fs (keyI sp xp) xp
        generalize keyI sp xp = ks at *
        generalize hN : fndI m.t.fs ks xp = N at *
        go_region_held_law (fun w' => w'.cell? ⟨w.heap.size, 0, none⟩ = some vb ∧ w'.cell? ⟨w.heap.size, 1, none⟩ = some (.slice Af m.t.fs.length cf) ∧ w'.cell? ⟨w.heap.size + 1, 2, none⟩ = some (.int .i64 xp)) (go_keep) (first
          | (go_at_call 49
             refine (HK.out _).mono ?_
             rintro _ w5 ⟨rfl, hb5⟩
             have HB5 := Lib.hid (bT (bD HB1.out) hb5)
             have HX5 := Lib.hid (HX1.out.drew.below hb5)
             have HL5 := Lib.hid (HL1.out.drew.below hb5)
             have d0 := HX5.out.cell_ 0 (v := vb) rfl
             have d1 := HX5.out.cell_ 1 (v := .slice Af m.t.fs.length cf) rfl
             have d2 := HL5.out.cell_ 2 (v := .int .i64 xp) rfl
             clear hb5)
          | (go_at_call 144
             refine (HFN.out _ (HM.out.t.now HB5.out)).mono ?_
             rintro _ w6 ⟨stp, rfl, hb6⟩
             have HB6 := Lib.hid (bT HB5.out hb6)
             have HX6 := Lib.hid (HX5.out.below hb6)
             have HL6 := Lib.hid (HL5.out.below hb6)
             have e0 := HX6.out.cell_ 0 (v := vb) rfl
             have e1 := HX6.out.cell_ 1 (v := .slice Af m.t.fs.length cf) rfl
             have e2 := HL6.out.cell_ 2 (v := .int .i64 xp) rfl
             clear hb6 d0 d1 d2))
        all_goals
          clear m0 m1 m4 m5 m6 m7 x1 x2 e0 e1 e2
          have l1 := xcell (HL6.out.cell_ 1 (v := .int .i64 (xt)) rfl) HL6.out.lt
          have l3 := xcell (HL6.out.cell_ 3 (v := .int .i64 xf) rfl) HL6.out.lt
          have l4 := xcell (HL6.out.cell_ 4 (v := .int .i64 xr) rfl) HL6.out.lt
          have l5 := xcell (HL6.out.cell_ 5 (v := .bool xw) rfl) HL6.out.lt
          have l6 := xcell (HX6.out.cell_ 1 (v := .slice Af m.t.fs.length cf) rfl) HX6.out.lt
          by_cases hn : 0 ≤ N
          case neg =>
            have HE : Hid (lnM m ⟨true, xt, xp, xf, xr, xw⟩ = false) := by show _ = _; rw [hln, decide_eq_false hn]; rfl
            clear hidx hln
            go_wp2
            have hn2 : ¬ 0 ≤ N := by omega
            refine wp_region_ext (by kernel_rfl) (by kernel_rfl) ?_
            repeat (go_big_quiet_step (fail))
            refine wpQuiet_nil ?_
            intro _ hw'
            obtain ⟨⟨wq, hq⟩, hw''⟩ := hw'
            subst hw''
            try dsimp only
            go_wp2
            go_ret
            exact ⟨by rw [HE.out]; rfl, bT HB6.out hq⟩
          case pos =>
            obtain ⟨i, f, rfl, ef, _, _⟩ := hidx hn
            obtain ⟨b', o', eA, hbb', f0, f1, f2, f3, f4⟩ := (HFS.out.below HB6.out).fr ef
            subst eA
            have hfr := xcell f3 (by have := HB6.out.size; show b' < _; omega)
            rw [decide_eq_true hn, Int.toNat_natCast, List.getD_eq_getElem?_getD, ef, Option.getD_some, Bool.true_and] at hln
            have hil := (List.getElem?_eq_some_iff.1 ef).1
            clear f0 f1 f2 f3 f4 ef hidx
            by_cases hf : (i : Int) = xf
            case neg =>
              have HE : Hid (lnM m ⟨true, xt, xp, xf, xr, xw⟩ = false) := by show _ = _; rw [hln, decide_eq_false hf]; rfl
              clear hln
              go_wp2
              have hf2 : ((i : Int) == xf) = false := by rw [beq_eq_false_iff_ne]; exact hf
              have hn2 : 0 ≤ (i : Int) := by omega
              refine wp_region_ext (by kernel_rfl) (by kernel_rfl) ?_
              repeat (go_big_quiet_step (fail))
              refine wpQuiet_nil ?_
              intro _ hw'
              obtain ⟨⟨wq, hq⟩, hw''⟩ := hw'
              subst hw''
              try dsimp only
              go_wp2
              go_ret
              exact ⟨by rw [HE.out]; rfl, bT HB6.out hq⟩
            case pos =>
            subst hf
            by_cases hr : f.r = xr
            case neg =>
              have HE : Hid (lnM m ⟨true, xt, xp, i, xr, xw⟩ = false) := by show _ = _; rw [hln, decide_eq_false hr]; simp
              clear hln
              go_wp2
              have hr2 : (f.r == xr) = false := by rw [beq_eq_false_iff_ne]; exact hr
              have hn2 : 0 ≤ (i : Int) := by omega
              refine wp_region_ext (by kernel_rfl) (by kernel_rfl) ?_
              repeat (go_big_quiet_step (fail))
              refine wpQuiet_nil ?_
              intro _ hw'
              obtain ⟨⟨wq, hq⟩, hw''⟩ := hw'
              subst hw''
              try dsimp only
              go_wp2
              go_ret
              exact ⟨by rw [HE.out]; rfl, bT HB6.out hq⟩
            case pos =>
              subst hr
              rw [decide_eq_true rfl, decide_eq_true rfl, Bool.true_and, Bool.true_and] at hln
              cases xw with
              | false =>
                have HE : Hid (lnM m ⟨true, xt, xp, i, f.r, false⟩ = true) := by show _ = _; rw [hln]; rfl
                clear hln
                go_wp2
                have hf2 : ((i : Int) == (i : Int)) = true := beq_self_eq_true _
                have hr2 : (f.r == f.r) = true := beq_self_eq_true _
                have hn2 : 0 ≤ (i : Int) := by omega
                refine wp_region_ext (by kernel_rfl) (by kernel_rfl) ?_
                repeat (go_big_quiet_step (fail))
                refine wpQuiet_nil ?_
                intro _ hw'
                obtain ⟨⟨wq, hq⟩, hw''⟩ := hw'
                subst hw''
                try dsimp only
                go_wp2
                go_ret
                exact ⟨by rw [HE.out]; rfl, bT HB6.out hq⟩
              | true =>
                have HE : Hid (lnM m ⟨true, xt, xp, i, f.r, true⟩ = false) := by show _ = _; rw [hln, decide_eq_false (show ¬ 128 ≤ xp by omega)]; rfl
                clear hln
                go_wp2
                have hf2 : ((i : Int) == (i : Int)) = true := beq_self_eq_true _
                have hr2 : (f.r == f.r) = true := beq_self_eq_true _
                have hn2 : 0 ≤ (i : Int) := by omega
                have ht4 : ((xt : Int) == (-1 : Int)) = false := by rw [beq_eq_false_iff_ne]; exact ht
                refine wp_region_ext (by kernel_rfl) (by kernel_rfl) ?_
                repeat (go_big_quiet_step (fail))
                refine wpQuiet_nil ?_
                intro _ hw'
                obtain ⟨⟨wq, hq⟩, hw''⟩ := hw'
                subst hw''
                try dsimp only
                go_wp2
                go_ret
                exact ⟨by rw [HE.out]; rfl, bT HB6.out hq⟩
end Go.Proofs.YtnaagdmaggdbmaaGreatDoor
