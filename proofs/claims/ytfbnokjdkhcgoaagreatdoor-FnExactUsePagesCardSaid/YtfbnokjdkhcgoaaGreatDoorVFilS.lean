/- A part of the proofs of this seat: FilS. -/
import Derived.Test.YtfbnokjdkhcgoaaGreatDoorVVal
set_option linter.unusedVariables false
set_option linter.unusedSimpArgs false
set_option maxRecDepth 1000000
namespace Go.Proofs.YtfbnokjdkhcgoaaGreatDoor
open Go.RowKit
theorem filOK_false {c : Ca} {x : Ln} (h : filOK c x = false) : filV c x = caz := by unfold filV; rw [h]; rfl
theorem filOK_true {c : Ca} {x : Ln} (h : filOK c x = true) : filV c x = filC c x := by unfold filV; rw [h]; rfl
def filA (c : Ca) (x : Ln) : Int := if filOK c x = true then vic c else 0
theorem filA_false {c : Ca} {x : Ln} (h : filOK c x = false) : filA c x = 0 := by unfold filA; rw [h]; rfl
set_option maxHeartbeats 4000000 in
theorem sFillLine_any (vl : Value) (c : Ca) (x : Ln) (w : World) (hT : SlR lnE w vl c.ls) :
  Calls Tryz.prog 166 #[.agg #[vl, .int .i64 c.hand], lnV x] w (Post2 fun v w' => ∃ v1, v = .tuple #[.agg #[v1, .int .i64 (filV c x).hand], .int .i64 (filA c x), .bool (filOK c x)] ∧ SlM lnE 50 w.heap.size w' v1 (filV c x).ls ∧ Below w.heap.size w w') := by
 unfold lnV
 have HV0 := Hd hT
 obtain ⟨A, cc, rfl, hbc, hbm, hL⟩ := hT
 have hbx := ((Own.new_ w 29 #[.slice A c.ls.length cc, .int .i64 c.hand]).alloc (o := .cells #[.bool x.v, .int .i64 x.t, .int .i64 x.p, .int .i64 x.f, .int .i64 x.r, .bool x.w] 50)).alloc (o := .cells #[.slice none 0 0, .int .i64 0] 29)
 have hbl := (ownAt (W := w.alloc (.cells #[.slice A c.ls.length cc, .int .i64 c.hand] 29)) (g := w.heap.size + 1) (t := 50) (cs := #[.bool x.v, .int .i64 x.t, .int .i64 x.p, .int .i64 x.f, .int .i64 x.r, .bool x.w]) (by simp)).alloc (o := .cells #[.slice none 0 0, .int .i64 0] 29)
 have hbo := ownAt (W := (w.alloc (.cells #[.slice A c.ls.length cc, .int .i64 c.hand] 29)).alloc (.cells #[.bool x.v, .int .i64 x.t, .int .i64 x.p, .int .i64 x.f, .int .i64 x.r, .bool x.w] 50)) (g := w.heap.size + 1 + 1) (t := 29) (cs := #[.slice none 0 0, .int .i64 0]) (by simp)
 have hb0 : Below w.heap.size w (((w.alloc (.cells #[.slice A c.ls.length cc, .int .i64 c.hand] 29)).alloc (.cells #[.bool x.v, .int .i64 x.t, .int .i64 x.p, .int .i64 x.f, .int .i64 x.r, .bool x.w] 50)).alloc (.cells #[.slice none 0 0, .int .i64 0] 29)) := bA (bA (bA bR))
 have hs0 : (((w.alloc (.cells #[.slice A c.ls.length cc, .int .i64 c.hand] 29)).alloc (.cells #[.bool x.v, .int .i64 x.t, .int .i64 x.p, .int .i64 x.f, .int .i64 x.r, .bool x.w] 50)).alloc (.cells #[.slice none 0 0, .int .i64 0] 29)).heap.size = w.heap.size + 3 := by simp
 generalize hW : ((w.alloc (.cells #[.slice A c.ls.length cc, .int .i64 c.hand] 29)).alloc (.cells #[.bool x.v, .int .i64 x.t, .int .i64 x.p, .int .i64 x.f, .int .i64 x.r, .bool x.w] 50)).alloc (.cells #[.slice none 0 0, .int .i64 0] 29) = W0 at hbx hbl hbo hb0 hs0
 have HX0 := Hd hbx
 have HL0 := Hd hbl
 have HR0 := Hd hbo
 have HB0 := Hd hb0
 have HS0 : Hid (w.heap.size + 3 ≤ W0.heap.size) := Nat.le_of_eq hs0.symm
 have HLR := Hd hL
 clear hbx hbl hbo hb0 hL
 have q0 := HX0.out.cell_ 0 (v := .slice A c.ls.length cc) rfl
 have q1 := HX0.out.cell_ 1 (v := .int .i64 c.hand) rfl
 go_enter Tryz.func166, Tryz.ntmps166
 go_wp2_with fail
 refine (sCacheValid_any _ c _ (HV0.out.now HB0.out)).mono ?_
 rintro e w1 ⟨rfl, hb1⟩
 have HX1 := Hd (HX0.out.below hb1)
 have HL1 := Hd (HL0.out.below hb1)
 have HR1 := Hd (HR0.out.below hb1)
 have HB1 := Hd (bT HB0.out hb1)
 have HS1 := Hd (Nat.le_trans HS0.out hb1.size)
 clear hb1
 clear q0 q1
 cases h1 : cav c with
 | false =>
  have HO : Hid (filOK c x = false) := by show _ = _; unfold filOK; rw [h1]; rfl
  have HV := Hd (filOK_false HO.out)
  have HA := Hd (filA_false HO.out)
  have r0 := HR1.out.cell_ 0 (v := .slice none 0 0) rfl
  have r1 := HR1.out.cell_ 1 (v := .int .i64 0) rfl
  have f0 := HR1.out.free 0
  have f1 := HR1.out.free 1
  have hl1 := HR1.out.lt
  go_wp2
  have o3 := (HR1.out.set_ 0 (.slice none 0 0)).set_ 1 (.int .i64 0)
  have t0 := o3.cell_ 0 (v := .slice none 0 0) rfl
  have t1 := o3.cell_ 1 (v := .int .i64 0) rfl
  refine bodyPost_ret (v := .tuple #[.agg #[.slice none 0 0, .int .i64 0], .int .i64 0, .bool false]) (by simp [results, Tryz.results166, go_sem, t0, t1]) rfl ⟨_, rfl, _, by rw [HV.out, HA.out, HO.out]; rfl, by rw [HV.out]; exact SlM.nil_ _, ?_⟩
  repeat (refine bS ?_ (by simp <;> omega))
  exact HB1.out
 | true =>
  cases hxv : x.v with
  | false =>
   have HO : Hid (filOK c x = false) := by show _ = _; unfold filOK; rw [hxv]; simp
   have HV := Hd (filOK_false HO.out)
   have HA := Hd (filA_false HO.out)
   have l0 := HL1.out.cell_ 0 (v := .bool x.v) rfl
   rw [hxv] at l0
   have r0 := HR1.out.cell_ 0 (v := .slice none 0 0) rfl
   have r1 := HR1.out.cell_ 1 (v := .int .i64 0) rfl
   have f0 := HR1.out.free 0
   have f1 := HR1.out.free 1
   have hl1 := HR1.out.lt
   go_wp2
   have o3 := (HR1.out.set_ 0 (.slice none 0 0)).set_ 1 (.int .i64 0)
   have t0 := o3.cell_ 0 (v := .slice none 0 0) rfl
   have t1 := o3.cell_ 1 (v := .int .i64 0) rfl
   refine bodyPost_ret (v := .tuple #[.agg #[.slice none 0 0, .int .i64 0], .int .i64 0, .bool false]) (by simp [results, Tryz.results166, go_sem, t0, t1]) rfl ⟨_, rfl, _, by rw [HV.out, HA.out, HO.out]; rfl, by rw [HV.out]; exact SlM.nil_ _, ?_⟩
   repeat (refine bS ?_ (by simp <;> omega))
   exact HB1.out
  | true =>
   have HLK := Hd (fun W => l4Line_any x W)
   unfold lnV at HLK
   have l0 := HL1.out.cell_ 0 (v := .bool x.v) rfl
   have l1 := HL1.out.cell_ 1 (v := .int .i64 x.t) rfl
   have l2 := HL1.out.cell_ 2 (v := .int .i64 x.p) rfl
   have l3 := HL1.out.cell_ 3 (v := .int .i64 x.f) rfl
   have l4 := HL1.out.cell_ 4 (v := .int .i64 x.r) rfl
   have l5 := HL1.out.cell_ 5 (v := .bool x.w) rfl
   rw [hxv] at l0 HLK
   go_wp2_with fail
   refine (HLK.out _).mono ?_
   rintro e w2 ⟨rfl, hb2⟩
   have HX2 := Hd (HX1.out.below hb2)
   have HL2 := Hd (HL1.out.below hb2)
   have HR2 := Hd (HR1.out.below hb2)
   have HB2 := Hd (bT HB1.out hb2)
   have HS2 := Hd (Nat.le_trans HS1.out hb2.size)
   clear hb2
   clear l0 l1 l2 l3 l4 l5 HLK
   cases h3 : lnok x with
   | false =>
    have HO : Hid (filOK c x = false) := by show _ = _; unfold filOK; rw [h3]; simp
    have HV := Hd (filOK_false HO.out)
    have HA := Hd (filA_false HO.out)
    have r0 := HR2.out.cell_ 0 (v := .slice none 0 0) rfl
    have r1 := HR2.out.cell_ 1 (v := .int .i64 0) rfl
    have f0 := HR2.out.free 0
    have f1 := HR2.out.free 1
    have hl1 := HR2.out.lt
    go_wp2
    have o3 := (HR2.out.set_ 0 (.slice none 0 0)).set_ 1 (.int .i64 0)
    have t0 := o3.cell_ 0 (v := .slice none 0 0) rfl
    have t1 := o3.cell_ 1 (v := .int .i64 0) rfl
    refine bodyPost_ret (v := .tuple #[.agg #[.slice none 0 0, .int .i64 0], .int .i64 0, .bool false]) (by simp [results, Tryz.results166, go_sem, t0, t1]) rfl ⟨_, rfl, _, by rw [HV.out, HA.out, HO.out]; rfl, by rw [HV.out]; exact SlM.nil_ _, ?_⟩
    repeat (refine bS ?_ (by simp <;> omega))
    exact HB2.out
   | true =>
    have hcv := cav_CV.1 h1
    have q0 := HX2.out.cell_ 0 (v := .slice A c.ls.length cc) rfl
    have q1 := HX2.out.cell_ 1 (v := .int .i64 c.hand) rfl
    go_wp2_with fail
    refine (l4Victim_any _ c _ (HV0.out.now HB2.out) h1).mono ?_
    rintro e w3 ⟨rfl, hb3⟩
    have HX3 := Hd (HX2.out.below hb3)
    have HL3 := Hd (HL2.out.below hb3)
    have HR3 := Hd (HR2.out.below hb3)
    have HB3 := Hd (bT HB2.out hb3)
    have HS3 := Hd (Nat.le_trans HS2.out hb3.size)
    clear hb3
    clear q0 q1
    have q0 := HX3.out.cell_ 0 (v := .slice A c.ls.length cc) rfl
    have q1 := HX3.out.cell_ 1 (v := .int .i64 c.hand) rfl
    go_wp2_with fail
    refine (l4Copy_any _ c _ (HV0.out.now HB3.out) (by have := hcv.sz; omega)).mono ?_
    rintro e w4 ⟨_, rfl, v1, rfl, hM4, hb4⟩
    have hvi := vic_in hcv
    have h8 : c.ls.length ≤ 8 := hcv.sz.2
    obtain ⟨y, ey⟩ : ∃ y, c.ls[vic c]? = some y := ⟨_, List.getElem?_eq_getElem hvi⟩
    have hs3 := HS3.out
    have hlt3 := HR3.out.lt
    obtain ⟨A2, c2, rfl, l2', k2, m2⟩ := hM4
    obtain ⟨g2, cs2, rfl, hg2, O2, _⟩ := m2.own (by omega)
    clear q0 q1
    have HX4 := Hd (HX3.out.below hb4)
    have HL4 := Hd (HL3.out.below hb4)
    have HR4 := Hd (HR3.out.below hb4)
    have HB4 := Hd (bT HB3.out hb4)
    have HS4 := Hd (Nat.le_trans HS3.out hb4.size)
    clear hb4
    have ho5 := Own.new_ w4 29 #[.slice (some ⟨g2, 0, none⟩) c.ls.length c2, .int .i64 c.hand]
    have hb5 : Below w4.heap.size w4 (w4.alloc (.cells #[.slice (some ⟨g2, 0, none⟩) c.ls.length c2, .int .i64 c.hand] 29)) := bA bR
    generalize hW5 : w4.alloc (.cells #[.slice (some ⟨g2, 0, none⟩) c.ls.length c2, .int .i64 c.hand] 29) = w5 at ho5 hb5
    have M5 := Hd (m2.below hb5)
    have O5 := O2.below hb5
    have HX5 := Hd (HX4.out.below hb5)
    have HL5 := Hd (HL4.out.below hb5)
    have HR5 := Hd (HR4.out.below hb5)
    have HB5 := Hd (bT HB4.out hb5)
    have HS5 := Hd (Nat.le_trans HS4.out hb5.size)
    clear hb5
    clear m2 O2
    have HO5 := Hd ho5
    have hne : w4.heap.size ≠ g2 := HO5.out.ne O5 (by decide)
    have hne2 : g2 ≠ w4.heap.size := fun h => hne h.symm
    have q3 : w.heap.size + 1 + 1 ≠ g2 := HR5.out.ne O5 (by decide)
    have q4 : g2 ≠ w.heap.size + 1 + 1 := fun h => q3 h.symm
    have q5 : w.heap.size + 1 ≠ g2 := by have := HL3.out.lt; omega
    have q6 : g2 ≠ w.heap.size + 1 := fun h => q5 h.symm
    have q7 : w.heap.size ≠ g2 := HX5.out.ne O5 (by decide)
    have q8 : g2 ≠ w.heap.size := fun h => q7 h.symm
    have q9 : w.heap.size + 1 + 1 ≠ w4.heap.size := by have := HR4.out.lt; omega
    have q10 : w.heap.size + 1 ≠ w4.heap.size := by have := HL4.out.lt; omega
    have q11 : w.heap.size ≠ w4.heap.size := by have := HX4.out.lt; omega
    clear ho5 O5
    obtain ⟨b4, o4, rfl, hb4, d0, d1, d2, d3, d4, d5⟩ := (HLR.out.now (Nat.le_refl _) HB5.out).ln ey
    have q0 := HX5.out.cell_ 0 (v := .slice (some ⟨b4, o4, none⟩) c.ls.length cc) rfl
    have hlx := HX5.out.lt
    have hlo := HO5.out.lt
    have EY := Hd ey
    clear d1 d2 d3 d4 d5 ey
    generalize hvv : vic c = vi at *
    cases hyv : y.v with
    | false =>
     rw [hyv] at d0
     have HH : Hid ((filC c x).hand = c.hand) := by show _ = _; simp only [filC, hvv, EY.out, hyv]; rfl
     have o90 := HO5.out.cell_ 0 (v := .slice (some ⟨g2, 0, none⟩) c.ls.length c2) rfl
     have hlo9 := HO5.out.lt
     have l0 := HL5.out.cell_ 0 (v := .bool x.v) rfl
     have l1 := HL5.out.cell_ 1 (v := .int .i64 x.t) rfl
     have l2 := HL5.out.cell_ 2 (v := .int .i64 x.p) rfl
     have l3 := HL5.out.cell_ 3 (v := .int .i64 x.f) rfl
     have l4 := HL5.out.cell_ 4 (v := .int .i64 x.r) rfl
     have l5 := HL5.out.cell_ 5 (v := .bool x.w) rfl
     rw [hxv] at l0
     have hll9 := HL5.out.lt
     obtain ⟨_, cs9, u9, _, Q9, _⟩ := M5.out.own (by omega)
     injection u9 with u9
     injection u9 with u9
     subst u9
     have z0 := Q9.free (vi * 6)
     have z1 := Q9.free (vi * 6 + 1)
     have z2 := Q9.free (vi * 6 + 2)
     have z3 := Q9.free (vi * 6 + 3)
     have z4 := Q9.free (vi * 6 + 4)
     have z5 := Q9.free (vi * 6 + 5)
     obtain ⟨bq, oq, eq1, _, y0, y1, y2, y3, y4, y5⟩ := M5.out.is.ln EY.out
     injection eq1 with eq1
     injection eq1 with eq1 eq2
     subst eq1 eq2
     rw [Nat.zero_add] at y0 y1 y2 y3 y4 y5
     have m9 := M5.out.wln hvi x
     rw [hxv] at m9
     have hr9 := (((((HR5.out.far (p := ⟨g2, vi * 6, none⟩) (u := .bool true) q3).far (p := ⟨g2, vi * 6 + 1, none⟩) (u := .int .i64 x.t) q3).far (p := ⟨g2, vi * 6 + 2, none⟩) (u := .int .i64 x.p) q3).far (p := ⟨g2, vi * 6 + 3, none⟩) (u := .int .i64 x.f) q3).far (p := ⟨g2, vi * 6 + 4, none⟩) (u := .int .i64 x.r) q3).far (p := ⟨g2, vi * 6 + 5, none⟩) (u := .bool x.w) q3
     have hl9 := (((((HL5.out.far (p := ⟨g2, vi * 6, none⟩) (u := .bool true) q5).far (p := ⟨g2, vi * 6 + 1, none⟩) (u := .int .i64 x.t) q5).far (p := ⟨g2, vi * 6 + 2, none⟩) (u := .int .i64 x.p) q5).far (p := ⟨g2, vi * 6 + 3, none⟩) (u := .int .i64 x.f) q5).far (p := ⟨g2, vi * 6 + 4, none⟩) (u := .int .i64 x.r) q5).far (p := ⟨g2, vi * 6 + 5, none⟩) (u := .bool x.w) q5
     have hx9 := (((((HX5.out.far (p := ⟨g2, vi * 6, none⟩) (u := .bool true) q7).far (p := ⟨g2, vi * 6 + 1, none⟩) (u := .int .i64 x.t) q7).far (p := ⟨g2, vi * 6 + 2, none⟩) (u := .int .i64 x.p) q7).far (p := ⟨g2, vi * 6 + 3, none⟩) (u := .int .i64 x.f) q7).far (p := ⟨g2, vi * 6 + 4, none⟩) (u := .int .i64 x.r) q7).far (p := ⟨g2, vi * 6 + 5, none⟩) (u := .bool x.w) q7
     have ho9 := (((((HO5.out.far (p := ⟨g2, vi * 6, none⟩) (u := .bool true) hne).far (p := ⟨g2, vi * 6 + 1, none⟩) (u := .int .i64 x.t) hne).far (p := ⟨g2, vi * 6 + 2, none⟩) (u := .int .i64 x.p) hne).far (p := ⟨g2, vi * 6 + 3, none⟩) (u := .int .i64 x.f) hne).far (p := ⟨g2, vi * 6 + 4, none⟩) (u := .int .i64 x.r) hne).far (p := ⟨g2, vi * 6 + 5, none⟩) (u := .bool x.w) hne
     have hgg : w.heap.size ≤ g2 := by have := HB3.out.size; omega
     have hb9 := bS (bS (bS (bS (bS (bS HB5.out (p := ⟨g2, vi * 6, none⟩) hgg (u := .bool true)) (p := ⟨g2, vi * 6 + 1, none⟩) hgg (u := .int .i64 x.t)) (p := ⟨g2, vi * 6 + 2, none⟩) hgg (u := .int .i64 x.p)) (p := ⟨g2, vi * 6 + 3, none⟩) hgg (u := .int .i64 x.f)) (p := ⟨g2, vi * 6 + 4, none⟩) hgg (u := .int .i64 x.r)) (p := ⟨g2, vi * 6 + 5, none⟩) hgg (u := .bool x.w)
     generalize hW9 : (((((w5.setCell ⟨g2, vi * 6, none⟩ (.bool true)).setCell ⟨g2, vi * 6 + 1, none⟩ (.int .i64 x.t)).setCell ⟨g2, vi * 6 + 2, none⟩ (.int .i64 x.p)).setCell ⟨g2, vi * 6 + 3, none⟩ (.int .i64 x.f)).setCell ⟨g2, vi * 6 + 4, none⟩ (.int .i64 x.r)).setCell ⟨g2, vi * 6 + 5, none⟩ (.bool x.w) = w9 at m9 hr9 hl9 hx9 ho9 hb9
     have M9 := Hd m9
     have HR9 := Hd hr9
     have HL9 := Hd hl9
     have HX9 := Hd hx9
     have HO9 := Hd ho9
     have HB9 := Hd hb9
     clear m9 hr9 hl9 hx9 ho9 hb9 Q9
     have o91 := HO9.out.cell_ 0 (v := .slice (some ⟨g2, 0, none⟩) c.ls.length c2) rfl
     have o92 := HO9.out.cell_ 1 (v := .int .i64 (c.hand)) rfl
     have hlo10 := HO9.out.lt
     have HFC : Hid (filC c x = ⟨c.ls.set vi x, c.hand⟩) := by
      show _ = _
      have h1 : (filC c x).ls = c.ls.set vi x := by simp only [filC, hvv]
      have h2 := HH.out
      cases hf : filC c x with
      | mk a b =>
       rw [hf] at h1 h2
       simp only at h1 h2
       rw [h1, h2]
     go_wp2_with fail
     refine (sCacheValid_any (.slice (some ⟨g2, 0, none⟩) c.ls.length c2) ⟨c.ls.set vi x, c.hand⟩ w9 (slm_of (by simp) (by simpa using l2') k2 M9.out).r).mono ?_
     rintro e w10 ⟨rfl, hb10⟩
     have hx10 := HX9.out.below hb10
     have HX10 := Hd hx10
     have HL10 := Hd (HL9.out.below hb10)
     have HR10 := Hd (HR9.out.below hb10)
     have HO10 := Hd (HO9.out.below hb10)
     have M10 := Hd (M9.out.below hb10)
     have HB10 := Hd (bT HB9.out hb10)
     clear hx10 hb10 o91 o92 o90 l0 l1 l2 l3 l4 l5 z0 z1 z2 z3 z4 z5 y0 y1 y2 y3 y4 y5 q0 d0
     cases h5 : cav ⟨c.ls.set vi x, c.hand⟩ with
     | false =>
      have HO : Hid (filOK c x = false) := by show _ = _; unfold filOK; rw [HFC.out, h5, Bool.and_false]
      have HV := Hd (filOK_false HO.out)
      have HA := Hd (filA_false HO.out)
      have r0 := HR10.out.cell_ 0 (v := .slice none 0 0) rfl
      have r1 := HR10.out.cell_ 1 (v := .int .i64 0) rfl
      have f0 := HR10.out.free 0
      have f1 := HR10.out.free 1
      have hl1 := HR10.out.lt
      go_wp2
      have o3 := (HR10.out.set_ 0 (.slice none 0 0)).set_ 1 (.int .i64 0)
      have t0 := o3.cell_ 0 (v := .slice none 0 0) rfl
      have t1 := o3.cell_ 1 (v := .int .i64 0) rfl
      refine bodyPost_ret (v := .tuple #[.agg #[.slice none 0 0, .int .i64 0], .int .i64 0, .bool false]) (by simp [results, Tryz.results166, go_sem, t0, t1]) rfl ⟨_, rfl, _, by rw [HV.out, HA.out, HO.out]; rfl, by rw [HV.out]; exact SlM.nil_ _, ?_⟩
      repeat (refine bS ?_ (by simp <;> omega))
      exact HB10.out
     | true =>
      have q0 := HX10.out.cell_ 0 (v := .slice (some ⟨b4, o4, none⟩) c.ls.length cc) rfl
      have q1 := HX10.out.cell_ 1 (v := .int .i64 c.hand) rfl
      have l1 := HL10.out.cell_ 1 (v := .int .i64 x.t) rfl
      have l2 := HL10.out.cell_ 2 (v := .int .i64 x.p) rfl
      have hlx := HX10.out.lt
      have hll := HL10.out.lt
      go_wp2_with fail
      refine (l4Find_any _ c x.t x.p _ (HV0.out.now HB10.out)).mono ?_
      rintro e w11 ⟨rfl, hb11⟩
      have HR11 := Hd (HR10.out.below hb11)
      have HO11 := Hd (HO10.out.below hb11)
      have M11 := Hd (M10.out.below hb11)
      have HB11 := Hd (bT HB10.out hb11)
      clear hb11 q0 q1 l1 l2
      by_cases h6 : 0 ≤ plcI c.ls x.t x.p
      ·have HO : Hid (filOK c x = false) := by show _ = _; unfold filOK; rw [decide_eq_true h6]; simp
       have HV := Hd (filOK_false HO.out)
       have HA := Hd (filA_false HO.out)
       have r0 := HR11.out.cell_ 0 (v := .slice none 0 0) rfl
       have r1 := HR11.out.cell_ 1 (v := .int .i64 0) rfl
       have f0 := HR11.out.free 0
       have f1 := HR11.out.free 1
       have hl1 := HR11.out.lt
       go_wp2
       have o3 := (HR11.out.set_ 0 (.slice none 0 0)).set_ 1 (.int .i64 0)
       have t0 := o3.cell_ 0 (v := .slice none 0 0) rfl
       have t1 := o3.cell_ 1 (v := .int .i64 0) rfl
       refine bodyPost_ret (v := .tuple #[.agg #[.slice none 0 0, .int .i64 0], .int .i64 0, .bool false]) (by simp [results, Tryz.results166, go_sem, t0, t1]) rfl ⟨_, rfl, _, by rw [HV.out, HA.out, HO.out]; rfl, by rw [HV.out]; exact SlM.nil_ _, ?_⟩
       repeat (refine bS ?_ (by simp <;> omega))
       exact HB11.out
      ·have HO : Hid (filOK c x = true) := by show _ = _; unfold filOK; rw [h1, hxv, h3, decide_eq_false h6, HFC.out, h5]; rfl
       have HV : Hid (filV c x = ⟨c.ls.set vi x, c.hand⟩) := by show _ = _; rw [filOK_true HO.out]; exact HFC.out
       have HA : Hid (filA c x = vi) := by show _ = _; unfold filA; rw [HO.out, if_pos rfl, hvv]
       have h6b : ¬ 0 ≤ plcI c.ls x.t x.p := h6
       have r0 := HR11.out.cell_ 0 (v := .slice none 0 0) rfl
       have r1 := HR11.out.cell_ 1 (v := .int .i64 0) rfl
       have f0 := HR11.out.free 0
       have f1 := HR11.out.free 1
       have hl1 := HR11.out.lt
       have o91 := HO11.out.cell_ 0 (v := .slice (some ⟨g2, 0, none⟩) c.ls.length c2) rfl
       have o92 := HO11.out.cell_ 1 (v := .int .i64 (c.hand)) rfl
       have hlo := HO11.out.lt
       go_wp2
       have o3 := (HR11.out.set_ 0 (.slice (some ⟨g2, 0, none⟩) c.ls.length c2)).set_ 1 (.int .i64 (c.hand))
       have t0 := o3.cell_ 0 (v := .slice (some ⟨g2, 0, none⟩) c.ls.length c2) rfl
       have t1 := o3.cell_ 1 (v := .int .i64 (c.hand)) rfl
       refine bodyPost_ret (v := .tuple #[.agg #[.slice (some ⟨g2, 0, none⟩) c.ls.length c2, .int .i64 (c.hand)], .int .i64 vi, .bool true]) (by simp [results, Tryz.results166, go_sem, t0, t1]) rfl ⟨_, rfl, _, by rw [HV.out, HA.out, HO.out], ?_, ?_⟩
       ·rw [HV.out]
        exact (slm_of (by simp) (by simpa using l2') k2 ((M11.out.far (p := ⟨w.heap.size + 1 + 1, 0, none⟩) (u := .slice (some ⟨g2, 0, none⟩) c.ls.length c2) hlt3).far (p := ⟨w.heap.size + 1 + 1, 1, none⟩) (u := .int .i64 (c.hand)) hlt3)).mono (by have := HB3.out.size; omega)
       ·repeat (refine bS ?_ (by simp <;> omega))
        exact HB11.out
    | true =>
     rw [hyv] at d0
     have HH : Hid ((filC c x).hand = ((vi : Int) + 1) % c.ls.length) := by show _ = _; simp only [filC, hvv, EY.out, hyv]; rfl
     have o51 := HO5.out.cell_ 1 (v := .int .i64 c.hand) rfl
     have of1 := HO5.out.free 1
     have ho6 := HO5.out.set_ 1 (.int .i64 (((vi : Int) + 1) % c.ls.length))
     have m6 := M5.out.other (p := ⟨w4.heap.size, 1, none⟩) (u := .int .i64 (((vi : Int) + 1) % c.ls.length)) hne
     have hr6 := HR5.out.far (p := ⟨w4.heap.size, 1, none⟩) (u := .int .i64 (((vi : Int) + 1) % c.ls.length)) q9
     have hl6 := HL5.out.far (p := ⟨w4.heap.size, 1, none⟩) (u := .int .i64 (((vi : Int) + 1) % c.ls.length)) q10
     have hx6 := HX5.out.far (p := ⟨w4.heap.size, 1, none⟩) (u := .int .i64 (((vi : Int) + 1) % c.ls.length)) q11
     have hb6 : Below w.heap.size w (w5.setCell ⟨w4.heap.size, 1, none⟩ (.int .i64 (((vi : Int) + 1) % c.ls.length))) := bS HB5.out (by show w.heap.size ≤ w4.heap.size; have := HB4.out.size; omega)
     generalize hW6 : w5.setCell ⟨w4.heap.size, 1, none⟩ (.int .i64 (((vi : Int) + 1) % c.ls.length)) = w6 at ho6 m6 hr6 hl6 hx6 hb6
     have HO6 := Hd ho6
     have M6 := Hd m6
     have HR6 := Hd hr6
     have HL6 := Hd hl6
     have HX6 := Hd hx6
     have HB6 := Hd hb6
     clear ho6 m6 hr6 hl6 hx6 hb6
     have o90 := HO6.out.cell_ 0 (v := .slice (some ⟨g2, 0, none⟩) c.ls.length c2) rfl
     have hlo9 := HO6.out.lt
     have l0 := HL6.out.cell_ 0 (v := .bool x.v) rfl
     have l1 := HL6.out.cell_ 1 (v := .int .i64 x.t) rfl
     have l2 := HL6.out.cell_ 2 (v := .int .i64 x.p) rfl
     have l3 := HL6.out.cell_ 3 (v := .int .i64 x.f) rfl
     have l4 := HL6.out.cell_ 4 (v := .int .i64 x.r) rfl
     have l5 := HL6.out.cell_ 5 (v := .bool x.w) rfl
     rw [hxv] at l0
     have hll9 := HL6.out.lt
     obtain ⟨_, cs9, u9, _, Q9, _⟩ := M6.out.own (by omega)
     injection u9 with u9
     injection u9 with u9
     subst u9
     have z0 := Q9.free (vi * 6)
     have z1 := Q9.free (vi * 6 + 1)
     have z2 := Q9.free (vi * 6 + 2)
     have z3 := Q9.free (vi * 6 + 3)
     have z4 := Q9.free (vi * 6 + 4)
     have z5 := Q9.free (vi * 6 + 5)
     obtain ⟨bq, oq, eq1, _, y0, y1, y2, y3, y4, y5⟩ := M6.out.is.ln EY.out
     injection eq1 with eq1
     injection eq1 with eq1 eq2
     subst eq1 eq2
     rw [Nat.zero_add] at y0 y1 y2 y3 y4 y5
     have m9 := M6.out.wln hvi x
     rw [hxv] at m9
     have hr9 := (((((HR6.out.far (p := ⟨g2, vi * 6, none⟩) (u := .bool true) q3).far (p := ⟨g2, vi * 6 + 1, none⟩) (u := .int .i64 x.t) q3).far (p := ⟨g2, vi * 6 + 2, none⟩) (u := .int .i64 x.p) q3).far (p := ⟨g2, vi * 6 + 3, none⟩) (u := .int .i64 x.f) q3).far (p := ⟨g2, vi * 6 + 4, none⟩) (u := .int .i64 x.r) q3).far (p := ⟨g2, vi * 6 + 5, none⟩) (u := .bool x.w) q3
     have hl9 := (((((HL6.out.far (p := ⟨g2, vi * 6, none⟩) (u := .bool true) q5).far (p := ⟨g2, vi * 6 + 1, none⟩) (u := .int .i64 x.t) q5).far (p := ⟨g2, vi * 6 + 2, none⟩) (u := .int .i64 x.p) q5).far (p := ⟨g2, vi * 6 + 3, none⟩) (u := .int .i64 x.f) q5).far (p := ⟨g2, vi * 6 + 4, none⟩) (u := .int .i64 x.r) q5).far (p := ⟨g2, vi * 6 + 5, none⟩) (u := .bool x.w) q5
     have hx9 := (((((HX6.out.far (p := ⟨g2, vi * 6, none⟩) (u := .bool true) q7).far (p := ⟨g2, vi * 6 + 1, none⟩) (u := .int .i64 x.t) q7).far (p := ⟨g2, vi * 6 + 2, none⟩) (u := .int .i64 x.p) q7).far (p := ⟨g2, vi * 6 + 3, none⟩) (u := .int .i64 x.f) q7).far (p := ⟨g2, vi * 6 + 4, none⟩) (u := .int .i64 x.r) q7).far (p := ⟨g2, vi * 6 + 5, none⟩) (u := .bool x.w) q7
     have ho9 := (((((HO6.out.far (p := ⟨g2, vi * 6, none⟩) (u := .bool true) hne).far (p := ⟨g2, vi * 6 + 1, none⟩) (u := .int .i64 x.t) hne).far (p := ⟨g2, vi * 6 + 2, none⟩) (u := .int .i64 x.p) hne).far (p := ⟨g2, vi * 6 + 3, none⟩) (u := .int .i64 x.f) hne).far (p := ⟨g2, vi * 6 + 4, none⟩) (u := .int .i64 x.r) hne).far (p := ⟨g2, vi * 6 + 5, none⟩) (u := .bool x.w) hne
     have hgg : w.heap.size ≤ g2 := by have := HB3.out.size; omega
     have hb9 := bS (bS (bS (bS (bS (bS HB6.out (p := ⟨g2, vi * 6, none⟩) hgg (u := .bool true)) (p := ⟨g2, vi * 6 + 1, none⟩) hgg (u := .int .i64 x.t)) (p := ⟨g2, vi * 6 + 2, none⟩) hgg (u := .int .i64 x.p)) (p := ⟨g2, vi * 6 + 3, none⟩) hgg (u := .int .i64 x.f)) (p := ⟨g2, vi * 6 + 4, none⟩) hgg (u := .int .i64 x.r)) (p := ⟨g2, vi * 6 + 5, none⟩) hgg (u := .bool x.w)
     generalize hW9 : (((((w6.setCell ⟨g2, vi * 6, none⟩ (.bool true)).setCell ⟨g2, vi * 6 + 1, none⟩ (.int .i64 x.t)).setCell ⟨g2, vi * 6 + 2, none⟩ (.int .i64 x.p)).setCell ⟨g2, vi * 6 + 3, none⟩ (.int .i64 x.f)).setCell ⟨g2, vi * 6 + 4, none⟩ (.int .i64 x.r)).setCell ⟨g2, vi * 6 + 5, none⟩ (.bool x.w) = w9 at m9 hr9 hl9 hx9 ho9 hb9
     have M9 := Hd m9
     have HR9 := Hd hr9
     have HL9 := Hd hl9
     have HX9 := Hd hx9
     have HO9 := Hd ho9
     have HB9 := Hd hb9
     clear m9 hr9 hl9 hx9 ho9 hb9 Q9
     have o91 := HO9.out.cell_ 0 (v := .slice (some ⟨g2, 0, none⟩) c.ls.length c2) rfl
     have o92 := HO9.out.cell_ 1 (v := .int .i64 (((vi : Int) + 1) % c.ls.length)) rfl
     have hlo10 := HO9.out.lt
     have HFC : Hid (filC c x = ⟨c.ls.set vi x, ((vi : Int) + 1) % c.ls.length⟩) := by
      show _ = _
      have h1 : (filC c x).ls = c.ls.set vi x := by simp only [filC, hvv]
      have h2 := HH.out
      cases hf : filC c x with
      | mk a b =>
       rw [hf] at h1 h2
       simp only at h1 h2
       rw [h1, h2]
     go_wp2_with fail
     refine (sCacheValid_any (.slice (some ⟨g2, 0, none⟩) c.ls.length c2) ⟨c.ls.set vi x, ((vi : Int) + 1) % c.ls.length⟩ w9 (slm_of (by simp) (by simpa using l2') k2 M9.out).r).mono ?_
     rintro e w10 ⟨rfl, hb10⟩
     have hx10 := HX9.out.below hb10
     have HX10 := Hd hx10
     have HL10 := Hd (HL9.out.below hb10)
     have HR10 := Hd (HR9.out.below hb10)
     have HO10 := Hd (HO9.out.below hb10)
     have M10 := Hd (M9.out.below hb10)
     have HB10 := Hd (bT HB9.out hb10)
     clear hx10 hb10 o91 o92 o90 l0 l1 l2 l3 l4 l5 z0 z1 z2 z3 z4 z5 y0 y1 y2 y3 y4 y5 q0 d0
     cases h5 : cav ⟨c.ls.set vi x, ((vi : Int) + 1) % c.ls.length⟩ with
     | false =>
      have HO : Hid (filOK c x = false) := by show _ = _; unfold filOK; rw [HFC.out, h5, Bool.and_false]
      have HV := Hd (filOK_false HO.out)
      have HA := Hd (filA_false HO.out)
      have r0 := HR10.out.cell_ 0 (v := .slice none 0 0) rfl
      have r1 := HR10.out.cell_ 1 (v := .int .i64 0) rfl
      have f0 := HR10.out.free 0
      have f1 := HR10.out.free 1
      have hl1 := HR10.out.lt
      go_wp2
      have o3 := (HR10.out.set_ 0 (.slice none 0 0)).set_ 1 (.int .i64 0)
      have t0 := o3.cell_ 0 (v := .slice none 0 0) rfl
      have t1 := o3.cell_ 1 (v := .int .i64 0) rfl
      refine bodyPost_ret (v := .tuple #[.agg #[.slice none 0 0, .int .i64 0], .int .i64 0, .bool false]) (by simp [results, Tryz.results166, go_sem, t0, t1]) rfl ⟨_, rfl, _, by rw [HV.out, HA.out, HO.out]; rfl, by rw [HV.out]; exact SlM.nil_ _, ?_⟩
      repeat (refine bS ?_ (by simp <;> omega))
      exact HB10.out
     | true =>
      have q0 := HX10.out.cell_ 0 (v := .slice (some ⟨b4, o4, none⟩) c.ls.length cc) rfl
      have q1 := HX10.out.cell_ 1 (v := .int .i64 c.hand) rfl
      have l1 := HL10.out.cell_ 1 (v := .int .i64 x.t) rfl
      have l2 := HL10.out.cell_ 2 (v := .int .i64 x.p) rfl
      have hlx := HX10.out.lt
      have hll := HL10.out.lt
      go_wp2_with fail
      refine (l4Find_any _ c x.t x.p _ (HV0.out.now HB10.out)).mono ?_
      rintro e w11 ⟨rfl, hb11⟩
      have HR11 := Hd (HR10.out.below hb11)
      have HO11 := Hd (HO10.out.below hb11)
      have M11 := Hd (M10.out.below hb11)
      have HB11 := Hd (bT HB10.out hb11)
      clear hb11 q0 q1 l1 l2
      by_cases h6 : 0 ≤ plcI c.ls x.t x.p
      ·have HO : Hid (filOK c x = false) := by show _ = _; unfold filOK; rw [decide_eq_true h6]; simp
       have HV := Hd (filOK_false HO.out)
       have HA := Hd (filA_false HO.out)
       have r0 := HR11.out.cell_ 0 (v := .slice none 0 0) rfl
       have r1 := HR11.out.cell_ 1 (v := .int .i64 0) rfl
       have f0 := HR11.out.free 0
       have f1 := HR11.out.free 1
       have hl1 := HR11.out.lt
       go_wp2
       have o3 := (HR11.out.set_ 0 (.slice none 0 0)).set_ 1 (.int .i64 0)
       have t0 := o3.cell_ 0 (v := .slice none 0 0) rfl
       have t1 := o3.cell_ 1 (v := .int .i64 0) rfl
       refine bodyPost_ret (v := .tuple #[.agg #[.slice none 0 0, .int .i64 0], .int .i64 0, .bool false]) (by simp [results, Tryz.results166, go_sem, t0, t1]) rfl ⟨_, rfl, _, by rw [HV.out, HA.out, HO.out]; rfl, by rw [HV.out]; exact SlM.nil_ _, ?_⟩
       repeat (refine bS ?_ (by simp <;> omega))
       exact HB11.out
      ·have HO : Hid (filOK c x = true) := by show _ = _; unfold filOK; rw [h1, hxv, h3, decide_eq_false h6, HFC.out, h5]; rfl
       have HV : Hid (filV c x = ⟨c.ls.set vi x, ((vi : Int) + 1) % c.ls.length⟩) := by show _ = _; rw [filOK_true HO.out]; exact HFC.out
       have HA : Hid (filA c x = vi) := by show _ = _; unfold filA; rw [HO.out, if_pos rfl, hvv]
       have h6b : ¬ 0 ≤ plcI c.ls x.t x.p := h6
       have r0 := HR11.out.cell_ 0 (v := .slice none 0 0) rfl
       have r1 := HR11.out.cell_ 1 (v := .int .i64 0) rfl
       have f0 := HR11.out.free 0
       have f1 := HR11.out.free 1
       have hl1 := HR11.out.lt
       have o91 := HO11.out.cell_ 0 (v := .slice (some ⟨g2, 0, none⟩) c.ls.length c2) rfl
       have o92 := HO11.out.cell_ 1 (v := .int .i64 (((vi : Int) + 1) % c.ls.length)) rfl
       have hlo := HO11.out.lt
       go_wp2
       have o3 := (HR11.out.set_ 0 (.slice (some ⟨g2, 0, none⟩) c.ls.length c2)).set_ 1 (.int .i64 (((vi : Int) + 1) % c.ls.length))
       have t0 := o3.cell_ 0 (v := .slice (some ⟨g2, 0, none⟩) c.ls.length c2) rfl
       have t1 := o3.cell_ 1 (v := .int .i64 (((vi : Int) + 1) % c.ls.length)) rfl
       refine bodyPost_ret (v := .tuple #[.agg #[.slice (some ⟨g2, 0, none⟩) c.ls.length c2, .int .i64 (((vi : Int) + 1) % c.ls.length)], .int .i64 vi, .bool true]) (by simp [results, Tryz.results166, go_sem, t0, t1]) rfl ⟨_, rfl, _, by rw [HV.out, HA.out, HO.out], ?_, ?_⟩
       ·rw [HV.out]
        exact (slm_of (by simp) (by simpa using l2') k2 ((M11.out.far (p := ⟨w.heap.size + 1 + 1, 0, none⟩) (u := .slice (some ⟨g2, 0, none⟩) c.ls.length c2) hlt3).far (p := ⟨w.heap.size + 1 + 1, 1, none⟩) (u := .int .i64 (((vi : Int) + 1) % c.ls.length)) hlt3)).mono (by have := HB3.out.size; omega)
       ·repeat (refine bS ?_ (by simp <;> omega))
        exact HB11.out
end Go.Proofs.YtfbnokjdkhcgoaaGreatDoor
