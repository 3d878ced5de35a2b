/- A part of the proofs of this seat: FilI. -/
import Derived.Test.YtfbnokjdkhcgoaaGreatDoorEVicI
set_option linter.unusedVariables false
set_option linter.unusedSimpArgs false
set_option maxRecDepth 1000000
namespace Go.Proofs.YtfbnokjdkhcgoaaGreatDoor
open Go.RowKit
set_option maxHeartbeats 4000000 in
theorem FillLine_any (vl : Value) (c : Ca) (x : Ln) (w : World) (hT : SlR lnE w vl c.ls) :
  Calls Tryz.prog 89 #[.agg #[vl, .int .i64 c.hand], lnV x] w (Post2 fun v w' => ∃ v1, v = .tuple #[.agg #[v1, .int .i64 (filV c x).hand], .int .i64 (filA c x), .bool (filOK c x)] ∧ SlM lnE 50 w.heap.size w' v1 (filV c x).ls ∧ Below w.heap.size w w') := by
 have HLV := Hd (fun W => lineValid_any x W)
 have HWT := Hd (fun W k (h : SlR lnE W vl c.ls) hk hl => with_any vl c k x W h hk hl)
 unfold lnV at *
 have HV0 := Hd hT
 obtain ⟨A, cc, rfl, hbc, hbm, hL⟩ := hT
 have hbx := ((Own.new_ w 29 #[.slice A c.ls.length cc, .int .i64 c.hand]).alloc (o := .cells #[.bool x.v, .int .i64 x.t, .int .i64 x.p, .int .i64 x.f, .int .i64 x.r, .bool x.w] 50)).alloc (o := .cells #[.slice none 0 0, .int .i64 0] 29)
 have hbl := (ownAt (W := w.alloc (.cells #[.slice A c.ls.length cc, .int .i64 c.hand] 29)) (g := w.heap.size + 1) (t := 50) (cs := #[.bool x.v, .int .i64 x.t, .int .i64 x.p, .int .i64 x.f, .int .i64 x.r, .bool x.w]) (by simp)).alloc (o := .cells #[.slice none 0 0, .int .i64 0] 29)
 have hbo := ownAt (W := (w.alloc (.cells #[.slice A c.ls.length cc, .int .i64 c.hand] 29)).alloc (.cells #[.bool x.v, .int .i64 x.t, .int .i64 x.p, .int .i64 x.f, .int .i64 x.r, .bool x.w] 50)) (g := w.heap.size + 1 + 1) (t := 29) (cs := #[.slice none 0 0, .int .i64 0]) (by simp)
 have hb0 : Below w.heap.size w (((w.alloc (.cells #[.slice A c.ls.length cc, .int .i64 c.hand] 29)).alloc (.cells #[.bool x.v, .int .i64 x.t, .int .i64 x.p, .int .i64 x.f, .int .i64 x.r, .bool x.w] 50)).alloc (.cells #[.slice none 0 0, .int .i64 0] 29)) := bA (bA (bA bR))
 have hs0 : (((w.alloc (.cells #[.slice A c.ls.length cc, .int .i64 c.hand] 29)).alloc (.cells #[.bool x.v, .int .i64 x.t, .int .i64 x.p, .int .i64 x.f, .int .i64 x.r, .bool x.w] 50)).alloc (.cells #[.slice none 0 0, .int .i64 0] 29)).heap.size = w.heap.size + 3 := by simp
 generalize hW : ((w.alloc (.cells #[.slice A c.ls.length cc, .int .i64 c.hand] 29)).alloc (.cells #[.bool x.v, .int .i64 x.t, .int .i64 x.p, .int .i64 x.f, .int .i64 x.r, .bool x.w] 50)).alloc (.cells #[.slice none 0 0, .int .i64 0] 29) = W0 at hbx hbl hbo hb0 hs0
 have HX0 := Hd hbx
 have HL0 := Hd hbl
 have HR0 := Hd hbo
 have HB0 := Hd hb0
 have HS0 : Hid (w.heap.size + 3 ≤ W0.heap.size) := Nat.le_of_eq hs0.symm
 have HLR := Hd hL
 clear hbx hbl hbo hb0 hL
 have q0 := HX0.out.cell_ 0 (v := .slice A c.ls.length cc) rfl
 have q1 := HX0.out.cell_ 1 (v := .int .i64 c.hand) rfl
 go_enter Tryz.func89, Tryz.ntmps89
 go_wp2_with fail
 refine (VictimOf_any _ c _ (HV0.out.now HB0.out)).mono ?_
 rintro e w1 ⟨rfl, hb1⟩
 have HX1 := Hd (HX0.out.below hb1)
 have HL1 := Hd (HL0.out.below hb1)
 have HR1 := Hd (HR0.out.below hb1)
 have HB1 := Hd (bT HB0.out hb1)
 have HS1 := Hd (Nat.le_trans HS0.out hb1.size)
 clear hb1
 clear q0 q1
 cases h1 : cav c with
 | false =>
  have HO : Hid (filOK c x = false) := by show _ = _; unfold filOK; rw [h1]; rfl
  have HV := Hd (filOK_false HO.out)
  have HA := Hd (filA_false HO.out)
  rw [if_neg (by decide)]
  have r0 := HR1.out.cell_ 0 (v := .slice none 0 0) rfl
  have r1 := HR1.out.cell_ 1 (v := .int .i64 0) rfl
  have f0 := HR1.out.free 0
  have f1 := HR1.out.free 1
  have hl1 := HR1.out.lt
  go_wp2
  have o3 := (HR1.out.set_ 0 (.slice none 0 0)).set_ 1 (.int .i64 0)
  have t0 := o3.cell_ 0 (v := .slice none 0 0) rfl
  have t1 := o3.cell_ 1 (v := .int .i64 0) rfl
  refine bodyPost_ret (v := .tuple #[.agg #[.slice none 0 0, .int .i64 0], .int .i64 0, .bool false]) (by simp [results, Tryz.results89, go_sem, t0, t1]) rfl ⟨_, rfl, _, by rw [HV.out, HA.out, HO.out]; rfl, by rw [HV.out]; exact SlM.nil_ _, ?_⟩
  repeat (refine bS ?_ (by simp <;> omega))
  exact HB1.out
 | true =>
  rw [if_pos rfl]
  cases hxv : x.v with
  | false =>
   have HO : Hid (filOK c x = false) := by show _ = _; unfold filOK; rw [hxv]; simp
   have HV := Hd (filOK_false HO.out)
   have HA := Hd (filA_false HO.out)
   have l0 := HL1.out.cell_ 0 (v := .bool x.v) rfl
   rw [hxv] at l0
   have r0 := HR1.out.cell_ 0 (v := .slice none 0 0) rfl
   have r1 := HR1.out.cell_ 1 (v := .int .i64 0) rfl
   have f0 := HR1.out.free 0
   have f1 := HR1.out.free 1
   have hl1 := HR1.out.lt
   go_wp2
   have o3 := (HR1.out.set_ 0 (.slice none 0 0)).set_ 1 (.int .i64 0)
   have t0 := o3.cell_ 0 (v := .slice none 0 0) rfl
   have t1 := o3.cell_ 1 (v := .int .i64 0) rfl
   refine bodyPost_ret (v := .tuple #[.agg #[.slice none 0 0, .int .i64 0], .int .i64 0, .bool false]) (by simp [results, Tryz.results89, go_sem, t0, t1]) rfl ⟨_, rfl, _, by rw [HV.out, HA.out, HO.out]; rfl, by rw [HV.out]; exact SlM.nil_ _, ?_⟩
   repeat (refine bS ?_ (by simp <;> omega))
   exact HB1.out
  | true =>
   have l0 := HL1.out.cell_ 0 (v := .bool x.v) rfl
   have l1 := HL1.out.cell_ 1 (v := .int .i64 x.t) rfl
   have l2 := HL1.out.cell_ 2 (v := .int .i64 x.p) rfl
   have l3 := HL1.out.cell_ 3 (v := .int .i64 x.f) rfl
   have l4 := HL1.out.cell_ 4 (v := .int .i64 x.r) rfl
   have l5 := HL1.out.cell_ 5 (v := .bool x.w) rfl
   rw [hxv] at l0 HLV
   go_wp2_with fail
   refine (HLV.out _).mono ?_
   rintro e w2 ⟨rfl, hb2⟩
   have HX2 := Hd (HX1.out.below hb2)
   have HL2 := Hd (HL1.out.below hb2)
   have HR2 := Hd (HR1.out.below hb2)
   have HB2 := Hd (bT HB1.out hb2)
   have HS2 := Hd (Nat.le_trans HS1.out hb2.size)
   clear hb2
   clear l0 l1 l2 l3 l4 l5 HLV
   cases h3 : lnok x with
   | false =>
    have HO : Hid (filOK c x = false) := by show _ = _; unfold filOK; rw [h3]; simp
    have HV := Hd (filOK_false HO.out)
    have HA := Hd (filA_false HO.out)
    have r0 := HR2.out.cell_ 0 (v := .slice none 0 0) rfl
    have r1 := HR2.out.cell_ 1 (v := .int .i64 0) rfl
    have f0 := HR2.out.free 0
    have f1 := HR2.out.free 1
    have hl1 := HR2.out.lt
    go_wp2
    have o3 := (HR2.out.set_ 0 (.slice none 0 0)).set_ 1 (.int .i64 0)
    have t0 := o3.cell_ 0 (v := .slice none 0 0) rfl
    have t1 := o3.cell_ 1 (v := .int .i64 0) rfl
    refine bodyPost_ret (v := .tuple #[.agg #[.slice none 0 0, .int .i64 0], .int .i64 0, .bool false]) (by simp [results, Tryz.results89, go_sem, t0, t1]) rfl ⟨_, rfl, _, by rw [HV.out, HA.out, HO.out]; rfl, by rw [HV.out]; exact SlM.nil_ _, ?_⟩
    repeat (refine bS ?_ (by simp <;> omega))
    exact HB2.out
   | true =>
    have hcv := cav_CV.1 h1
    have q0 := HX2.out.cell_ 0 (v := .slice A c.ls.length cc) rfl
    have q1 := HX2.out.cell_ 1 (v := .int .i64 c.hand) rfl
    have l1 := HL2.out.cell_ 1 (v := .int .i64 x.t) rfl
    have l2 := HL2.out.cell_ 2 (v := .int .i64 x.p) rfl
    go_wp2_with fail
    refine (place_any _ c x.t x.p _ (HV0.out.now HB2.out)).mono ?_
    rintro e w3 ⟨rfl, hb3⟩
    have HX3 := Hd (HX2.out.below hb3)
    have HL3 := Hd (HL2.out.below hb3)
    have HR3 := Hd (HR2.out.below hb3)
    have HB3 := Hd (bT HB2.out hb3)
    have HS3 := Hd (Nat.le_trans HS2.out hb3.size)
    clear hb3
    clear q0 q1 l1 l2
    by_cases h6 : 0 ≤ plcI c.ls x.t x.p
    ·have HO : Hid (filOK c x = false) := by show _ = _; unfold filOK; rw [decide_eq_true h6]; simp
     have HV := Hd (filOK_false HO.out)
     have HA := Hd (filA_false HO.out)
     have r0 := HR3.out.cell_ 0 (v := .slice none 0 0) rfl
     have r1 := HR3.out.cell_ 1 (v := .int .i64 0) rfl
     have f0 := HR3.out.free 0
     have f1 := HR3.out.free 1
     have hl1 := HR3.out.lt
     go_wp2
     have o3 := (HR3.out.set_ 0 (.slice none 0 0)).set_ 1 (.int .i64 0)
     have t0 := o3.cell_ 0 (v := .slice none 0 0) rfl
     have t1 := o3.cell_ 1 (v := .int .i64 0) rfl
     refine bodyPost_ret (v := .tuple #[.agg #[.slice none 0 0, .int .i64 0], .int .i64 0, .bool false]) (by simp [results, Tryz.results89, go_sem, t0, t1]) rfl ⟨_, rfl, _, by rw [HV.out, HA.out, HO.out]; rfl, by rw [HV.out]; exact SlM.nil_ _, ?_⟩
     repeat (refine bS ?_ (by simp <;> omega))
     exact HB3.out
    ·have hvi := vic_in hcv
     have h8 : c.ls.length ≤ 8 := hcv.sz.2
     obtain ⟨y, ey⟩ : ∃ y, c.ls[vic c]? = some y := ⟨_, List.getElem?_eq_getElem hvi⟩
     have h6b : plcI c.ls x.t x.p < 0 := by omega
     have hs3 := HS3.out
     have hlt3 := HR3.out.lt
     have q0 := HX3.out.cell_ 0 (v := .slice A c.ls.length cc) rfl
     have q1 := HX3.out.cell_ 1 (v := .int .i64 c.hand) rfl
     have l0 := HL3.out.cell_ 0 (v := .bool x.v) rfl
     have l1 := HL3.out.cell_ 1 (v := .int .i64 x.t) rfl
     have l2 := HL3.out.cell_ 2 (v := .int .i64 x.p) rfl
     have l3 := HL3.out.cell_ 3 (v := .int .i64 x.f) rfl
     have l4 := HL3.out.cell_ 4 (v := .int .i64 x.r) rfl
     have l5 := HL3.out.cell_ 5 (v := .bool x.w) rfl
     rw [hxv] at l0 HWT
     go_wp2_with fail
     refine (HWT.out _ _ (HV0.out.now HB3.out) hvi (by omega)).mono ?_
     rintro e w4 ⟨_, rfl, v1, rfl, hM4, hb4⟩
     have HX4 := Hd (HX3.out.below hb4)
     have HL4 := Hd (HL3.out.below hb4)
     have HR4 := Hd (HR3.out.below hb4)
     have HB4 := Hd (bT HB3.out hb4)
     have HS4 := Hd (Nat.le_trans HS3.out hb4.size)
     clear hb4
     clear q0 q1 l0 l1 l2 l3 l4 l5
     have hM4' := hM4
     obtain ⟨A2, c2, e1, _⟩ := hM4'
     rw [List.length_set] at e1
     subst e1
     have ho5 := Own.new_ w4 29 #[.slice A2 c.ls.length c2, .int .i64 c.hand]
     have hb5 : Below w4.heap.size w4 (w4.alloc (.cells #[.slice A2 c.ls.length c2, .int .i64 c.hand] 29)) := bA bR
     have hz5 : w4.heap.size + 1 = (w4.alloc (.cells #[.slice A2 c.ls.length c2, .int .i64 c.hand] 29)).heap.size := by simp
     generalize hW5 : w4.alloc (.cells #[.slice A2 c.ls.length c2, .int .i64 c.hand] 29) = w5 at ho5 hb5 hz5
     have M5 := Hd (hM4.now hb5)
     have HO5 := Hd ho5
     have hc5 := HB4.out.size
     have HX5 := Hd (HX4.out.below hb5)
     have HL5 := Hd (HL4.out.below hb5)
     have HR5 := Hd (HR4.out.below hb5)
     have HB5 := Hd (bT HB4.out hb5)
     have HS5 := Hd (Nat.le_trans HS4.out hb5.size)
     clear hb5
     clear ho5 hM4
     obtain ⟨b4, o4, rfl, hb4, d0, d1, d2, d3, d4, d5⟩ := (HLR.out.now (Nat.le_refl _) HB5.out).ln ey
     have q0 := HX5.out.cell_ 0 (v := .slice (some ⟨b4, o4, none⟩) c.ls.length cc) rfl
     have hlx := HX5.out.lt
     have hlo := HO5.out.lt
     have EY := Hd ey
     clear d1 d2 d3 d4 d5 ey
     generalize hvv : vic c = vi at *
     cases hyv : y.v with
     | false =>
      rw [hyv] at d0
      have HH : Hid ((filC c x).hand = c.hand) := by show _ = _; simp only [filC, hvv, EY.out, hyv]; rfl
      have o90 := HO5.out.cell_ 0 (v := .slice A2 c.ls.length c2) rfl
      have o91 := HO5.out.cell_ 1 (v := .int .i64 (c.hand)) rfl
      have hlo9 := HO5.out.lt
      have HFC : Hid (filC c x = ⟨c.ls.set vi x, c.hand⟩) := by
       show _ = _
       have h1 : (filC c x).ls = c.ls.set vi x := by simp only [filC, hvv]
       have h2 := HH.out
       cases hf : filC c x with
       | mk a b =>
        rw [hf] at h1 h2
        simp only at h1 h2
        rw [h1, h2]
      go_wp2_with fail
      refine (CacheValid_any (.slice A2 c.ls.length c2) ⟨c.ls.set vi x, c.hand⟩ _ M5.out.r).mono ?_
      rintro e w10 ⟨rfl, hb10⟩
      have HR10 := Hd (HR5.out.below hb10)
      have HO10 := Hd (HO5.out.below hb10)
      have M10 := Hd (M5.out.now hb10)
      have HB10 := Hd (bT HB5.out hb10)
      clear hb10 o90 o91
      cases h5 : cav ⟨c.ls.set vi x, c.hand⟩ with
      | false =>
       have HO : Hid (filOK c x = false) := by show _ = _; unfold filOK; rw [HFC.out, h5, Bool.and_false]
       have HV := Hd (filOK_false HO.out)
       have HA := Hd (filA_false HO.out)
       have r0 := HR10.out.cell_ 0 (v := .slice none 0 0) rfl
       have r1 := HR10.out.cell_ 1 (v := .int .i64 0) rfl
       have f0 := HR10.out.free 0
       have f1 := HR10.out.free 1
       have hl1 := HR10.out.lt
       go_wp2
       have o3 := (HR10.out.set_ 0 (.slice none 0 0)).set_ 1 (.int .i64 0)
       have t0 := o3.cell_ 0 (v := .slice none 0 0) rfl
       have t1 := o3.cell_ 1 (v := .int .i64 0) rfl
       refine bodyPost_ret (v := .tuple #[.agg #[.slice none 0 0, .int .i64 0], .int .i64 0, .bool false]) (by simp [results, Tryz.results89, go_sem, t0, t1]) rfl ⟨_, rfl, _, by rw [HV.out, HA.out, HO.out]; rfl, by rw [HV.out]; exact SlM.nil_ _, ?_⟩
       repeat (refine bS ?_ (by simp <;> omega))
       exact HB10.out
      | true =>
       have HO : Hid (filOK c x = true) := by show _ = _; unfold filOK; rw [h1, hxv, h3, decide_eq_false (show ¬ 0 ≤ plcI c.ls x.t x.p by omega), HFC.out, h5]; rfl
       have HV : Hid (filV c x = ⟨c.ls.set vi x, c.hand⟩) := by show _ = _; rw [filOK_true HO.out]; exact HFC.out
       have HA : Hid (filA c x = vi) := by show _ = _; unfold filA; rw [HO.out, if_pos rfl, hvv]
       have o90 := HO10.out.cell_ 0 (v := .slice A2 c.ls.length c2) rfl
       have o91 := HO10.out.cell_ 1 (v := .int .i64 (c.hand)) rfl
       have hlo := HO10.out.lt
       have r0 := HR10.out.cell_ 0 (v := .slice none 0 0) rfl
       have r1 := HR10.out.cell_ 1 (v := .int .i64 0) rfl
       have f0 := HR10.out.free 0
       have f1 := HR10.out.free 1
       have hl1 := HR10.out.lt
       go_wp2
       have o3 := (HR10.out.set_ 0 (.slice A2 c.ls.length c2)).set_ 1 (.int .i64 (c.hand))
       have t0 := o3.cell_ 0 (v := .slice A2 c.ls.length c2) rfl
       have t1 := o3.cell_ 1 (v := .int .i64 (c.hand)) rfl
       refine bodyPost_ret (v := .tuple #[.agg #[.slice A2 c.ls.length c2, .int .i64 (c.hand)], .int .i64 vi, .bool true]) (by simp [results, Tryz.results89, go_sem, t0, t1]) rfl ⟨_, rfl, _, by rw [HV.out, HA.out, HO.out], ?_, ?_⟩
       ·rw [HV.out]
        exact ((M10.out.far (p := ⟨w.heap.size + 1 + 1, 0, none⟩) (u := .slice A2 c.ls.length c2) hlt3).far (p := ⟨w.heap.size + 1 + 1, 1, none⟩) (u := .int .i64 (c.hand)) hlt3).mono (by have := HB3.out.size; omega)
       ·repeat (refine bS ?_ (by simp <;> omega))
        exact HB10.out
     | true =>
      rw [hyv] at d0
      have HH : Hid ((filC c x).hand = ((vi : Int) + 1) % c.ls.length) := by show _ = _; simp only [filC, hvv, EY.out, hyv]; rfl
      have q9 : w.heap.size + 1 + 1 ≠ w4.heap.size := by have := HR4.out.lt; omega
      have o51 := HO5.out.cell_ 1 (v := .int .i64 c.hand) rfl
      have of1 := HO5.out.free 1
      have ho6 := HO5.out.set_ 1 (.int .i64 (((vi : Int) + 1) % c.ls.length))
      have m6 := M5.out.farT HO5.out (u := .int .i64 (((vi : Int) + 1) % c.ls.length)) (i := 1) (by decide)
      have hr6 := HR5.out.far (p := ⟨w4.heap.size, 1, none⟩) (u := .int .i64 (((vi : Int) + 1) % c.ls.length)) q9
      have hb6 : Below w.heap.size w (w5.setCell ⟨w4.heap.size, 1, none⟩ (.int .i64 (((vi : Int) + 1) % c.ls.length))) := bS HB5.out (by show w.heap.size ≤ w4.heap.size; omega)
      generalize hW6 : w5.setCell ⟨w4.heap.size, 1, none⟩ (.int .i64 (((vi : Int) + 1) % c.ls.length)) = w6 at ho6 m6 hr6 hb6
      have HO6 := Hd ho6
      have M6 := Hd m6
      have HR6 := Hd hr6
      have HB6 := Hd hb6
      clear ho6 m6 hr6 hb6
      have o90 := HO6.out.cell_ 0 (v := .slice A2 c.ls.length c2) rfl
      have o91 := HO6.out.cell_ 1 (v := .int .i64 (((vi : Int) + 1) % c.ls.length)) rfl
      have hlo9 := HO6.out.lt
      have HFC : Hid (filC c x = ⟨c.ls.set vi x, ((vi : Int) + 1) % c.ls.length⟩) := by
       show _ = _
       have h1 : (filC c x).ls = c.ls.set vi x := by simp only [filC, hvv]
       have h2 := HH.out
       cases hf : filC c x with
       | mk a b =>
        rw [hf] at h1 h2
        simp only at h1 h2
        rw [h1, h2]
      go_wp2_with fail
      refine (CacheValid_any (.slice A2 c.ls.length c2) ⟨c.ls.set vi x, ((vi : Int) + 1) % c.ls.length⟩ _ M6.out.r).mono ?_
      rintro e w10 ⟨rfl, hb10⟩
      have HR10 := Hd (HR6.out.below hb10)
      have HO10 := Hd (HO6.out.below hb10)
      have M10 := Hd (M6.out.now hb10)
      have HB10 := Hd (bT HB6.out hb10)
      clear hb10 o90 o91
      cases h5 : cav ⟨c.ls.set vi x, ((vi : Int) + 1) % c.ls.length⟩ with
      | false =>
       have HO : Hid (filOK c x = false) := by show _ = _; unfold filOK; rw [HFC.out, h5, Bool.and_false]
       have HV := Hd (filOK_false HO.out)
       have HA := Hd (filA_false HO.out)
       have r0 := HR10.out.cell_ 0 (v := .slice none 0 0) rfl
       have r1 := HR10.out.cell_ 1 (v := .int .i64 0) rfl
       have f0 := HR10.out.free 0
       have f1 := HR10.out.free 1
       have hl1 := HR10.out.lt
       go_wp2
       have o3 := (HR10.out.set_ 0 (.slice none 0 0)).set_ 1 (.int .i64 0)
       have t0 := o3.cell_ 0 (v := .slice none 0 0) rfl
       have t1 := o3.cell_ 1 (v := .int .i64 0) rfl
       refine bodyPost_ret (v := .tuple #[.agg #[.slice none 0 0, .int .i64 0], .int .i64 0, .bool false]) (by simp [results, Tryz.results89, go_sem, t0, t1]) rfl ⟨_, rfl, _, by rw [HV.out, HA.out, HO.out]; rfl, by rw [HV.out]; exact SlM.nil_ _, ?_⟩
       repeat (refine bS ?_ (by simp <;> omega))
       exact HB10.out
      | true =>
       have HO : Hid (filOK c x = true) := by show _ = _; unfold filOK; rw [h1, hxv, h3, decide_eq_false (show ¬ 0 ≤ plcI c.ls x.t x.p by omega), HFC.out, h5]; rfl
       have HV : Hid (filV c x = ⟨c.ls.set vi x, ((vi : Int) + 1) % c.ls.length⟩) := by show _ = _; rw [filOK_true HO.out]; exact HFC.out
       have HA : Hid (filA c x = vi) := by show _ = _; unfold filA; rw [HO.out, if_pos rfl, hvv]
       have o90 := HO10.out.cell_ 0 (v := .slice A2 c.ls.length c2) rfl
       have o91 := HO10.out.cell_ 1 (v := .int .i64 (((vi : Int) + 1) % c.ls.length)) rfl
       have hlo := HO10.out.lt
       have r0 := HR10.out.cell_ 0 (v := .slice none 0 0) rfl
       have r1 := HR10.out.cell_ 1 (v := .int .i64 0) rfl
       have f0 := HR10.out.free 0
       have f1 := HR10.out.free 1
       have hl1 := HR10.out.lt
       go_wp2
       have o3 := (HR10.out.set_ 0 (.slice A2 c.ls.length c2)).set_ 1 (.int .i64 (((vi : Int) + 1) % c.ls.length))
       have t0 := o3.cell_ 0 (v := .slice A2 c.ls.length c2) rfl
       have t1 := o3.cell_ 1 (v := .int .i64 (((vi : Int) + 1) % c.ls.length)) rfl
       refine bodyPost_ret (v := .tuple #[.agg #[.slice A2 c.ls.length c2, .int .i64 (((vi : Int) + 1) % c.ls.length)], .int .i64 vi, .bool true]) (by simp [results, Tryz.results89, go_sem, t0, t1]) rfl ⟨_, rfl, _, by rw [HV.out, HA.out, HO.out], ?_, ?_⟩
       ·rw [HV.out]
        exact ((M10.out.far (p := ⟨w.heap.size + 1 + 1, 0, none⟩) (u := .slice A2 c.ls.length c2) hlt3).far (p := ⟨w.heap.size + 1 + 1, 1, none⟩) (u := .int .i64 (((vi : Int) + 1) % c.ls.length)) hlt3).mono (by have := HB3.out.size; omega)
       ·repeat (refine bS ?_ (by simp <;> omega))
        exact HB10.out
end Go.Proofs.YtfbnokjdkhcgoaaGreatDoor
