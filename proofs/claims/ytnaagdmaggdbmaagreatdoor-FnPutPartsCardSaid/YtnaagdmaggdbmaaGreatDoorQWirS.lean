/- A part of the proofs of this seat: WirS. -/
import Derived.Test.YtnaagdmaggdbmaaGreatDoorQTpS
set_option linter.unusedVariables false
set_option linter.unusedSimpArgs false
namespace Go.Proofs.YtnaagdmaggdbmaaGreatDoor
open Go.RowKit
set_option maxRecDepth 1000000
theorem MineE.wwire {e : TypeId} {B : Nat} {w : World} {g : Nat} {l : List Ln} (h : MineE lnE e B w (some ⟨g, 0, none⟩) l) {k : Nat} {f : Ln} (hk : l[k]? = some f) (b : Bool) :
  MineE lnE e B (w.setCell ⟨g, k * 6 + 5, none⟩ (.bool b)) (some ⟨g, 0, none⟩) (l.set k { f with w := b }) := by
 refine h.wcell hk { f with w := b } 5 (.bool b) (by decide) (fun j u hj => ?_)
 simp only [lnE] at hj ⊢
 match j, hj with
 | 0, hj => exact .inr ⟨by decide, hj⟩
 | 1, hj => exact .inr ⟨by decide, hj⟩
 | 2, hj => exact .inr ⟨by decide, hj⟩
 | 3, hj => exact .inr ⟨by decide, hj⟩
 | 4, hj => exact .inr ⟨by decide, hj⟩
 | 5, hj => simp at hj; exact .inl ⟨rfl, hj.symm⟩
 | j + 6, hj => simp at hj
theorem wirOK_false {c : Ca} {i : Int} {b : Bool} (h : wirOK c i b = false) : wirV c i b = caz := by unfold wirV; rw [h]; rfl
theorem wirOK_true {c : Ca} {i : Int} {b : Bool} (h : wirOK c i b = true) : wirV c i b = wirC c i b := by unfold wirV; rw [h]; rfl
set_option maxHeartbeats 4000000 in
theorem sWireLine_any (vl : Value) (c : Ca) (i : Int) (b : Bool) (w : World) (hT : SlR lnE w vl c.ls) :
  Calls Tryz.prog 210 #[.agg #[vl, .int .i64 c.hand], .int .i64 i, .bool b] w (Post2 fun v w' => ∃ v1, v = .tuple #[.agg #[v1, .int .i64 (wirV c i b).hand], .bool (wirOK c i b)] ∧ SlM lnE 106 w.heap.size w' v1 (wirV c i b).ls ∧ Below w.heap.size w w') := by
 have HV0 := Lib.hid hT
 obtain ⟨A, cc, rfl, hbc, hbm, hL⟩ := hT
 have hbx := (Own.new_ w 29 #[.slice A c.ls.length cc, .int .i64 c.hand]).alloc (o := .cells #[.slice none 0 0, .int .i64 0] 29)
 have hbo := ownAt (W := w.alloc (.cells #[.slice A c.ls.length cc, .int .i64 c.hand] 29)) (g := w.heap.size + 1) (t := 29) (cs := #[.slice none 0 0, .int .i64 0]) (by simp)
 have hb0 : Below w.heap.size w ((w.alloc (.cells #[.slice A c.ls.length cc, .int .i64 c.hand] 29)).alloc (.cells #[.slice none 0 0, .int .i64 0] 29)) := bA (bA bR)
 have hs0 : ((w.alloc (.cells #[.slice A c.ls.length cc, .int .i64 c.hand] 29)).alloc (.cells #[.slice none 0 0, .int .i64 0] 29)).heap.size = w.heap.size + 2 := by simp
 generalize hW : (w.alloc (.cells #[.slice A c.ls.length cc, .int .i64 c.hand] 29)).alloc (.cells #[.slice none 0 0, .int .i64 0] 29) = W0 at hbx hbo hb0 hs0
 have q0 := hbx.cell_ 0 (v := .slice A c.ls.length cc) rfl
 have q1 := hbx.cell_ 1 (v := .int .i64 c.hand) rfl
 have HX0 := Lib.hid hbx
 have HR0 := Lib.hid hbo
 have HB0 := Lib.hid hb0
 have HS0 : Hid (w.heap.size + 2 ≤ W0.heap.size) := Nat.le_of_eq hs0.symm
 have HLR := Lib.hid hL
 clear hbx hbo hb0 hL
 go_enter Tryz.func210, Tryz.ntmps210
 go_wp2_with fail
 refine (sCacheValid_any _ c _ (HV0.out.now HB0.out)).mono ?_
 rintro e w1 ⟨rfl, hb1⟩
 have HX1 := Lib.hid (HX0.out.below hb1)
 have HR1 := Lib.hid (HR0.out.below hb1)
 have HB1 := Lib.hid (bT HB0.out hb1)
 have HS1 := Lib.hid (Nat.le_trans HS0.out hb1.size)
 clear hb1
 clear q0 q1
 cases h1 : cav c with
 | false =>
  have HO : Hid (wirOK c i b = false) := by show _ = _; unfold wirOK; rw [h1]; rfl
  have HV := Lib.hid (wirOK_false HO.out)
  have r0 := HR1.out.cell_ 0 (v := .slice none 0 0) rfl
  have r1 := HR1.out.cell_ 1 (v := .int .i64 0) rfl
  have f0 := HR1.out.free 0
  have f1 := HR1.out.free 1
  have hl1 := HR1.out.lt
  go_wp2
  have o3 := (HR1.out.set_ 0 (.slice none 0 0)).set_ 1 (.int .i64 0)
  have t0 := o3.cell_ 0 (v := .slice none 0 0) rfl
  have t1 := o3.cell_ 1 (v := .int .i64 0) rfl
  refine bodyPost_ret (v := .tuple #[.agg #[.slice none 0 0, .int .i64 0], .bool false]) (by simp [results, Tryz.results210, go_sem, t0, t1]) rfl ⟨_, rfl, _, by rw [HV.out, HO.out]; rfl, by rw [HV.out]; exact SlM.nil_ _, ?_⟩
  repeat (refine bS ?_ (by simp <;> omega))
  exact HB1.out
 | true =>
 have hcv := cav_CV.1 h1
 have h8 : c.ls.length ≤ 8 := hcv.sz.2
 by_cases hi0 : i < 0
 ·have HO : Hid (wirOK c i b = false) := by show _ = _; unfold wirOK; rw [inR_no (show ¬ (0 ≤ i ∧ i < c.ls.length) by omega)]; simp
  have HV := Lib.hid (wirOK_false HO.out)
  have r0 := HR1.out.cell_ 0 (v := .slice none 0 0) rfl
  have r1 := HR1.out.cell_ 1 (v := .int .i64 0) rfl
  have f0 := HR1.out.free 0
  have f1 := HR1.out.free 1
  have hl1 := HR1.out.lt
  go_wp2
  have o3 := (HR1.out.set_ 0 (.slice none 0 0)).set_ 1 (.int .i64 0)
  have t0 := o3.cell_ 0 (v := .slice none 0 0) rfl
  have t1 := o3.cell_ 1 (v := .int .i64 0) rfl
  refine bodyPost_ret (v := .tuple #[.agg #[.slice none 0 0, .int .i64 0], .bool false]) (by simp [results, Tryz.results210, go_sem, t0, t1]) rfl ⟨_, rfl, _, by rw [HV.out, HO.out]; rfl, by rw [HV.out]; exact SlM.nil_ _, ?_⟩
  repeat (refine bS ?_ (by simp <;> omega))
  exact HB1.out
 have q0 := HX1.out.cell_ 0 (v := .slice A c.ls.length cc) rfl
 by_cases hi1 : (c.ls.length : Int) ≤ i
 ·have HO : Hid (wirOK c i b = false) := by show _ = _; unfold wirOK; rw [inR_no (show ¬ (0 ≤ i ∧ i < c.ls.length) by omega)]; simp
  have HV := Lib.hid (wirOK_false HO.out)
  have r0 := HR1.out.cell_ 0 (v := .slice none 0 0) rfl
  have r1 := HR1.out.cell_ 1 (v := .int .i64 0) rfl
  have f0 := HR1.out.free 0
  have f1 := HR1.out.free 1
  have hl1 := HR1.out.lt
  go_wp2
  have o3 := (HR1.out.set_ 0 (.slice none 0 0)).set_ 1 (.int .i64 0)
  have t0 := o3.cell_ 0 (v := .slice none 0 0) rfl
  have t1 := o3.cell_ 1 (v := .int .i64 0) rfl
  refine bodyPost_ret (v := .tuple #[.agg #[.slice none 0 0, .int .i64 0], .bool false]) (by simp [results, Tryz.results210, go_sem, t0, t1]) rfl ⟨_, rfl, _, by rw [HV.out, HO.out]; rfl, by rw [HV.out]; exact SlM.nil_ _, ?_⟩
  repeat (refine bS ?_ (by simp <;> omega))
  exact HB1.out
 obtain ⟨k, rfl⟩ := Int.eq_ofNat_of_zero_le (show 0 ≤ i by omega)
 have hk : k < c.ls.length := by omega
 obtain ⟨x, ex⟩ : ∃ x, c.ls[k]? = some x := ⟨_, List.getElem?_eq_getElem hk⟩
 have hgd : c.ls.getD (k : Int).toNat lnz = x := by rw [Int.toNat_natCast, List.getD_eq_getElem?_getD, ex]; rfl
 have hin : inR (k : Int) c.ls.length = true := inR_iff.2 (by omega)
 obtain ⟨b4, o4, rfl, hb4, d0, d1, d2, d3, d4, d5⟩ := (HLR.out.now (Nat.le_refl _) HB1.out).ln ex
 clear d1 d2 d3 d4 d5
 cases hxv : x.v with
 | false =>
  rw [hxv] at d0
  have HO : Hid (wirOK c k b = false) := by show _ = _; unfold wirOK; rw [hgd, hxv]; simp
  have HV := Lib.hid (wirOK_false HO.out)
  have r0 := HR1.out.cell_ 0 (v := .slice none 0 0) rfl
  have r1 := HR1.out.cell_ 1 (v := .int .i64 0) rfl
  have f0 := HR1.out.free 0
  have f1 := HR1.out.free 1
  have hl1 := HR1.out.lt
  go_wp2
  have o3 := (HR1.out.set_ 0 (.slice none 0 0)).set_ 1 (.int .i64 0)
  have t0 := o3.cell_ 0 (v := .slice none 0 0) rfl
  have t1 := o3.cell_ 1 (v := .int .i64 0) rfl
  refine bodyPost_ret (v := .tuple #[.agg #[.slice none 0 0, .int .i64 0], .bool false]) (by simp [results, Tryz.results210, go_sem, t0, t1]) rfl ⟨_, rfl, _, by rw [HV.out, HO.out]; rfl, by rw [HV.out]; exact SlM.nil_ _, ?_⟩
  repeat (refine bS ?_ (by simp <;> omega))
  exact HB1.out
 | true =>
 rw [hxv] at d0
 have hwc : wirC c k b = ⟨c.ls.set k { x with w := b }, c.hand⟩ := by unfold wirC; rw [hgd, Int.toNat_natCast]
 have q1 := HX1.out.cell_ 1 (v := .int .i64 c.hand) rfl
 have EX := Lib.hid ex
 clear ex
 go_wp2_with fail
 refine (l4Copy_any _ c _ (HV0.out.now HB1.out) (by omega)).mono ?_
 rintro e w4 ⟨_, rfl, v1, rfl, hM4, hb4'⟩
 have hb4 := hb4'
 have hs3 := HS1.out
 have hlt3 := HR1.out.lt
 obtain ⟨A2, c2, rfl, l2', k2, m2⟩ := hM4
 obtain ⟨g2, cs2, rfl, hg2, O2, _⟩ := m2.own (by omega)
 clear q0 q1 d0
 have HX4 := Lib.hid (HX1.out.below hb4)
 have HR4 := Lib.hid (HR1.out.below hb4)
 have HB4 := Lib.hid (bT HB1.out hb4)
 have HS4 := Lib.hid (Nat.le_trans HS1.out hb4.size)
 clear hb4
 clear hb4'
 have ho5 := Own.new_ w4 29 #[.slice (some ⟨g2, 0, none⟩) c.ls.length c2, .int .i64 c.hand]
 have hb5 : Below w4.heap.size w4 (w4.alloc (.cells #[.slice (some ⟨g2, 0, none⟩) c.ls.length c2, .int .i64 c.hand] 29)) := bA bR
 generalize hW5 : w4.alloc (.cells #[.slice (some ⟨g2, 0, none⟩) c.ls.length c2, .int .i64 c.hand] 29) = w5 at ho5 hb5
 have M5 := Lib.hid (m2.below hb5)
 have O5 := O2.below hb5
 have HX5 := Lib.hid (HX4.out.below hb5)
 have HR5 := Lib.hid (HR4.out.below hb5)
 have HB5 := Lib.hid (bT HB4.out hb5)
 have HS5 := Lib.hid (Nat.le_trans HS4.out hb5.size)
 clear hb5
 clear m2 O2
 have HO5 := Lib.hid ho5
 have hne : w4.heap.size ≠ g2 := HO5.out.ne O5 (by decide)
 have hne2 : g2 ≠ w4.heap.size := fun h => hne h.symm
 have q3 : w.heap.size + 1 ≠ g2 := HR5.out.ne O5 (by decide)
 have q4 : g2 ≠ w.heap.size + 1 := fun h => q3 h.symm
 have z5 := O5.free (k * 6 + 5)
 obtain ⟨bq, oq, eq1, _, y0, y1, y2, y3, y4, y5⟩ := M5.out.is.ln EX.out
 injection eq1 with eq1
 injection eq1 with eq1 eq2
 subst eq1 eq2
 rw [Nat.zero_add] at y5
 have o50 := HO5.out.cell_ 0 (v := .slice (some ⟨g2, 0, none⟩) c.ls.length c2) rfl
 have hlo := HO5.out.lt
 have m9 := M5.out.wwire EX.out b
 have hr9 := HR5.out.far (p := ⟨g2, k * 6 + 5, none⟩) (u := .bool b) q3
 have ho9 := HO5.out.far (p := ⟨g2, k * 6 + 5, none⟩) (u := .bool b) hne
 have hgg : w.heap.size ≤ g2 := by have := HB1.out.size; omega
 have hb9 := bS HB5.out (p := ⟨g2, k * 6 + 5, none⟩) hgg (u := .bool b)
 generalize hW9 : w5.setCell ⟨g2, k * 6 + 5, none⟩ (.bool b) = w9 at m9 hr9 ho9 hb9
 have M9 := Lib.hid m9
 have HR9 := Lib.hid hr9
 have HO9 := Lib.hid ho9
 have HB9 := Lib.hid hb9
 clear m9 hr9 ho9 hb9 O5 ho5 y0 y1 y2 y3 y4
 have o91 := HO9.out.cell_ 0 (v := .slice (some ⟨g2, 0, none⟩) c.ls.length c2) rfl
 have o92 := HO9.out.cell_ 1 (v := .int .i64 c.hand) rfl
 have hlo9 := HO9.out.lt
 go_wp2_with fail
 refine (sCacheValid_any (.slice (some ⟨g2, 0, none⟩) c.ls.length c2) ⟨c.ls.set k { x with w := b }, c.hand⟩ w9 (slm_of (by simp) (by simpa using l2') k2 M9.out).r).mono ?_
 rintro e w10 ⟨rfl, hb10⟩
 have HR10 := Lib.hid (HR9.out.below hb10)
 have HO10 := Lib.hid (HO9.out.below hb10)
 have M10 := Lib.hid (M9.out.below hb10)
 have HB10 := Lib.hid (bT HB9.out hb10)
 clear hb10 o91 o92 o50 y5 z5
 cases h5 : cav ⟨c.ls.set k { x with w := b }, c.hand⟩ with
 | false =>
  have HO : Hid (wirOK c k b = false) := by show _ = _; unfold wirOK; rw [hwc, h5, Bool.and_false]
  have HV := Lib.hid (wirOK_false HO.out)
  have r0 := HR10.out.cell_ 0 (v := .slice none 0 0) rfl
  have r1 := HR10.out.cell_ 1 (v := .int .i64 0) rfl
  have f0 := HR10.out.free 0
  have f1 := HR10.out.free 1
  have hl1 := HR10.out.lt
  go_wp2
  have o3 := (HR10.out.set_ 0 (.slice none 0 0)).set_ 1 (.int .i64 0)
  have t0 := o3.cell_ 0 (v := .slice none 0 0) rfl
  have t1 := o3.cell_ 1 (v := .int .i64 0) rfl
  refine bodyPost_ret (v := .tuple #[.agg #[.slice none 0 0, .int .i64 0], .bool false]) (by simp [results, Tryz.results210, go_sem, t0, t1]) rfl ⟨_, rfl, _, by rw [HV.out, HO.out]; rfl, by rw [HV.out]; exact SlM.nil_ _, ?_⟩
  repeat (refine bS ?_ (by simp <;> omega))
  exact HB10.out
 | true =>
  have HO : Hid (wirOK c k b = true) := by show _ = _; unfold wirOK; rw [h1, hin, hgd, hxv, hwc, h5]; rfl
  have HV : Hid (wirV c k b = ⟨c.ls.set k { x with w := b }, c.hand⟩) := by show _ = _; rw [wirOK_true HO.out]; exact hwc
  have r0 := HR10.out.cell_ 0 (v := .slice none 0 0) rfl
  have r1 := HR10.out.cell_ 1 (v := .int .i64 0) rfl
  have f0 := HR10.out.free 0
  have f1 := HR10.out.free 1
  have hl1 := HR10.out.lt
  have o91 := HO10.out.cell_ 0 (v := .slice (some ⟨g2, 0, none⟩) c.ls.length c2) rfl
  have o92 := HO10.out.cell_ 1 (v := .int .i64 c.hand) rfl
  have hlo10 := HO10.out.lt
  go_wp2
  have o3 := (HR10.out.set_ 0 (.slice (some ⟨g2, 0, none⟩) c.ls.length c2)).set_ 1 (.int .i64 c.hand)
  have t0 := o3.cell_ 0 (v := .slice (some ⟨g2, 0, none⟩) c.ls.length c2) rfl
  have t1 := o3.cell_ 1 (v := .int .i64 c.hand) rfl
  refine bodyPost_ret (v := .tuple #[.agg #[.slice (some ⟨g2, 0, none⟩) c.ls.length c2, .int .i64 c.hand], .bool true]) (by simp [results, Tryz.results210, go_sem, t0, t1]) rfl ⟨_, rfl, _, by rw [HV.out, HO.out], ?_, ?_⟩
  ·rw [HV.out]
   exact (slm_of (by simp) (by simpa using l2') k2 ((M10.out.far (p := ⟨w.heap.size + 1, 0, none⟩) (u := .slice (some ⟨g2, 0, none⟩) c.ls.length c2) hlt3).far (p := ⟨w.heap.size + 1, 1, none⟩) (u := .int .i64 c.hand) hlt3)).mono (by have := HB1.out.size; omega)
  ·repeat (refine bS ?_ (by simp <;> omega))
   exact HB10.out
end Go.Proofs.YtnaagdmaggdbmaaGreatDoor
