/- A part of the proofs of this seat: MapI, Ma2, SpI, Oth, DrpP, TagI, RelD. -/
import Derived.Test.YtnaagdmaggdbmaaGreatDoorQRow
import Derived.Test.YtnaagdmaggdbmaaGreatDoorQCaP
import Derived.Test.YtnaagdmaggdbmaaGreatDoorQFind
import Derived.Test.YtnaagdmaggdbmaaGreatDoorQClone
import Derived.Test.YtnaagdmaggdbmaaGreatDoorQCaI
import Derived.Test.YtnaagdmaggdbmaaGreatDoorQCaS
set_option linter.unusedVariables false
set_option linter.unusedSimpArgs false
namespace Go.Proofs.YtnaagdmaggdbmaaGreatDoor
open Go.RowKit
set_option maxRecDepth 1000000
theorem mapOK_false {t : Tab} {s p fr r : Int} (h : mapOK t s p fr r = false) : mapV t s p fr r = tabz := by unfold mapV; rw [h]; rfl
theorem SlM.far {α : Type} {E : Enc α} {e : TypeId} {B : Nat} {w : World} {v : Value} {l : List α} (h : SlM E e B w v l) {p : Addr} (hp : p.block < B) {u : Value} : SlM E e B (w.setCell p u) v l := by
 obtain ⟨A, c, h1, h2, h3, h4⟩ := h
 exact ⟨A, c, h1, h2, h3, h4.far hp⟩
theorem TaM.far {B : Nat} {w : World} {vb vf : Value} {t : Tab} (h : TaM B w vb vf t) {p : Addr} (hp : p.block < B) {u : Value} : TaM B (w.setCell p u) vb vf t := ⟨h.b.far hp, h.f.far hp⟩
theorem TaM.mono {B B' : Nat} {w : World} {vb vf : Value} {t : Tab} (h : TaM B w vb vf t) (hb : B' ≤ B) : TaM B' w vb vf t := ⟨h.b.mono hb, h.f.mono hb⟩
theorem tam_z {base : Nat} {w : World} : TaM base w (.slice none 0 0) (.slice none 0 0) tabz := ⟨SlM.nil_ _, SlM.nil_ _⟩
set_option maxHeartbeats 4000000 in
theorem MapPage_any (vb vf : Value) (t : Tab) (s p fr r : Int) (w : World) (hT : TaR w vb vf t) (hfree : Free w) :
  Calls Tryz.prog 111 #[.agg #[vb, vf], .agg #[.int .i64 s, .int .i64 p], .int .i64 fr, .int .i64 r] w (Post2 fun v w' => ∃ v1 v2, v = .tuple #[.agg #[v1, v2], .bool (mapOK t s p fr r)] ∧ TaM w.heap.size w' v1 v2 (mapV t s p fr r) ∧ Below w.heap.size w w') := by
 have ht0 := ((Own.new_ w 26 #[vb, vf]).alloc (o := .cells #[.int .i64 s, .int .i64 p] 36)).alloc (o := .cells #[.slice none 0 0, .slice none 0 0] 26)
 have hk0 := (Own.new_ (w.alloc (.cells #[vb, vf] 26)) 36 #[.int .i64 s, .int .i64 p]).alloc (o := .cells #[.slice none 0 0, .slice none 0 0] 26)
 have hr0 := Own.new_ ((w.alloc (.cells #[vb, vf] 26)).alloc (.cells #[.int .i64 s, .int .i64 p] 36)) 26 #[.slice none 0 0, .slice none 0 0]
 have hb0 : Below w.heap.size w (((w.alloc (.cells #[vb, vf] 26)).alloc (.cells #[.int .i64 s, .int .i64 p] 36)).alloc (.cells #[.slice none 0 0, .slice none 0 0] 26)) := bA (bA (bA bR))
 rw [show (w.alloc (.cells #[vb, vf] 26)).heap.size = w.heap.size + 1 by simp] at hk0
 rw [show ((w.alloc (.cells #[vb, vf] 26)).alloc (.cells #[.int .i64 s, .int .i64 p] 36)).heap.size = w.heap.size + 1 + 1 by simp] at hr0
 have hs0 : (((w.alloc (.cells #[vb, vf] 26)).alloc (.cells #[.int .i64 s, .int .i64 p] 36)).alloc (.cells #[.slice none 0 0, .slice none 0 0] 26)).heap.size = w.heap.size + 3 := by simp
 generalize hW : ((w.alloc (.cells #[vb, vf] 26)).alloc (.cells #[.int .i64 s, .int .i64 p] 36)).alloc (.cells #[.slice none 0 0, .slice none 0 0] 26) = W0 at ht0 hk0 hr0 hb0 hs0
 have HT0 := Lib.hid ht0
 have HK0 := Lib.hid hk0
 have HR0 := Lib.hid hr0
 have HB0 := Lib.hid hb0
 clear ht0 hk0 hr0 hb0
 have t00 := HT0.out.cell_ 0 (v := vb) rfl
 have t10 := HT0.out.cell_ 1 (v := vf) rfl
 have k00 := HK0.out.cell_ 0 (v := .int .i64 s) rfl
 have k10 := HK0.out.cell_ 1 (v := .int .i64 p) rfl
 have HTR := Lib.hid hT
 have HF := Lib.hid hfree
 clear hT hfree
 go_enter Tryz.func111, Tryz.ntmps111
 go_wp2_with fail
 refine (TableValid_any vb vf t _ (HTR.out.now HB0.out) (HF.out.now HB0.out)).mono ?_
 rintro e w1 ⟨rfl, hb1⟩
 have HT1 := Lib.hid (HT0.out.below hb1)
 have HK1 := Lib.hid (HK0.out.below hb1)
 have HR1 := Lib.hid (HR0.out.below hb1)
 have HB1 := Lib.hid (bT HB0.out hb1)
 clear hb1
 have t01 := HT1.out.cell_ 0 rfl
 have t11 := HT1.out.cell_ 1 rfl
 have k01 := HK1.out.cell_ 0 (v := .int .i64 s) rfl
 have k11 := HK1.out.cell_ 1 (v := .int .i64 p) rfl
 have r01 := HR1.out.cell_ 0 (v := .slice none 0 0) rfl
 have r11 := HR1.out.cell_ 1 (v := .slice none 0 0) rfl
 have fr01 := HR1.out.free 0
 have fr11 := HR1.out.free 1
 clear t00 t10 k00 k10
 try clear r00 r10 fr00 fr10
 cases h1 : tv t with
 | false =>
  have HA : Hid (mapOK t s p fr r = false) := by show _ = _; unfold mapOK; rw [h1]; rfl
  have HV := Lib.hid (mapOK_false HA.out)
  go_wp2
  have o3 := (HR1.out.set_ 0 (.slice none 0 0)).set_ 1 (.slice none 0 0)
  have e0 := o3.cell_ 0 (v := .slice none 0 0) rfl
  have e1 := o3.cell_ 1 (v := .slice none 0 0) rfl
  refine bodyPost_ret (v := .tuple #[.agg #[.slice none 0 0, .slice none 0 0], .bool false]) (by simp [results, Tryz.results111, go_sem, e0, e1]) rfl ⟨_, rfl, _, _, by rw [HA.out], ?_, bS (bS HB1.out (by simp; omega)) (by simp; omega)⟩
  rw [HV.out]
  exact tam_z
 | true =>
  go_wp2_with fail
  refine (keyValid_any _ _ _).mono ?_
  rintro e w2 ⟨rfl, hb2⟩
  have HT2 := Lib.hid (HT1.out.below hb2)
  have HK2 := Lib.hid (HK1.out.below hb2)
  have HR2 := Lib.hid (HR1.out.below hb2)
  have HB2 := Lib.hid (bT HB1.out hb2)
  clear hb2
  have t02 := HT2.out.cell_ 0 rfl
  have t12 := HT2.out.cell_ 1 rfl
  have k02 := HK2.out.cell_ 0 (v := .int .i64 s) rfl
  have k12 := HK2.out.cell_ 1 (v := .int .i64 p) rfl
  have r02 := HR2.out.cell_ 0 (v := .slice none 0 0) rfl
  have r12 := HR2.out.cell_ 1 (v := .slice none 0 0) rfl
  have fr02 := HR2.out.free 0
  have fr12 := HR2.out.free 1
  clear t01 t11 k01 k11
  try clear r01 r11 fr01 fr11
  cases h2 : kval (s, p) with
  | false =>
   have HA : Hid (mapOK t s p fr r = false) := by show _ = _; unfold mapOK; rw [h1, h2]; rfl
   have HV := Lib.hid (mapOK_false HA.out)
   go_wp2
   have o3 := (HR2.out.set_ 0 (.slice none 0 0)).set_ 1 (.slice none 0 0)
   have e0 := o3.cell_ 0 (v := .slice none 0 0) rfl
   have e1 := o3.cell_ 1 (v := .slice none 0 0) rfl
   refine bodyPost_ret (v := .tuple #[.agg #[.slice none 0 0, .slice none 0 0], .bool false]) (by simp [results, Tryz.results111, go_sem, e0, e1]) rfl ⟨_, rfl, _, _, by rw [HA.out], ?_, bS (bS HB2.out (by simp; omega)) (by simp; omega)⟩
   rw [HV.out]
   exact tam_z
  | true =>
   go_wp2_with fail
   refine (find_any vb vf t s p _ (HTR.out.now HB2.out)).mono ?_
   rintro e w3 ⟨rfl, hb3⟩
   have HT3 := Lib.hid (HT2.out.below hb3)
   have HK3 := Lib.hid (HK2.out.below hb3)
   have HR3 := Lib.hid (HR2.out.below hb3)
   have HB3 := Lib.hid (bT HB2.out hb3)
   clear hb3
   have t03 := HT3.out.cell_ 0 rfl
   have t13 := HT3.out.cell_ 1 rfl
   have k03 := HK3.out.cell_ 0 (v := .int .i64 s) rfl
   have k13 := HK3.out.cell_ 1 (v := .int .i64 p) rfl
   have r03 := HR3.out.cell_ 0 (v := .slice none 0 0) rfl
   have r13 := HR3.out.cell_ 1 (v := .slice none 0 0) rfl
   have fr03 := HR3.out.free 0
   have fr13 := HR3.out.free 1
   clear t02 t12 k02 k12
   try clear r02 r12 fr02 fr12
   by_cases h3 : 0 ≤ fndI t.fs s p
   ·have HA : Hid (mapOK t s p fr r = false) := by show _ = _; unfold mapOK; rw [h1, h2, decide_eq_true h3]; rfl
    have HV := Lib.hid (mapOK_false HA.out)
    go_wp2
    have o3 := (HR3.out.set_ 0 (.slice none 0 0)).set_ 1 (.slice none 0 0)
    have e0 := o3.cell_ 0 (v := .slice none 0 0) rfl
    have e1 := o3.cell_ 1 (v := .slice none 0 0) rfl
    refine bodyPost_ret (v := .tuple #[.agg #[.slice none 0 0, .slice none 0 0], .bool false]) (by simp [results, Tryz.results111, go_sem, e0, e1]) rfl ⟨_, rfl, _, _, by rw [HA.out], ?_, bS (bS HB3.out (by simp; omega)) (by simp; omega)⟩
    rw [HV.out]
    exact tam_z
   ·obtain ⟨Af, cf, rfl, hfc, hfm, hF⟩ := HTR.out.f
    obtain ⟨⟨_, hlen, hb1', hlen2⟩, _⟩ := tv_parts h1
    have h3f : decide (0 ≤ fndI t.fs s p) = false := decide_eq_false h3
    have HN3 := Lib.hid h3f
    clear h3f
    cases h4 : inR fr t.fs.length with
    | false =>
     have HA : Hid (mapOK t s p fr r = false) := by show _ = _; unfold mapOK; rw [h1, h2, HN3.out, h4]; rfl
     have HV := Lib.hid (mapOK_false HA.out)
     go_wp2_with fail
     refine (within_any _ _ _).mono ?_
     rintro e w4 ⟨rfl, rfl⟩
     rw [h4]
     go_wp2
     have o3 := (HR3.out.set_ 0 (.slice none 0 0)).set_ 1 (.slice none 0 0)
     have e0 := o3.cell_ 0 (v := .slice none 0 0) rfl
     have e1 := o3.cell_ 1 (v := .slice none 0 0) rfl
     refine bodyPost_ret (v := .tuple #[.agg #[.slice none 0 0, .slice none 0 0], .bool false]) (by simp [results, Tryz.results111, go_sem, e0, e1]) rfl ⟨_, rfl, _, _, by rw [HA.out], ?_, bS (bS HB3.out (by simp; omega)) (by simp; omega)⟩
     rw [HV.out]
     exact tam_z
    | true =>
     obtain ⟨h5, h6⟩ : 0 ≤ fr ∧ fr < t.fs.length := by unfold inR at h4; simpa using h4
     obtain ⟨k, rfl⟩ := Int.eq_ofNat_of_zero_le h5
     have hk : k < t.fs.length := by omega
     obtain ⟨f, ef⟩ : ∃ f, t.fs[k]? = some f := ⟨_, List.getElem?_eq_getElem hk⟩
     obtain ⟨b4, o4, rfl, hb4, d0, d1, d2, d3, d4⟩ := (hF.now (Nat.le_refl _) HB3.out).fr ef
     clear d1 d2 d3 d4
     cases h7 : f.used with
     | true =>
      rw [h7] at d0
      have HA : Hid (mapOK t s p k r = false) := by show _ = _; unfold mapOK; rw [h1, h2, HN3.out, h4, Int.toNat_natCast, ef]; simp [h7]
      have HV := Lib.hid (mapOK_false HA.out)
      go_wp2_with fail
      refine (within_any _ _ _).mono ?_
      rintro e w4 ⟨rfl, rfl⟩
      rw [h4]
      clear ef h4
      go_wp2
      have o3 := (HR3.out.set_ 0 (.slice none 0 0)).set_ 1 (.slice none 0 0)
      have e0 := o3.cell_ 0 (v := .slice none 0 0) rfl
      have e1 := o3.cell_ 1 (v := .slice none 0 0) rfl
      refine bodyPost_ret (v := .tuple #[.agg #[.slice none 0 0, .slice none 0 0], .bool false]) (by simp [results, Tryz.results111, go_sem, e0, e1]) rfl ⟨_, rfl, _, _, by rw [HA.out], ?_, bS (bS HB3.out (by simp; omega)) (by simp; omega)⟩
      rw [HV.out]
      exact tam_z
     | false =>
      rw [h7] at d0
      cases h8 : inR r 8 with
      | false =>
       have HA : Hid (mapOK t s p k r = false) := by show _ = _; unfold mapOK; rw [h8]; simp
       have HV := Lib.hid (mapOK_false HA.out)
       go_wp2_with fail
       refine (within_any _ _ _).mono ?_
       rintro e w4 ⟨rfl, rfl⟩
       rw [h4]
       clear ef h4
       go_wp2_with fail
       refine (RightsValid_any _ _).mono ?_
       rintro e w4 ⟨rfl, rfl⟩
       rw [h8]
       go_wp2
       have o3 := (HR3.out.set_ 0 (.slice none 0 0)).set_ 1 (.slice none 0 0)
       have e0 := o3.cell_ 0 (v := .slice none 0 0) rfl
       have e1 := o3.cell_ 1 (v := .slice none 0 0) rfl
       refine bodyPost_ret (v := .tuple #[.agg #[.slice none 0 0, .slice none 0 0], .bool false]) (by simp [results, Tryz.results111, go_sem, e0, e1]) rfl ⟨_, rfl, _, _, by rw [HA.out], ?_, bS (bS HB3.out (by simp; omega)) (by simp; omega)⟩
       rw [HV.out]
       exact tam_z
      | true =>
       have HA : Hid (mapOK t s p k r = true) := by show _ = _; unfold mapOK; rw [h1, h2, HN3.out, h4, Int.toNat_natCast, ef, h8]; simp [h7]
       have HV : Hid (mapV t s p k r = mapT t s p k r) := by show _ = _; unfold mapV; rw [HA.out]; rfl
       go_wp2_with fail
       refine (within_any _ _ _).mono ?_
       rintro e w4 ⟨rfl, rfl⟩
       rw [h4]
       clear ef h4
       go_wp2_with fail
       refine (RightsValid_any _ _).mono ?_
       rintro e w4 ⟨rfl, rfl⟩
       rw [h8]
       go_wp2_with fail
       refine (tclone_any vb _ t _ (HTR.out.now HB3.out) (by omega) (by omega)).mono ?_
       rintro e w4 ⟨v1, v2, rfl, hM4, hb4⟩
       have HM4S : Hid (w3.heap.size ≤ w4.heap.size) := hb4.size
       have HT4 := Lib.hid (HT3.out.below hb4)
       have HK4 := Lib.hid (HK3.out.below hb4)
       have HR4 := Lib.hid (HR3.out.below hb4)
       have HB4 := Lib.hid (bT HB3.out hb4)
       clear hb4
       have t04 := HT4.out.cell_ 0 rfl
       have t14 := HT4.out.cell_ 1 rfl
       have k04 := HK4.out.cell_ 0 (v := .int .i64 s) rfl
       have k14 := HK4.out.cell_ 1 (v := .int .i64 p) rfl
       have r04 := HR4.out.cell_ 0 (v := .slice none 0 0) rfl
       have r14 := HR4.out.cell_ 1 (v := .slice none 0 0) rfl
       have fr04 := HR4.out.free 0
       have fr14 := HR4.out.free 1
       clear t03 t13 k03 k13
       try clear r03 r13 fr03 fr13
       obtain ⟨A1, c1, rfl, _⟩ := hM4.b
       obtain ⟨A2, c2, rfl, _⟩ := hM4.f
       have ho5 := Own.new_ w4 26 #[.slice A1 t.bs.length c1, .slice A2 t.fs.length c2]
       have hb5 : Below w4.heap.size w4 (w4.alloc (.cells #[.slice A1 t.bs.length c1, .slice A2 t.fs.length c2] 26)) := bA bR
       generalize hW5 : w4.alloc (.cells #[.slice A1 t.bs.length c1, .slice A2 t.fs.length c2] 26) = w5 at ho5 hb5
       have HM5 := Lib.hid (hM4.now hb5)
       have HT5 := Lib.hid (HT4.out.below hb5)
       have HK5 := Lib.hid (HK4.out.below hb5)
       have HR5 := Lib.hid (HR4.out.below hb5)
       have HB5 := Lib.hid (bT HB4.out hb5)
       clear hb5
       have t05 := HT5.out.cell_ 0 rfl
       have t15 := HT5.out.cell_ 1 rfl
       have k05 := HK5.out.cell_ 0 (v := .int .i64 s) rfl
       have k15 := HK5.out.cell_ 1 (v := .int .i64 p) rfl
       have r05 := HR5.out.cell_ 0 (v := .slice none 0 0) rfl
       have r15 := HR5.out.cell_ 1 (v := .slice none 0 0) rfl
       have fr05 := HR5.out.free 0
       have fr15 := HR5.out.free 1
       clear t04 t14 k04 k14
       try clear r04 r14 fr04 fr14
       have o50 := ho5.cell_ 0 rfl
       have o51 := ho5.cell_ 1 rfl
       have HO5 := Lib.hid ho5
       have hsz3 := HB3.out.size
       have hsz5 : w3.heap.size ≤ w5.heap.size := by have := ho5.lt; have := HM4S.out; omega
       clear hM4 ho5
       go_wp2_with fail
       refine (link_any w3.heap.size _ _ t s p k r _ HM5.out hsz5 h2 hb1' hlen2 hk).mono ?_
       rintro e w6 ⟨v6, rfl, hM6, hb6, hkeep⟩
       have hR6 := hkeep _ _ _ HR5.out (by decide) (by decide)
       have hO6 := hkeep _ _ _ HO5.out (by decide) (by decide)
       have HB6 : Hid (Below w.heap.size w w6) := HB5.out.trans (hb6.mono hsz3)
       have HM6 := Lib.hid hM6
       have r06 := hR6.cell_ 0 (v := .slice none 0 0) rfl
       have r16 := hR6.cell_ 1 (v := .slice none 0 0) rfl
       have fr06 := hR6.free 0
       have fr16 := hR6.free 1
       have o60 := hO6.cell_ 0 (v := .slice A1 t.bs.length c1) rfl
       have o61 := hO6.cell_ 1 (v := .slice A2 t.fs.length c2) rfl
       have HR6 := Lib.hid hR6
       have hlt3 := HR3.out.lt
       clear hM6 hb6 hkeep hR6 hO6
       go_wp2
       have o3 := (HR6.out.set_ 0 (.slice A1 t.bs.length c1)).set_ 1 (.slice A2 t.fs.length c2)
       have e0 := o3.cell_ 0 (v := .slice A1 t.bs.length c1) rfl
       have e1 := o3.cell_ 1 (v := .slice A2 t.fs.length c2) rfl
       have M7 := ((HM6.out.far (p := ⟨w.heap.size + 1 + 1, 0, none⟩) (u := .slice A1 t.bs.length c1) hlt3).far (p := ⟨w.heap.size + 1 + 1, 1, none⟩) (u := .slice A2 t.fs.length c2) hlt3).mono hsz3
       refine bodyPost_ret (v := .tuple #[.agg #[.slice A1 t.bs.length c1, .slice A2 t.fs.length c2], .bool true]) (by simp [results, Tryz.results111, go_sem, e0, e1]) rfl ⟨_, rfl, _, _, by rw [HA.out], ?_, bS (bS HB6.out (by simp; omega)) (by simp; omega)⟩
       rw [HV.out]
       exact M7
end Go.Proofs.YtnaagdmaggdbmaaGreatDoor
namespace Go.Proofs.YtnaagdmaggdbmaaGreatDoor
open Go.RowKit
theorem MaM.far {B : Nat} {w : World} {vb vf vl vo : Value} {m : Ma} (h : MaM B w vb vf vl vo m) {p : Addr} (hp : p.block < B) {u : Value} : MaM B (w.setCell p u) vb vf vl vo m := ⟨h.t.far hp, h.l.far hp, h.o.far hp⟩
theorem MaM.mono {B B' : Nat} {w : World} {vb vf vl vo : Value} {m : Ma} (h : MaM B w vb vf vl vo m) (hb : B' ≤ B) : MaM B' w vb vf vl vo m := ⟨h.t.mono hb, h.l.mono hb, h.o.mono hb⟩
theorem mam_z {base : Nat} {w : World} : MaM base w (.slice none 0 0) (.slice none 0 0) (.slice none 0 0) (.slice none 0 0) maz := ⟨tam_z, SlM.nil_ _, SlM.nil_ _⟩
end Go.Proofs.YtnaagdmaggdbmaaGreatDoor
namespace Go.Proofs.YtnaagdmaggdbmaaGreatDoor
open Go.RowKit
set_option maxRecDepth 1000000
set_option maxHeartbeats 1000000 in
theorem SpaceOf_any (vo : Value) (g : Tg) (tag : Int) (w : World) (hT : SlR owE w vo g.os) :
  Calls Tryz.prog 67 #[.agg #[.int .i64 g.count, .int .i64 g.next, .int .i64 g.round, vo], .int .i64 tag] w fun r w' => r = .returned (.tuple #[.int .i64 (spV g tag), .bool (spO g tag)]) ∧ Below w.heap.size w w' := by
 have HV := Lib.hid hT
 obtain ⟨A, cc, rfl, hbc, hbm, hL⟩ := hT
 have hfm2 : g.os.length ≤ 9223372036854775807 := by unfold maxLen at hbm; omega
 have HL := Lib.hid hL
 have hbx := Own.new_ w 32 #[.int .i64 g.count, .int .i64 g.next, .int .i64 g.round, .slice A g.os.length cc]
 have hbz : Below w.heap.size w (w.alloc (.cells #[.int .i64 g.count, .int .i64 g.next, .int .i64 g.round, .slice A g.os.length cc] 32)) := bA bR
 have hsz0 : (w.alloc (.cells #[.int .i64 g.count, .int .i64 g.next, .int .i64 g.round, .slice A g.os.length cc] 32)).heap.size = w.heap.size + 1 := by simp
 generalize hW : w.alloc (.cells #[.int .i64 g.count, .int .i64 g.next, .int .i64 g.round, .slice A g.os.length cc] 32) = W0 at hbx hbz hsz0
 have q0 := hbx.cell_ 0 (v := .int .i64 g.count) rfl
 have q1 := hbx.cell_ 1 (v := .int .i64 g.next) rfl
 have q2 := hbx.cell_ 2 (v := .int .i64 g.round) rfl
 have q3 := hbx.cell_ 3 (v := .slice A g.os.length cc) rfl
 have HBX := Lib.hid hbx
 clear hL hbx
 go_enter Tryz.func67, Tryz.ntmps67
 go_wp2_with fail
 refine (TagsValid_any _ g _ (HV.out.now hbz)).mono ?_
 rintro e w1 ⟨rfl, hb1⟩
 have HBX1 := Lib.hid (HBX.out.below hb1)
 have HBZ1 := Lib.hid (bT hbz hb1)
 clear hb1 q0 q1 q2 q3
 have q3 := HBX1.out.cell_ 3 (v := .slice A g.os.length cc) rfl
 cases h1 : tgv g with
 | false =>
  obtain ⟨e1, e2⟩ := spO_no (tag := tag) h1
  have E1 := Lib.hid e1
  have E2 := Lib.hid e2
  clear e1 e2
  go_wp2
  go_ret2
  exact ⟨by rw [E1.out, E2.out]; rfl, HBZ1.out⟩
 | true =>
  go_wp2
  clear q3
  go_loopw [14] (fun u wr => ∃ k : Nat, k ≤ g.os.length ∧ u = .int .i64 k ∧ Hid (∀ (j : Nat) (q : Int × Int), j < k → g.os[j]? = some q → ¬ q.2 = tag) ∧ Below w.heap.size w wr) (fun u _ => g.os.length - (intOf u).toNat)
  case atStart => exact ⟨0, by omega, rfl, (fun j q h => absurd h (by omega)), HBZ1.out⟩
  case round =>
   obtain ⟨k, hk, rfl, hacc, hbi⟩ := hrel
   by_cases hlt : k < g.os.length
   ·obtain ⟨o, eo⟩ : ∃ o, g.os[k]? = some o := ⟨_, List.getElem?_eq_getElem hlt⟩
    obtain ⟨b, ob, rfl, hbb, d0, d1⟩ := (HL.out.below hbi).ow eo
    by_cases ht : o.2 = tag
    ·obtain ⟨e1, e2⟩ := spO_some h1 (spc_at eo hacc.out ht) eo
     have E1 := Lib.hid e1
     have E2 := Lib.hid e2
     clear e1 e2 eo
     go_wp2
     go_ret2
     exact ⟨by rw [E1.out, E2.out]; rfl, bA hbi⟩
    ·have HACC := Lib.hid (spc_go eo hacc.out ht)
     clear eo
     go_wp2
     go_roundw
     case rel => exact ⟨k + 1, by omega, by go_num, HACC, bA hbi⟩
     case measure => simp [intOf]; omega
   ·obtain ⟨e1, e2⟩ := spO_none h1 (spc_none (Nat.le_of_not_lt hlt) hacc.out)
    have E1 := Lib.hid e1
    have E2 := Lib.hid e2
    clear e1 e2
    go_wp2
    go_ret2
    exact ⟨by rw [E1.out, E2.out]; rfl, hbi⟩
theorem KeyFor_any (s p : Int) (w : World) : Calls Tryz.prog 29 #[.int .i64 s, .int .i64 p] w fun r w' => r = .returned (.agg #[.int .i64 (keyI s p), .int .i64 p]) ∧ Below w.heap.size w w' := by
 by_cases h : 128 ≤ p
 ·have H : Hid (keyI s p = 0) := by show _ = _; unfold keyI; rw [if_pos h]
  go_enter Tryz.func29, Tryz.ntmps29
  go_wp2
  refine bodyPost_ret (v := .agg #[.int .i64 (keyI s p), .int .i64 p]) (by simp [results, Tryz.results29, go_sem, H.out]) rfl ⟨rfl, ?_⟩
  repeat first | exact bR | refine bS ?_ (by simp) | refine bA ?_
 ·have H : Hid (keyI s p = s) := by show _ = _; unfold keyI; rw [if_neg h]
  go_enter Tryz.func29, Tryz.ntmps29
  go_wp2
  refine bodyPost_ret (v := .agg #[.int .i64 (keyI s p), .int .i64 p]) (by simp [results, Tryz.results29, go_sem, H.out]) rfl ⟨rfl, ?_⟩
  repeat first | exact bR | refine bS ?_ (by simp) | refine bA ?_
end Go.Proofs.YtnaagdmaggdbmaaGreatDoor
namespace Go.Proofs.YtnaagdmaggdbmaaGreatDoor
open Go.RowKit
set_option maxRecDepth 1000000
def Oth (p : TypeId → Prop) (w w' : World) : Prop := w.heap.size ≤ w'.heap.size ∧ ∀ (g : Nat) (e : TypeId) (cs : Array Value), Own w g e cs → ¬ p e → Own w' g e cs
section
variable {p : TypeId → Prop} {w w' w'' : World} {e e' : TypeId} {A : Option Addr} {n : Nat}
theorem Oth.trans {q : TypeId → Prop} (h : Oth p w w') (k : Oth q w' w'') : Oth (fun e => p e ∨ q e) w w'' :=
 ⟨Nat.le_trans h.1 k.1, fun g e cs o hn => k.2 g e cs (h.2 g e cs o (fun x => hn (.inl x))) (fun x => hn (.inr x))⟩
theorem Oth.of_below (h : Below w.heap.size w w') : Oth p w w' := ⟨h.size, fun _ _ _ o _ => o.below h⟩
theorem Oth.far (h : Oth p w' w'') (hb : Below w.heap.size w w') : Oth p w w'' := ⟨Nat.le_trans hb.size h.1, fun g e cs o hn => h.2 g e cs (o.below hb) hn⟩
theorem MineE.oth {α : Type} {E : Enc α} {B : Nat} {l : List α} (h : MineE E e B w A l) (hg : Oth p w w') (hne : ¬ p e) : MineE E e B w' A l := by
 refine ⟨⟨h.is.len, fun hn => ?_⟩, fun hl => ?_⟩
 ·obtain ⟨g, cs, rfl, hbg, ho, _⟩ := h.own hn
  obtain ⟨b, o, e, hb, hc⟩ := h.is.at_ hn
  injection e with e
  injection e with e1 e2
  subst e1 e2
  have := hg.1
  refine ⟨g, 0, rfl, by omega, fun j u hu => ?_⟩
  have hh := hc j u hu
  rw [ho.cell] at hh
  rw [(hg.2 g _ cs ho hne).cell]
  exact hh
 ·obtain ⟨g, cs, e, hbg, ho, hs⟩ := h.own hl
  exact ⟨g, cs, e, hbg, hg.2 g _ cs ho hne, hs⟩
end
theorem MaM.oth {b : Nat} {w w' : World} {p : TypeId → Prop} {v1 v2 v3 v4 : Value} {m : Ma} (h : MaM b w v1 v2 v3 v4 m) (ho : Oth p w w') (h1 : ¬ p 3) (h2 : ¬ p 48) (h3 : ¬ p 106) (h4 : ¬ p 155) : MaM b w' v1 v2 v3 v4 m := by
 obtain ⟨⟨⟨A1, c1, r1, l1, k1, m1⟩, ⟨A2, c2, r2, l2, k2, m2⟩⟩, ⟨A3, c3, r3, l3, k3, m3⟩, ⟨A4, c4, r4, l4, k4, m4⟩⟩ := h
 exact ⟨⟨⟨A1, c1, r1, l1, k1, m1.oth ho h1⟩, ⟨A2, c2, r2, l2, k2, m2.oth ho h2⟩⟩, ⟨A3, c3, r3, l3, k3, m3.oth ho h3⟩, ⟨A4, c4, r4, l4, k4, m4.oth ho h4⟩⟩
theorem SlM.oth {α : Type} {E : Enc α} {e : TypeId} {b : Nat} {w w' : World} {v : Value} {l : List α} {p : TypeId → Prop} (h : SlM E e b w v l) (ho : Oth p w w') (he : ¬ p e) : SlM E e b w' v l :=
 let ⟨A, c, h1, h2, h3, h4⟩ := h; ⟨A, c, h1, h2, h3, h4.oth ho he⟩
def stS (ty : TypeId) (n : Nat) (v v' : World) : Prop := Oth (fun e => e = ty) v v' ∧ ∀ (g : Nat) (cs : Array Value), cs.size = n → Own v g ty cs → ∃ cs' : Array Value, cs'.size = n ∧ Own v' g ty cs'
theorem stS_same (ty : TypeId) (n : Nat) (v : World) : stS ty n v v := ⟨Oth.of_below bR, fun g cs h1 h2 => ⟨cs, h1, h2⟩⟩
theorem stS_set {ty : TypeId} {n : Nat} {v : World} {g i : Nat} {cs : Array Value} {u : Value} (ho : Own v g ty cs) : stS ty n v (v.setCell ⟨g, i, none⟩ u) := by
 have same : ∀ (g' : Nat) (e : TypeId) (cs' : Array Value), Own v g' e cs' → g' = g → e = ty ∧ cs' = cs := by
  rintro g' e cs' h rfl
  unfold Own at h ho
  rw [ho] at h
  injection h with h
  injection h with h1 h2
  exact ⟨h2.symm, h1.symm⟩
 refine ⟨⟨by simp, fun g' e cs' h hne => ?_⟩, fun g' cs' hn h => ?_⟩
 ·by_cases hg : g' = g
  ·exact absurd (same g' e cs' h hg).1 hne
  ·exact h.far hg
 ·by_cases hg : g' = g
  ·subst hg
   obtain ⟨_, rfl⟩ := same g' ty cs' h rfl
   exact ⟨_, by simpa using hn, ho.set_ i u⟩
  ·exact ⟨cs', hn, h.far hg⟩
theorem stS_trans {ty : TypeId} {n : Nat} {v v' v'' : World} (h : stS ty n v v') (k : stS ty n v' v'') : stS ty n v v'' := by
 refine ⟨⟨Nat.le_trans h.1.1 k.1.1, fun g e cs o hne => k.1.2 g e cs (h.1.2 g e cs o hne) hne⟩, fun g cs hn o => ?_⟩
 obtain ⟨cs', e1, e2⟩ := h.2 g cs hn o
 exact k.2 g cs' e1 e2
end Go.Proofs.YtnaagdmaggdbmaaGreatDoor
namespace Go.Proofs.YtnaagdmaggdbmaaGreatDoor
open Go.RowKit
def tagO (m : Ma) (s p : Int) : Bool := if 128 ≤ p then true else tgO m.g s
def tagT (m : Ma) (s p : Int) : Int := if 128 ≤ p then -1 else tgT m.g s
def drpC (m : Ma) (s p : Int) : Ca := if tagO m s p = true ∧ 0 ≤ plcI m.c.ls (tagT m s p) p then ⟨m.c.ls.set (plcI m.c.ls (tagT m s p) p).toNat lnz, m.c.hand⟩ else m.c
def drpM (m : Ma) (t : Tab) (s p : Int) : Ma := { m with t := t, c := drpC m s p }
def takO (m : Ma) (s p : Int) : Bool := mav m && fOK m.t s p
def takV (m : Ma) (s p : Int) : Ma := if takO m s p = true then drpM m (unmV m.t s p) s p else maz
theorem takO_false {m : Ma} {s p : Int} (h : takO m s p = false) : takV m s p = maz := by unfold takV; rw [h]; rfl
theorem tgO_neg {g : Tg} {s : Int} (h : ¬ 0 ≤ ownI g.os s) : tgO g s = false ∧ tgT g s = 0 := by
 have h1 : tgO g s = false := by unfold tgO; rw [decide_eq_false h, Bool.and_false]
 exact ⟨h1, by unfold tgT; rw [h1]; rfl⟩
theorem ownI_lt {os : List (Int × Int)} {s : Int} (h : 0 ≤ ownI os s) : ∃ (k : Nat) (o : Int × Int), ownI os s = (k : Int) ∧ os[k]? = some o ∧ o.1 = s := by
 unfold ownI at h ⊢
 cases e : own os s with
 | none => rw [e] at h; simp at h
 | some i =>
  unfold own at e
  obtain ⟨hi, h1, _⟩ := List.findIdx?_eq_some_iff_getElem.1 e
  exact ⟨i, os[i], rfl, List.getElem?_eq_getElem hi, by simpa using h1⟩
theorem tgO_yes {g : Tg} {s : Int} (h : tgv g = true) {k : Nat} {o : Int × Int} (e : ownI g.os s = (k : Int)) (eo : g.os[k]? = some o) : tgO g s = true ∧ tgT g s = o.2 := by
 have h1 : tgO g s = true := by unfold tgO; rw [h, e]; simp
 refine ⟨h1, ?_⟩
 unfold tgT
 rw [h1, if_pos rfl, e, Int.toNat_natCast, List.getD_eq_getElem?_getD, eo]
 rfl
theorem plcI_lt {ls : List Ln} {t p : Int} (h : 0 ≤ plcI ls t p) : ∃ (k : Nat) (x : Ln), plcI ls t p = (k : Int) ∧ ls[k]? = some x ∧ fits t p x = true := by
 unfold plcI at h ⊢
 cases e : plc ls t p with
 | none => rw [e] at h; simp at h
 | some i =>
  unfold plc at e
  obtain ⟨hi, h1, _⟩ := List.findIdx?_eq_some_iff_getElem.1 e
  exact ⟨i, ls[i], rfl, List.getElem?_eq_getElem hi, h1⟩
theorem drpC_no {m : Ma} {s p : Int} (h : tagO m s p = false) : drpC m s p = m.c := by unfold drpC; rw [if_neg]; rintro ⟨h1, _⟩; rw [h] at h1; cases h1
theorem drpC_neg {m : Ma} {s p : Int} (h : ¬ 0 ≤ plcI m.c.ls (tagT m s p) p) : drpC m s p = m.c := by unfold drpC; rw [if_neg]; exact fun h1 => h h1.2
end Go.Proofs.YtnaagdmaggdbmaaGreatDoor
namespace Go.Proofs.YtnaagdmaggdbmaaGreatDoor
open Go.RowKit
set_option maxRecDepth 1000000
set_option maxHeartbeats 1000000 in
theorem l6Tag_any (vb vf vl vo : Value) (m : Ma) (s p : Int) (w : World) (hM : MaR w vb vf vl vo m) (hg : tgv m.g = true) :
  Calls Tryz.prog 142 #[.agg #[vb, vf, vl, .int .i64 m.c.hand, .int .i64 m.g.count, .int .i64 m.g.next, .int .i64 m.g.round, vo, .int .i64 m.sp], .int .i64 s, .int .i64 p] w fun r w' => r = .returned (.tuple #[.int .i64 (tagT m s p), .bool (tagO m s p)]) ∧ Below w.heap.size w w' := by
 have HM := Lib.hid hM
 clear hM
 have hbx := Own.new_ w 34 #[vb, vf, vl, .int .i64 m.c.hand, .int .i64 m.g.count, .int .i64 m.g.next, .int .i64 m.g.round, vo, .int .i64 m.sp]
 have hbz : Below w.heap.size w (w.alloc (.cells #[vb, vf, vl, .int .i64 m.c.hand, .int .i64 m.g.count, .int .i64 m.g.next, .int .i64 m.g.round, vo, .int .i64 m.sp] 34)) := bA bR
 generalize hW : w.alloc (.cells #[vb, vf, vl, .int .i64 m.c.hand, .int .i64 m.g.count, .int .i64 m.g.next, .int .i64 m.g.round, vo, .int .i64 m.sp] 34) = W0 at hbx hbz
 have HX0 := Lib.hid hbx
 have HB0 := Lib.hid hbz
 clear hbx hbz
 have m00 := HX0.out.cell_ 0 (v := vb) rfl
 have m10 := HX0.out.cell_ 1 (v := vf) rfl
 have m20 := HX0.out.cell_ 2 (v := vl) rfl
 have m30 := HX0.out.cell_ 3 (v := .int .i64 m.c.hand) rfl
 have m40 := HX0.out.cell_ 4 (v := .int .i64 m.g.count) rfl
 have m50 := HX0.out.cell_ 5 (v := .int .i64 m.g.next) rfl
 have m60 := HX0.out.cell_ 6 (v := .int .i64 m.g.round) rfl
 have m70 := HX0.out.cell_ 7 (v := vo) rfl
 have m80 := HX0.out.cell_ 8 (v := .int .i64 m.sp) rfl
 by_cases h : 128 ≤ p
 ·have E1 : Hid (tagT m s p = -1) := if_pos h
  have E2 : Hid (tagO m s p = true) := if_pos h
  go_enter Tryz.func142, Tryz.ntmps142
  go_wp2
  go_ret2
  exact ⟨by rw [E1.out, E2.out]; rfl, HB0.out⟩
 ·have E1 : Hid (tagT m s p = tgT m.g s) := if_neg h
  have E2 : Hid (tagO m s p = tgO m.g s) := if_neg h
  by_cases h2 : 0 ≤ ownI m.g.os s
  case neg =>
   obtain ⟨e1, e2⟩ := tgO_neg h2
   have F1 := Lib.hid e1
   have F2 := Lib.hid e2
   have h2b : ownI m.g.os s < 0 := by omega
   clear e1 e2
   go_enter Tryz.func142, Tryz.ntmps142
   go_wp2_with fail
   refine (l5Find_any _ m.g s _ (HM.out.o.now HB0.out)).mono ?_
   rintro e w1 ⟨rfl, hb1⟩
   go_wp2
   go_ret2
   exact ⟨by rw [E1.out, E2.out, F1.out, F2.out]; rfl, bT HB0.out hb1⟩
  case pos =>
   obtain ⟨k, o, hk, eo, _⟩ := ownI_lt h2
   obtain ⟨e1, e2⟩ := tgO_yes hg hk eo
   have F1 := Lib.hid e1
   have F2 := Lib.hid e2
   have HN := Lib.hid hk
   have EO := Lib.hid eo
   have hkl := (List.getElem?_eq_some_iff.1 eo).1
   have h2b : ¬ (k : Int) < 0 := by omega
   clear e1 e2 hk eo h2
   go_enter Tryz.func142, Tryz.ntmps142
   go_wp2_with fail
   refine (l5Find_any _ m.g s _ (HM.out.o.now HB0.out)).mono ?_
   rintro e w1 ⟨rfl, hb1⟩
   rw [HN.out]
   obtain ⟨A, cc, rfl, hbc, hbm, hL⟩ := HM.out.o
   obtain ⟨b, ob, rfl, hbb, d0, d1⟩ := (hL.now (Nat.le_refl _) (bT HB0.out hb1)).ow EO.out
   have HB1 := Lib.hid (bT HB0.out hb1)
   have m7 := (HX0.out.below hb1).cell_ 7 (v := .slice (some ⟨b, ob, none⟩) m.g.os.length cc) rfl
   clear m00 m10 m20 m30 m40 m50 m60 m70 m80 hb1
   go_wp2
   go_ret2
   exact ⟨by rw [E1.out, E2.out, F1.out, F2.out]; rfl, HB1.out⟩
end Go.Proofs.YtnaagdmaggdbmaaGreatDoor
namespace Go.Proofs.YtnaagdmaggdbmaaGreatDoor
open Go.RowKit
set_option maxRecDepth 1000000
structure KD (S : World → World → Prop) (si : Nat) where
 P : Nat → Value → World → Prop
 kb : ∀ (j : Nat) (u : Value) (v v' : World), P j u v → Below v.heap.size v v' → P j u v'
 ks : ∀ (j : Nat) (u : Value) (v v' : World), j ≠ si → P j u v → S v v' → P j u v'
def kds {S : World → World → Prop} {si : Nat} (ks : List (KD S si)) (j : Nat) (u : Value) (v : World) : Prop := match ks[j]? with | some k => k.P j u v | none => True
def tK (S : World → World → Prop) (si i : Nat) (v v' : World) : Prop := if i = si then S v v' else Below v.heap.size v v'
theorem kds_keep {S : World → World → Prop} {si : Nat} {ks : List (KD S si)} {i j : Nat} {u : Value} {v v' : World} (hij : i ≠ j) (h : kds ks j u v) (ht : tK S si i v v') : kds ks j u v' := by
 unfold kds at h ⊢
 cases hk : ks[j]? with
 | none => trivial
 | some k =>
  rw [hk] at h
  unfold tK at ht
  split at ht
  ·rename_i hi
   exact k.ks j u v v' (by omega) h ht
  ·exact k.kb j u v v' h ht
theorem tK_below {S : World → World → Prop} {si i : Nat} {v v' : World} (hi : i ≠ si) (h : Below v.heap.size v v') : tK S si i v v' := by
 unfold tK
 rw [if_neg hi]
 exact h
theorem tK_same {S : World → World → Prop} (hS : ∀ v, S v v) {si i : Nat} {v : World} : tK S si i v v := by
 unfold tK
 split
 ·exact hS v
 ·exact bR
theorem tK_store {S : World → World → Prop} {si : Nat} {v v' : World} (h : S v v') : tK S si si v v' := by
 unfold tK
 rw [if_pos rfl]
 exact h
section
variable {ty : TypeId} {n si : Nat}
def KD.eq (u0 : Value) : KD (stS ty n) si where
 P := fun _ u _ => u = u0
 kb := fun _ _ _ _ h _ => h
 ks := fun _ _ _ _ _ h _ => h
def KD.row {α : Type} (E : Enc α) (e : TypeId) (b : Nat) (l : List α) (he : e ≠ ty) (f : Value → Value) : KD (stS ty n) si where
 P := fun _ u v => ∃ v1, u = f v1 ∧ SlM E e b v v1 l
 kb := fun _ _ _ _ ⟨v1, h1, h2⟩ hb => ⟨v1, h1, h2.now hb⟩
 ks := fun _ _ _ _ _ ⟨v1, h1, h2⟩ hs => ⟨v1, h1, h2.oth hs.1 he⟩
def KD.box (b : Nat) : KD (stS ty n) si where
 P := fun _ u v => ∃ (g : Nat) (cs : Array Value), u = .pointer (some ⟨g, 0, none⟩) ∧ b ≤ g ∧ cs.size = n ∧ Own v g ty cs
 kb := fun _ _ _ _ ⟨g, cs, h1, h2, h3, h4⟩ hb => ⟨g, cs, h1, h2, h3, h4.below hb⟩
 ks := fun _ _ _ _ _ ⟨g, cs, h1, h2, h3, h4⟩ hs => let ⟨cs', e1, e2⟩ := hs.2 g cs h3 h4; ⟨g, cs', h1, h2, e1, e2⟩
def KD.boxed {α : Type} (E : Enc α) (e : TypeId) (b : Nat) (l : List α) (f : Value → Array Value) : KD (stS ty n) si where
 P := fun j u v => j = si ∧ ∃ (g : Nat) (v1 : Value), u = .pointer (some ⟨g, 0, none⟩) ∧ b ≤ g ∧ Own v g ty (f v1) ∧ SlM E e b v v1 l
 kb := fun _ _ _ _ ⟨hj, g, v1, h1, h2, h3, h4⟩ hb => ⟨hj, g, v1, h1, h2, h3.below hb, h4.now hb⟩
 ks := fun _ _ _ _ hne ⟨hj, _⟩ _ => absurd hj hne
end
end Go.Proofs.YtnaagdmaggdbmaaGreatDoor
