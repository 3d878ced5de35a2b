/- A part of the proofs of this seat: CpS, MapI. -/
import Derived.Deep.RegionHeldLaw
import Derived.Test.YtfbnokjdkhcgoaaGreatDoorVCopy
set_option linter.unusedVariables false
set_option linter.unusedSimpArgs false
set_option maxRecDepth 1000000
namespace Go.Proofs.YtfbnokjdkhcgoaaGreatDoor
open Go.RowKit
theorem mapOK_false {t : Tab} {s p fr r : Int} (h : mapOK t s p fr r = false) : mapV t s p fr r = tabz := by unfold mapV; rw [h]; rfl
theorem SlM.far {α : Type} {E : Enc α} {e : TypeId} {B : Nat} {w : World} {v : Value} {l : List α} (h : SlM E e B w v l) {p : Addr} (hp : p.block < B) {u : Value} : SlM E e B (w.setCell p u) v l := by
 obtain ⟨A, c, h1, h2, h3, h4⟩ := h
 exact ⟨A, c, h1, h2, h3, h4.far hp⟩
theorem TaM.far {B : Nat} {w : World} {vb vf : Value} {t : Tab} (h : TaM B w vb vf t) {p : Addr} (hp : p.block < B) {u : Value} : TaM B (w.setCell p u) vb vf t := ⟨h.b.far hp, h.f.far hp⟩
theorem TaM.mono {B B' : Nat} {w : World} {vb vf : Value} {t : Tab} (h : TaM B w vb vf t) (hb : B' ≤ B) : TaM B' w vb vf t := ⟨h.b.mono hb, h.f.mono hb⟩
theorem tam_z {base : Nat} {w : World} : TaM base w (.slice none 0 0) (.slice none 0 0) tabz := ⟨SlM.nil_ _, SlM.nil_ _⟩
set_option maxHeartbeats 4000000 in
theorem MapPage_any (vb vf : Value) (t : Tab) (s p fr r : Int) (w : World) (hT : TaR w vb vf t) (hfree : Free w) :
  Calls Tryz.prog 86 #[.agg #[vb, vf], .agg #[.int .i64 s, .int .i64 p], .int .i64 fr, .int .i64 r] w (Post2 fun v w' => ∃ v1 v2, v = .tuple #[.agg #[v1, v2], .bool (mapOK t s p fr r)] ∧ TaM w.heap.size w' v1 v2 (mapV t s p fr r) ∧ Below w.heap.size w w') := by
 have ht0 := ((Own.new_ w 26 #[vb, vf]).alloc (o := .cells #[.int .i64 s, .int .i64 p] 54)).alloc (o := .cells #[.slice none 0 0, .slice none 0 0] 26)
 have hk0 := (Own.new_ (w.alloc (.cells #[vb, vf] 26)) 54 #[.int .i64 s, .int .i64 p]).alloc (o := .cells #[.slice none 0 0, .slice none 0 0] 26)
 have hr0 := Own.new_ ((w.alloc (.cells #[vb, vf] 26)).alloc (.cells #[.int .i64 s, .int .i64 p] 54)) 26 #[.slice none 0 0, .slice none 0 0]
 have hb0 : Below w.heap.size w (((w.alloc (.cells #[vb, vf] 26)).alloc (.cells #[.int .i64 s, .int .i64 p] 54)).alloc (.cells #[.slice none 0 0, .slice none 0 0] 26)) := bA (bA (bA bR))
 rw [show (w.alloc (.cells #[vb, vf] 26)).heap.size = w.heap.size + 1 by simp] at hk0
 rw [show ((w.alloc (.cells #[vb, vf] 26)).alloc (.cells #[.int .i64 s, .int .i64 p] 54)).heap.size = w.heap.size + 1 + 1 by simp] at hr0
 have hs0 : (((w.alloc (.cells #[vb, vf] 26)).alloc (.cells #[.int .i64 s, .int .i64 p] 54)).alloc (.cells #[.slice none 0 0, .slice none 0 0] 26)).heap.size = w.heap.size + 3 := by simp
 generalize hW : ((w.alloc (.cells #[vb, vf] 26)).alloc (.cells #[.int .i64 s, .int .i64 p] 54)).alloc (.cells #[.slice none 0 0, .slice none 0 0] 26) = W0 at ht0 hk0 hr0 hb0 hs0
 have HT0 := Hd ht0
 have HK0 := Hd hk0
 have HR0 := Hd hr0
 have HB0 := Hd hb0
 clear ht0 hk0 hr0 hb0
 have t00 := HT0.out.cell_ 0 (v := vb) rfl
 have t10 := HT0.out.cell_ 1 (v := vf) rfl
 have k00 := HK0.out.cell_ 0 (v := .int .i64 s) rfl
 have k10 := HK0.out.cell_ 1 (v := .int .i64 p) rfl
 have HTR := Hd hT
 have HF := Hd hfree
 clear hT hfree
 go_enter Tryz.func86, Tryz.ntmps86
 go_wp2_with fail
 refine (TableValid_any vb vf t _ (HTR.out.now HB0.out) (HF.out.now HB0.out)).mono ?_
 rintro e w1 ⟨rfl, hb1⟩
 have HT1 := Hd (HT0.out.below hb1)
 have HK1 := Hd (HK0.out.below hb1)
 have HR1 := Hd (HR0.out.below hb1)
 have HB1 := Hd (bT HB0.out hb1)
 clear hb1
 have t01 := HT1.out.cell_ 0 rfl
 have t11 := HT1.out.cell_ 1 rfl
 have k01 := HK1.out.cell_ 0 (v := .int .i64 s) rfl
 have k11 := HK1.out.cell_ 1 (v := .int .i64 p) rfl
 have r01 := HR1.out.cell_ 0 (v := .slice none 0 0) rfl
 have r11 := HR1.out.cell_ 1 (v := .slice none 0 0) rfl
 have fr01 := HR1.out.free 0
 have fr11 := HR1.out.free 1
 clear t00 t10 k00 k10
 try clear r00 r10 fr00 fr10
 cases h1 : tv t with
 | false =>
  have HA : Hid (mapOK t s p fr r = false) := by show _ = _; unfold mapOK; rw [h1]; rfl
  have HV := Hd (mapOK_false HA.out)
  go_wp2
  have o3 := (HR1.out.set_ 0 (.slice none 0 0)).set_ 1 (.slice none 0 0)
  have e0 := o3.cell_ 0 (v := .slice none 0 0) rfl
  have e1 := o3.cell_ 1 (v := .slice none 0 0) rfl
  refine bodyPost_ret (v := .tuple #[.agg #[.slice none 0 0, .slice none 0 0], .bool false]) (by simp [results, Tryz.results86, go_sem, e0, e1]) rfl ⟨_, rfl, _, _, by rw [HA.out], ?_, bS (bS HB1.out (by simp; omega)) (by simp; omega)⟩
  rw [HV.out]
  exact tam_z
 | true =>
  go_wp2_with fail
  refine (keyValid_any _ _ _).mono ?_
  rintro e w2 ⟨rfl, hb2⟩
  have HT2 := Hd (HT1.out.below hb2)
  have HK2 := Hd (HK1.out.below hb2)
  have HR2 := Hd (HR1.out.below hb2)
  have HB2 := Hd (bT HB1.out hb2)
  clear hb2
  have t02 := HT2.out.cell_ 0 rfl
  have t12 := HT2.out.cell_ 1 rfl
  have k02 := HK2.out.cell_ 0 (v := .int .i64 s) rfl
  have k12 := HK2.out.cell_ 1 (v := .int .i64 p) rfl
  have r02 := HR2.out.cell_ 0 (v := .slice none 0 0) rfl
  have r12 := HR2.out.cell_ 1 (v := .slice none 0 0) rfl
  have fr02 := HR2.out.free 0
  have fr12 := HR2.out.free 1
  clear t01 t11 k01 k11
  try clear r01 r11 fr01 fr11
  cases h2 : kval (s, p) with
  | false =>
   have HA : Hid (mapOK t s p fr r = false) := by show _ = _; unfold mapOK; rw [h1, h2]; rfl
   have HV := Hd (mapOK_false HA.out)
   go_wp2
   have o3 := (HR2.out.set_ 0 (.slice none 0 0)).set_ 1 (.slice none 0 0)
   have e0 := o3.cell_ 0 (v := .slice none 0 0) rfl
   have e1 := o3.cell_ 1 (v := .slice none 0 0) rfl
   refine bodyPost_ret (v := .tuple #[.agg #[.slice none 0 0, .slice none 0 0], .bool false]) (by simp [results, Tryz.results86, go_sem, e0, e1]) rfl ⟨_, rfl, _, _, by rw [HA.out], ?_, bS (bS HB2.out (by simp; omega)) (by simp; omega)⟩
   rw [HV.out]
   exact tam_z
  | true =>
   go_wp2_with fail
   refine (find_any vb vf t s p _ (HTR.out.now HB2.out)).mono ?_
   rintro e w3 ⟨rfl, hb3⟩
   have HT3 := Hd (HT2.out.below hb3)
   have HK3 := Hd (HK2.out.below hb3)
   have HR3 := Hd (HR2.out.below hb3)
   have HB3 := Hd (bT HB2.out hb3)
   clear hb3
   have t03 := HT3.out.cell_ 0 rfl
   have t13 := HT3.out.cell_ 1 rfl
   have k03 := HK3.out.cell_ 0 (v := .int .i64 s) rfl
   have k13 := HK3.out.cell_ 1 (v := .int .i64 p) rfl
   have r03 := HR3.out.cell_ 0 (v := .slice none 0 0) rfl
   have r13 := HR3.out.cell_ 1 (v := .slice none 0 0) rfl
   have fr03 := HR3.out.free 0
   have fr13 := HR3.out.free 1
   clear t02 t12 k02 k12
   try clear r02 r12 fr02 fr12
   by_cases h3 : 0 ≤ fndI t.fs s p
   ·have HA : Hid (mapOK t s p fr r = false) := by show _ = _; unfold mapOK; rw [h1, h2, decide_eq_true h3]; rfl
    have HV := Hd (mapOK_false HA.out)
    go_wp2
    have o3 := (HR3.out.set_ 0 (.slice none 0 0)).set_ 1 (.slice none 0 0)
    have e0 := o3.cell_ 0 (v := .slice none 0 0) rfl
    have e1 := o3.cell_ 1 (v := .slice none 0 0) rfl
    refine bodyPost_ret (v := .tuple #[.agg #[.slice none 0 0, .slice none 0 0], .bool false]) (by simp [results, Tryz.results86, go_sem, e0, e1]) rfl ⟨_, rfl, _, _, by rw [HA.out], ?_, bS (bS HB3.out (by simp; omega)) (by simp; omega)⟩
    rw [HV.out]
    exact tam_z
   ·obtain ⟨Af, cf, rfl, hfc, hfm, hF⟩ := HTR.out.f
    obtain ⟨⟨_, hlen, hb1', hlen2⟩, _⟩ := tv_parts h1
    have h3f : decide (0 ≤ fndI t.fs s p) = false := decide_eq_false h3
    have HN3 := Hd h3f
    clear h3f
    cases h4 : inR fr t.fs.length with
    | false =>
     have HA : Hid (mapOK t s p fr r = false) := by show _ = _; unfold mapOK; rw [h1, h2, HN3.out, h4]; rfl
     have HV := Hd (mapOK_false HA.out)
     go_wp2_with fail
     refine (within_any _ _ _).mono ?_
     rintro e w4 ⟨rfl, rfl⟩
     rw [h4]
     go_wp2
     have o3 := (HR3.out.set_ 0 (.slice none 0 0)).set_ 1 (.slice none 0 0)
     have e0 := o3.cell_ 0 (v := .slice none 0 0) rfl
     have e1 := o3.cell_ 1 (v := .slice none 0 0) rfl
     refine bodyPost_ret (v := .tuple #[.agg #[.slice none 0 0, .slice none 0 0], .bool false]) (by simp [results, Tryz.results86, go_sem, e0, e1]) rfl ⟨_, rfl, _, _, by rw [HA.out], ?_, bS (bS HB3.out (by simp; omega)) (by simp; omega)⟩
     rw [HV.out]
     exact tam_z
    | true =>
     obtain ⟨h5, h6⟩ : 0 ≤ fr ∧ fr < t.fs.length := by unfold inR at h4; simpa using h4
     obtain ⟨k, rfl⟩ := Int.eq_ofNat_of_zero_le h5
     have hk : k < t.fs.length := by omega
     obtain ⟨f, ef⟩ : ∃ f, t.fs[k]? = some f := ⟨_, List.getElem?_eq_getElem hk⟩
     obtain ⟨b4, o4, rfl, hb4, d0, d1, d2, d3, d4⟩ := (hF.now (Nat.le_refl _) HB3.out).fr ef
     clear d1 d2 d3 d4
     cases h7 : f.used with
     | true =>
      rw [h7] at d0
      have HA : Hid (mapOK t s p k r = false) := by show _ = _; unfold mapOK; rw [h1, h2, HN3.out, h4, Int.toNat_natCast, ef]; simp [h7]
      have HV := Hd (mapOK_false HA.out)
      go_wp2_with fail
      refine (within_any _ _ _).mono ?_
      rintro e w4 ⟨rfl, rfl⟩
      rw [h4]
      clear ef h4
      go_wp2
      have o3 := (HR3.out.set_ 0 (.slice none 0 0)).set_ 1 (.slice none 0 0)
      have e0 := o3.cell_ 0 (v := .slice none 0 0) rfl
      have e1 := o3.cell_ 1 (v := .slice none 0 0) rfl
      refine bodyPost_ret (v := .tuple #[.agg #[.slice none 0 0, .slice none 0 0], .bool false]) (by simp [results, Tryz.results86, go_sem, e0, e1]) rfl ⟨_, rfl, _, _, by rw [HA.out], ?_, bS (bS HB3.out (by simp; omega)) (by simp; omega)⟩
      rw [HV.out]
      exact tam_z
     | false =>
      rw [h7] at d0
      cases h8 : inR r 8 with
      | false =>
       have HA : Hid (mapOK t s p k r = false) := by show _ = _; unfold mapOK; rw [h8]; simp
       have HV := Hd (mapOK_false HA.out)
       go_wp2_with fail
       refine (within_any _ _ _).mono ?_
       rintro e w4 ⟨rfl, rfl⟩
       rw [h4]
       clear ef h4
       go_wp2_with fail
       refine (RightsValid_any _ _).mono ?_
       rintro e w4 ⟨rfl, rfl⟩
       rw [h8]
       go_wp2
       have o3 := (HR3.out.set_ 0 (.slice none 0 0)).set_ 1 (.slice none 0 0)
       have e0 := o3.cell_ 0 (v := .slice none 0 0) rfl
       have e1 := o3.cell_ 1 (v := .slice none 0 0) rfl
       refine bodyPost_ret (v := .tuple #[.agg #[.slice none 0 0, .slice none 0 0], .bool false]) (by simp [results, Tryz.results86, go_sem, e0, e1]) rfl ⟨_, rfl, _, _, by rw [HA.out], ?_, bS (bS HB3.out (by simp; omega)) (by simp; omega)⟩
       rw [HV.out]
       exact tam_z
      | true =>
       have HA : Hid (mapOK t s p k r = true) := by show _ = _; unfold mapOK; rw [h1, h2, HN3.out, h4, Int.toNat_natCast, ef, h8]; simp [h7]
       have HV : Hid (mapV t s p k r = mapT t s p k r) := by show _ = _; unfold mapV; rw [HA.out]; rfl
       go_wp2_with fail
       refine (within_any _ _ _).mono ?_
       rintro e w4 ⟨rfl, rfl⟩
       rw [h4]
       clear ef h4
       go_wp2_with fail
       refine (RightsValid_any _ _).mono ?_
       rintro e w4 ⟨rfl, rfl⟩
       rw [h8]
       go_wp2_with fail
       refine (tclone_any vb _ t _ (HTR.out.now HB3.out) (by omega) (by omega)).mono ?_
       rintro e w4 ⟨v1, v2, rfl, hM4, hb4⟩
       have HM4S : Hid (w3.heap.size ≤ w4.heap.size) := hb4.size
       have HT4 := Hd (HT3.out.below hb4)
       have HK4 := Hd (HK3.out.below hb4)
       have HR4 := Hd (HR3.out.below hb4)
       have HB4 := Hd (bT HB3.out hb4)
       clear hb4
       have t04 := HT4.out.cell_ 0 rfl
       have t14 := HT4.out.cell_ 1 rfl
       have k04 := HK4.out.cell_ 0 (v := .int .i64 s) rfl
       have k14 := HK4.out.cell_ 1 (v := .int .i64 p) rfl
       have r04 := HR4.out.cell_ 0 (v := .slice none 0 0) rfl
       have r14 := HR4.out.cell_ 1 (v := .slice none 0 0) rfl
       have fr04 := HR4.out.free 0
       have fr14 := HR4.out.free 1
       clear t03 t13 k03 k13
       try clear r03 r13 fr03 fr13
       obtain ⟨A1, c1, rfl, _⟩ := hM4.b
       obtain ⟨A2, c2, rfl, _⟩ := hM4.f
       have ho5 := Own.new_ w4 26 #[.slice A1 t.bs.length c1, .slice A2 t.fs.length c2]
       have hb5 : Below w4.heap.size w4 (w4.alloc (.cells #[.slice A1 t.bs.length c1, .slice A2 t.fs.length c2] 26)) := bA bR
       generalize hW5 : w4.alloc (.cells #[.slice A1 t.bs.length c1, .slice A2 t.fs.length c2] 26) = w5 at ho5 hb5
       have HM5 := Hd (hM4.now hb5)
       have HT5 := Hd (HT4.out.below hb5)
       have HK5 := Hd (HK4.out.below hb5)
       have HR5 := Hd (HR4.out.below hb5)
       have HB5 := Hd (bT HB4.out hb5)
       clear hb5
       have t05 := HT5.out.cell_ 0 rfl
       have t15 := HT5.out.cell_ 1 rfl
       have k05 := HK5.out.cell_ 0 (v := .int .i64 s) rfl
       have k15 := HK5.out.cell_ 1 (v := .int .i64 p) rfl
       have r05 := HR5.out.cell_ 0 (v := .slice none 0 0) rfl
       have r15 := HR5.out.cell_ 1 (v := .slice none 0 0) rfl
       have fr05 := HR5.out.free 0
       have fr15 := HR5.out.free 1
       clear t04 t14 k04 k14
       try clear r04 r14 fr04 fr14
       have o50 := ho5.cell_ 0 rfl
       have o51 := ho5.cell_ 1 rfl
       have HO5 := Hd ho5
       have hsz3 := HB3.out.size
       have hsz5 : w3.heap.size ≤ w5.heap.size := by have := ho5.lt; have := HM4S.out; omega
       clear hM4 ho5
       go_wp2_with fail
       refine (link_any w3.heap.size _ _ t s p k r _ HM5.out hsz5 h2 hb1' hlen2 hk).mono ?_
       rintro e w6 ⟨v6, rfl, hM6, hb6, hkeep⟩
       have hR6 := hkeep _ _ _ HR5.out (by decide) (by decide)
       have hO6 := hkeep _ _ _ HO5.out (by decide) (by decide)
       have HB6 : Hid (Below w.heap.size w w6) := HB5.out.trans (hb6.mono hsz3)
       have HM6 := Hd hM6
       have r06 := hR6.cell_ 0 (v := .slice none 0 0) rfl
       have r16 := hR6.cell_ 1 (v := .slice none 0 0) rfl
       have fr06 := hR6.free 0
       have fr16 := hR6.free 1
       have o60 := hO6.cell_ 0 (v := .slice A1 t.bs.length c1) rfl
       have o61 := hO6.cell_ 1 (v := .slice A2 t.fs.length c2) rfl
       have HR6 := Hd hR6
       have hlt3 := HR3.out.lt
       clear hM6 hb6 hkeep hR6 hO6
       go_wp2
       have o3 := (HR6.out.set_ 0 (.slice A1 t.bs.length c1)).set_ 1 (.slice A2 t.fs.length c2)
       have e0 := o3.cell_ 0 (v := .slice A1 t.bs.length c1) rfl
       have e1 := o3.cell_ 1 (v := .slice A2 t.fs.length c2) rfl
       have M7 := ((HM6.out.far (p := ⟨w.heap.size + 1 + 1, 0, none⟩) (u := .slice A1 t.bs.length c1) hlt3).far (p := ⟨w.heap.size + 1 + 1, 1, none⟩) (u := .slice A2 t.fs.length c2) hlt3).mono hsz3
       refine bodyPost_ret (v := .tuple #[.agg #[.slice A1 t.bs.length c1, .slice A2 t.fs.length c2], .bool true]) (by simp [results, Tryz.results86, go_sem, e0, e1]) rfl ⟨_, rfl, _, _, by rw [HA.out], ?_, bS (bS HB6.out (by simp; omega)) (by simp; omega)⟩
       rw [HV.out]
       exact M7
theorem step_copy {α : Type} (E : Enc α) (t ty e : TypeId) (i : TypeInfo) (z : Value) (bytes : Nat) (ht : Tryz.prog.underlying t = some (.slice e)) (hi : Tryz.prog.info? e = some i) (hz : i.zero = some z)
  (hs : i.size = E.sz) (hby : i.bytes = bytes) (hzs : z.cells.size = E.sz) (hbb : bytes ≤ 1000) (base : Nat)
  {ops : Array Oper} {o : Oper} {a : Act} {W : World} {K : Act → World → Prop} {Q : Exit → Act → World → Prop} {E' : Prop} (hgd : o.guard = none) (s x : Operand)
  (ho : o.op = .call { callee := .builtin .append, args := #[s, x], argTypes := #[t, t] }) (hty : o.type = ty) (g : Nat) (A : Option Addr) (c : Nat) (l : List α) (hv : a.eval s = .slice (some ⟨g, 0, none⟩) 0 0) (hx : a.eval x = .slice A l.length c)
  (hown : Own W g e #[]) (hbg : base ≤ g) (B : Nat) (hr : Rs E B W A l) (hl : l.length ≤ 1048576) (hb : base ≤ W.heap.size)
  (h : ∀ v' w', w'.ownsRow base e E.sz v' l.length (E.cells l) → W.grownBy w' (some g) → K (a.put o.dst v') w') : if Region.wanted o (yielded ops a.tmps) = true then Oper.wp Tryz.prog o a W K Q else E' := by
 have hO : W.ownsRow base e E.sz (.slice (some ⟨g, 0, none⟩) 0 0) 0 [] := ⟨by simp, .inr ⟨g, 0, #[], rfl, hbg, hown, Nat.le_refl _, by simp [maxLen], by simp, by simp⟩⟩
 obtain ⟨v', w', hrun, hown', hg', _⟩ := run_copy E t ty e i z bytes ht hi hz hs hby hzs hbb base W _ hO B A c l hr hl hb
 subst hty
 exact step_append_run hgd s x t ho _ _ v' w' hv hx hrun (h v' w' hown' hg')
theorem ownAt {W : World} {g : Nat} {t : TypeId} {cs : Array Value} (hn : g = W.heap.size) : Own (W.alloc (.cells cs t)) g t cs := by subst hn; exact Own.new_ _ _ _
theorem l4Copy_any (vl : Value) (c : Ca) (w : World) (hT : SlR lnE w vl c.ls) (hl : c.ls.length ≤ 1048576) :
    Calls Tryz.prog 158 #[.agg #[vl, .int .i64 c.hand]] w (Post2 fun v w' => ∃ v1, v = .agg #[v1, .int .i64 c.hand] ∧ SlM lnE 50 w.heap.size w' v1 c.ls ∧ Below w.heap.size w w') := by
  obtain ⟨A, cc, rfl, hbc, hbm, hL⟩ := hT
  obtain ⟨i0, hi0, hz0, hz1, hz2⟩ := info_parts ln_info
  have hbx := (Own.new_ w 29 #[.slice A c.ls.length cc, .int .i64 c.hand]).alloc (o := .cells #[.slice none 0 0, .int .i64 0] 29)
  have hbo := ownAt (W := w.alloc (.cells #[.slice A c.ls.length cc, .int .i64 c.hand] 29)) (g := w.heap.size + 1) (t := 29) (cs := #[.slice none 0 0, .int .i64 0]) (by simp)
  have hb0 : Below w.heap.size w ((w.alloc (.cells #[.slice A c.ls.length cc, .int .i64 c.hand] 29)).alloc (.cells #[.slice none 0 0, .int .i64 0] 29)) := bA (bA bR)
  have hs0 : ((w.alloc (.cells #[.slice A c.ls.length cc, .int .i64 c.hand] 29)).alloc (.cells #[.slice none 0 0, .int .i64 0] 29)).heap.size = w.heap.size + 2 := by simp
  generalize hW : (w.alloc (.cells #[.slice A c.ls.length cc, .int .i64 c.hand] 29)).alloc (.cells #[.slice none 0 0, .int .i64 0] 29) = W0 at hbx hbo hb0 hs0
  have q0 := hbx.cell_ 0 (v := .slice A c.ls.length cc) rfl
  have q1 := hbx.cell_ 1 (v := .int .i64 c.hand) rfl
  have HX0 := Hd hbx
  have HO0 := Hd hbo
  have HB0 := Hd hb0
  have HL := Hd hL
  clear hbx hbo hb0 hL
  go_enter Tryz.func158, Tryz.ntmps158
  go_wp2
  go_region_held_law (fun w' => w'.cell? ⟨w.heap.size, 0, none⟩ = some (.slice A c.ls.length cc) ∧ w'.cell? ⟨w.heap.size, 1, none⟩ = some (.int .i64 c.hand)) (go_keep) (first
    | (refine step_copy lnE 27 27 50 i0 _ _ Tryz.underlying27 hi0 hz0 hz1 hz2 rfl (by omega) (w.heap.size + 2) rfl (.tmp 3) (.tmp 5) rfl rfl _ A cc c.ls rfl rfl (ownAt (W := W0) (by simp [hs0])) (by simp <;> omega) w.heap.size (HL.out.below (bA (bD HB0.out))) hl (by simp [hs0] <;> omega) ?_
       intro v1 w1 hown1 hg1
       have hm1 := slm_own rfl hown1
       obtain ⟨A1, c1, rfl, _⟩ := slm_own rfl hown1
       have HB1 : Hid (Below w.heap.size w w1) := bG (bA (bD HB0.out)) hg1 (fun k hk => by injection hk with hk; omega)
       have hx1 := own_other (HX0.out.drew.alloc (o := .cells #[] 50)) hg1 (by simp <;> omega)
       have ho1 := own_other (HO0.out.drew.alloc (o := .cells #[] 50)) hg1 (by simp <;> omega)
       have d0 := hx1.cell_ 0 (v := .slice A c.ls.length cc) rfl
       have d1 := hx1.cell_ 1 (v := .int .i64 c.hand) rfl
       have p0 := ho1.free 0
       have p1 := ho1.free 1
       have p2 := ho1.cell_ 0 (v := .slice none 0 0) rfl
       have p3 := ho1.cell_ 1 (v := .int .i64 0) rfl
       have HO1 := Hd ho1
       have HM1 := Hd hm1
       clear hown1 hg1 hx1 ho1 hm1))
  all_goals
    go_wp2
    have o3 := (HO1.out.set_ 0 (.slice A1 c.ls.length c1)).set_ 1 (.int .i64 c.hand)
    have t0 := o3.cell_ 0 (v := .slice A1 c.ls.length c1) rfl
    have t1 := o3.cell_ 1 (v := .int .i64 c.hand) rfl
    have hM := (HM1.out.far (p := ⟨w.heap.size + 1, 0, none⟩) (u := .slice A1 c.ls.length c1) (by show w.heap.size + 1 < w.heap.size + 2; omega)).far (p := ⟨w.heap.size + 1, 1, none⟩) (u := .int .i64 c.hand) (by show w.heap.size + 1 < w.heap.size + 2; omega)
    refine bodyPost_ret (v := .agg #[.slice A1 c.ls.length c1, .int .i64 c.hand]) (by simp [results, Tryz.results158, go_sem, t0, t1]) rfl ⟨_, rfl, _, rfl, hM.mono (by omega), bS (bS HB1.out (by simp)) (by simp)⟩
theorem l5Copy_any (vo : Value) (g : Tg) (w : World) (hT : SlR owE w vo g.os) (hl : g.os.length ≤ 1048576) :
    Calls Tryz.prog 159 #[.agg #[.int .i64 g.count, .int .i64 g.next, .int .i64 g.round, vo]] w (Post2 fun v w' => ∃ v1, v = .agg #[.int .i64 g.count, .int .i64 g.next, .int .i64 g.round, v1] ∧ SlM owE 186 w.heap.size w' v1 g.os ∧ Below w.heap.size w w') := by
  obtain ⟨A, cc, rfl, hbc, hbm, hL⟩ := hT
  obtain ⟨i0, hi0, hz0, hz1, hz2⟩ := info_parts ow_info
  have hbx := (Own.new_ w 32 #[.int .i64 g.count, .int .i64 g.next, .int .i64 g.round, .slice A g.os.length cc]).alloc (o := .cells #[.int .i64 0, .int .i64 0, .int .i64 0, .slice none 0 0] 32)
  have hbo := ownAt (W := w.alloc (.cells #[.int .i64 g.count, .int .i64 g.next, .int .i64 g.round, .slice A g.os.length cc] 32)) (g := w.heap.size + 1) (t := 32) (cs := #[.int .i64 0, .int .i64 0, .int .i64 0, .slice none 0 0]) (by simp)
  have hb0 : Below w.heap.size w ((w.alloc (.cells #[.int .i64 g.count, .int .i64 g.next, .int .i64 g.round, .slice A g.os.length cc] 32)).alloc (.cells #[.int .i64 0, .int .i64 0, .int .i64 0, .slice none 0 0] 32)) := bA (bA bR)
  have hs0 : ((w.alloc (.cells #[.int .i64 g.count, .int .i64 g.next, .int .i64 g.round, .slice A g.os.length cc] 32)).alloc (.cells #[.int .i64 0, .int .i64 0, .int .i64 0, .slice none 0 0] 32)).heap.size = w.heap.size + 2 := by simp
  generalize hW : (w.alloc (.cells #[.int .i64 g.count, .int .i64 g.next, .int .i64 g.round, .slice A g.os.length cc] 32)).alloc (.cells #[.int .i64 0, .int .i64 0, .int .i64 0, .slice none 0 0] 32) = W0 at hbx hbo hb0 hs0
  have q0 := hbx.cell_ 0 (v := .int .i64 g.count) rfl
  have q1 := hbx.cell_ 1 (v := .int .i64 g.next) rfl
  have q2 := hbx.cell_ 2 (v := .int .i64 g.round) rfl
  have q3 := hbx.cell_ 3 (v := .slice A g.os.length cc) rfl
  have HX0 := Hd hbx
  have HO0 := Hd hbo
  have HB0 := Hd hb0
  have HL := Hd hL
  clear hbx hbo hb0 hL
  go_enter Tryz.func159, Tryz.ntmps159
  go_wp2
  go_region_held_law (fun w' => w'.cell? ⟨w.heap.size, 0, none⟩ = some (.int .i64 g.count) ∧ w'.cell? ⟨w.heap.size, 1, none⟩ = some (.int .i64 g.next) ∧ w'.cell? ⟨w.heap.size, 2, none⟩ = some (.int .i64 g.round) ∧ w'.cell? ⟨w.heap.size, 3, none⟩ = some (.slice A g.os.length cc)) (go_keep) (first
    | (refine step_copy owE 30 30 186 i0 _ _ Tryz.underlying30 hi0 hz0 hz1 hz2 rfl (by omega) (w.heap.size + 2) rfl (.tmp 9) (.tmp 11) rfl rfl _ A cc g.os rfl rfl (ownAt (W := W0) (by simp [hs0])) (by simp <;> omega) w.heap.size (HL.out.below (bA (bD HB0.out))) hl (by simp [hs0] <;> omega) ?_
       intro v1 w1 hown1 hg1
       have hm1 := slm_own rfl hown1
       obtain ⟨A1, c1, rfl, _⟩ := slm_own rfl hown1
       have HB1 : Hid (Below w.heap.size w w1) := bG (bA (bD HB0.out)) hg1 (fun k hk => by injection hk with hk; omega)
       have hx1 := own_other (HX0.out.drew.alloc (o := .cells #[] 186)) hg1 (by simp <;> omega)
       have ho1 := own_other (HO0.out.drew.alloc (o := .cells #[] 186)) hg1 (by simp <;> omega)
       have d0 := hx1.cell_ 0 (v := .int .i64 g.count) rfl
       have d1 := hx1.cell_ 1 (v := .int .i64 g.next) rfl
       have d2 := hx1.cell_ 2 (v := .int .i64 g.round) rfl
       have d3 := hx1.cell_ 3 (v := .slice A g.os.length cc) rfl
       have p0 := ho1.free 0
       have p1 := ho1.free 1
       have p2 := ho1.free 2
       have p3 := ho1.free 3
       have e0 := ho1.cell_ 0 (v := .int .i64 0) rfl
       have e1 := ho1.cell_ 1 (v := .int .i64 0) rfl
       have e2 := ho1.cell_ 2 (v := .int .i64 0) rfl
       have e3 := ho1.cell_ 3 (v := .slice none 0 0) rfl
       have HO1 := Hd ho1
       have HM1 := Hd hm1
       clear hown1 hg1 hx1 ho1 hm1))
  all_goals
    go_wp2
    have o3 := (((HO1.out.set_ 0 (.int .i64 g.count)).set_ 1 (.int .i64 g.next)).set_ 2 (.int .i64 g.round)).set_ 3 (.slice A1 g.os.length c1)
    have t0 := o3.cell_ 0 (v := .int .i64 g.count) rfl
    have t1 := o3.cell_ 1 (v := .int .i64 g.next) rfl
    have t2 := o3.cell_ 2 (v := .int .i64 g.round) rfl
    have t3 := o3.cell_ 3 (v := .slice A1 g.os.length c1) rfl
    have hM := (((HM1.out.far (p := ⟨w.heap.size + 1, 0, none⟩) (u := .int .i64 g.count) (by show w.heap.size + 1 < w.heap.size + 2; omega)).far (p := ⟨w.heap.size + 1, 1, none⟩) (u := .int .i64 g.next) (by show w.heap.size + 1 < w.heap.size + 2; omega)).far (p := ⟨w.heap.size + 1, 2, none⟩) (u := .int .i64 g.round) (by show w.heap.size + 1 < w.heap.size + 2; omega)).far (p := ⟨w.heap.size + 1, 3, none⟩) (u := .slice A1 g.os.length c1) (by show w.heap.size + 1 < w.heap.size + 2; omega)
    refine bodyPost_ret (v := .agg #[.int .i64 g.count, .int .i64 g.next, .int .i64 g.round, .slice A1 g.os.length c1]) (by simp [results, Tryz.results159, go_sem, t0, t1, t2, t3]) rfl ⟨_, rfl, _, rfl, hM.mono (by omega), bS (bS (bS (bS HB1.out (by simp)) (by simp)) (by simp)) (by simp)⟩
theorem own_ne {W : World} {base : Nat} {e e2 : TypeId} {sz n g2 : Nat} {v : Value} {xs : List Value} {cs : Array Value} (h : W.ownsRow base e sz v n xs) (h2 : Own W g2 e2 cs) (hne : e ≠ e2) : v.ownBlock = none ∨ v.ownBlock ≠ some g2 := by
 rcases h.2 with ⟨rfl, _⟩ | ⟨g, cap, cur, rfl, _, hg, _⟩
 ·exact .inl rfl
 ·refine .inr fun heq => ?_
  injection heq with heq
  replace heq : g = g2 := heq
  subst heq
  unfold Own at h2
  rw [hg] at h2
  injection h2 with h2
  injection h2 with _ h2
  exact hne h2
set_option maxHeartbeats 1000000 in
theorem l3Copy_any (vb vf : Value) (t : Tab) (w : World) (hT : TaR w vb vf t) (h1 : t.bs.length ≤ 1048576) (h2 : t.fs.length ≤ 1048576) :
    Calls Tryz.prog 157 #[.agg #[vb, vf]] w (Post2 fun v w' => ∃ v1 v2, v = .agg #[v1, v2] ∧ TaM w.heap.size w' v1 v2 t ∧ Below w.heap.size w w') := by
  obtain ⟨Ab, cb, rfl, hbc, hbm, hB⟩ := hT.b
  obtain ⟨Af, cf, rfl, hfc, hfm, hF⟩ := hT.f
  obtain ⟨i0, hi0, hz0, hz1, hz2⟩ := info_parts int_info2
  obtain ⟨j0, hj0, hy0, hy1, hy2⟩ := info_parts fr_info
  have hbx := (Own.new_ w 26 #[.slice Ab t.bs.length cb, .slice Af t.fs.length cf]).alloc (o := .cells #[.slice none 0 0, .slice none 0 0] 26)
  have hbo := ownAt (W := w.alloc (.cells #[.slice Ab t.bs.length cb, .slice Af t.fs.length cf] 26)) (g := w.heap.size + 1) (t := 26) (cs := #[.slice none 0 0, .slice none 0 0]) (by simp)
  have hb0 : Below w.heap.size w ((w.alloc (.cells #[.slice Ab t.bs.length cb, .slice Af t.fs.length cf] 26)).alloc (.cells #[.slice none 0 0, .slice none 0 0] 26)) := bA (bA bR)
  have hs0 : ((w.alloc (.cells #[.slice Ab t.bs.length cb, .slice Af t.fs.length cf] 26)).alloc (.cells #[.slice none 0 0, .slice none 0 0] 26)).heap.size = w.heap.size + 2 := by simp
  generalize hW : (w.alloc (.cells #[.slice Ab t.bs.length cb, .slice Af t.fs.length cf] 26)).alloc (.cells #[.slice none 0 0, .slice none 0 0] 26) = W0 at hbx hbo hb0 hs0
  have q0 := hbx.cell_ 0 (v := .slice Ab t.bs.length cb) rfl
  have q1 := hbx.cell_ 1 (v := .slice Af t.fs.length cf) rfl
  have HX0 := Hd hbx
  have HO0 := Hd hbo
  have HB0 := Hd hb0
  have HBR := Hd hB
  have HFR := Hd hF
  clear hbx hbo hb0 hB hF hT
  go_enter Tryz.func157, Tryz.ntmps157
  go_wp2
  go_region_held_law (fun w' => w'.cell? ⟨w.heap.size, 0, none⟩ = some (.slice Ab t.bs.length cb) ∧ w'.cell? ⟨w.heap.size, 1, none⟩ = some (.slice Af t.fs.length cf)) (go_keep) (first
    | (refine step_copy intE 23 23 3 i0 _ _ Tryz.underlying23 hi0 hz0 hz1 hz2 rfl (by omega) (w.heap.size + 2) rfl (.tmp 3) (.tmp 5) rfl rfl _ Ab cb t.bs rfl rfl (ownAt (W := W0) (by simp [hs0])) (by first | omega | (simp [hs0] <;> omega)) w.heap.size (HBR.out.below (by first | exact bA (bD HB0.out) | exact bA (bA (bD HB0.out)))) h1 (by first | omega | (simp [hs0] <;> omega)) ?_
       intro v1 w1 hown1 hg1
       obtain ⟨A1, c1, rfl, _⟩ := slm_own rfl hown1
       have HB1 : Hid (Below w.heap.size w w1) := bG (by first | exact bA (bD HB0.out) | exact bA (bA (bD HB0.out))) hg1 (fun k hk => by injection hk with hk; omega)
       have hx1 := own_other (by first | exact HX0.out.drew.alloc (o := .cells #[] 3) | exact (HX0.out.drew.alloc (o := .cells #[] 3)).alloc (o := .cells #[] 80) | exact (HX0.out.drew.alloc (o := .cells #[] 80)).alloc (o := .cells #[] 3)) hg1 (by first | omega | (simp [hs0] <;> omega))
       have ho1 := own_other (by first | exact HO0.out.drew.alloc (o := .cells #[] 3) | exact (HO0.out.drew.alloc (o := .cells #[] 3)).alloc (o := .cells #[] 80) | exact (HO0.out.drew.alloc (o := .cells #[] 80)).alloc (o := .cells #[] 3)) hg1 (by first | omega | (simp [hs0] <;> omega))
       have d0 := hx1.cell_ 0 (v := .slice Ab t.bs.length cb) rfl
       have d1 := hx1.cell_ 1 (v := .slice Af t.fs.length cf) rfl
       have HX1 := Hd hx1
       have HO1 := Hd ho1
       have HW1 := Hd hown1
       have hs1 : w.heap.size + 3 ≤ w1.heap.size := Nat.le_trans (by first | omega | (simp [hs0] <;> omega)) hg1.size
       skip
       clear hown1 hg1 hx1 ho1)
    | (refine step_copy intE 23 23 3 i0 _ _ Tryz.underlying23 hi0 hz0 hz1 hz2 rfl (by omega) (w.heap.size + 2) rfl (.tmp 3) (.tmp 5) rfl rfl _ Ab cb t.bs rfl rfl (ownAt (W := W0) (by simp [hs0])).alloc (by first | omega | (simp [hs0] <;> omega)) w.heap.size (HBR.out.below (by first | exact bA (bD HB0.out) | exact bA (bA (bD HB0.out)))) h1 (by first | omega | (simp [hs0] <;> omega)) ?_
       intro v1 w1 hown1 hg1
       obtain ⟨A1, c1, rfl, _⟩ := slm_own rfl hown1
       have HB1 : Hid (Below w.heap.size w w1) := bG (by first | exact bA (bD HB0.out) | exact bA (bA (bD HB0.out))) hg1 (fun k hk => by injection hk with hk; omega)
       have hx1 := own_other (by first | exact HX0.out.drew.alloc (o := .cells #[] 3) | exact (HX0.out.drew.alloc (o := .cells #[] 3)).alloc (o := .cells #[] 80) | exact (HX0.out.drew.alloc (o := .cells #[] 80)).alloc (o := .cells #[] 3)) hg1 (by first | omega | (simp [hs0] <;> omega))
       have ho1 := own_other (by first | exact HO0.out.drew.alloc (o := .cells #[] 3) | exact (HO0.out.drew.alloc (o := .cells #[] 3)).alloc (o := .cells #[] 80) | exact (HO0.out.drew.alloc (o := .cells #[] 80)).alloc (o := .cells #[] 3)) hg1 (by first | omega | (simp [hs0] <;> omega))
       have d0 := hx1.cell_ 0 (v := .slice Ab t.bs.length cb) rfl
       have d1 := hx1.cell_ 1 (v := .slice Af t.fs.length cf) rfl
       have HX1 := Hd hx1
       have HO1 := Hd ho1
       have HW1 := Hd hown1
       have hs1 : w.heap.size + 3 ≤ w1.heap.size := Nat.le_trans (by first | omega | (simp [hs0] <;> omega)) hg1.size
       have HF1 := Hd (own_other (ownAt (W := W0.drew.alloc (.cells #[] 3)) (g := w.heap.size + 3) (t := 80) (cs := #[]) (by simp [hs0])) hg1 (by first | omega | (simp [hs0] <;> omega)))
       clear hown1 hg1 hx1 ho1)
    | (refine step_copy intE 23 23 3 i0 _ _ Tryz.underlying23 hi0 hz0 hz1 hz2 rfl (by omega) (w.heap.size + 2) rfl (.tmp 3) (.tmp 5) rfl rfl _ Ab cb t.bs rfl rfl (ownAt (W := W0.alloc (.cells #[] 80)) (by simp [hs0])) (by first | omega | (simp [hs0] <;> omega)) w.heap.size (HBR.out.below (by first | exact bA (bD HB0.out) | exact bA (bA (bD HB0.out)))) h1 (by first | omega | (simp [hs0] <;> omega)) ?_
       intro v1 w1 hown1 hg1
       obtain ⟨A1, c1, rfl, _⟩ := slm_own rfl hown1
       have HB1 : Hid (Below w.heap.size w w1) := bG (by first | exact bA (bD HB0.out) | exact bA (bA (bD HB0.out))) hg1 (fun k hk => by injection hk with hk; omega)
       have hx1 := own_other (by first | exact HX0.out.drew.alloc (o := .cells #[] 3) | exact (HX0.out.drew.alloc (o := .cells #[] 3)).alloc (o := .cells #[] 80) | exact (HX0.out.drew.alloc (o := .cells #[] 80)).alloc (o := .cells #[] 3)) hg1 (by first | omega | (simp [hs0] <;> omega))
       have ho1 := own_other (by first | exact HO0.out.drew.alloc (o := .cells #[] 3) | exact (HO0.out.drew.alloc (o := .cells #[] 3)).alloc (o := .cells #[] 80) | exact (HO0.out.drew.alloc (o := .cells #[] 80)).alloc (o := .cells #[] 3)) hg1 (by first | omega | (simp [hs0] <;> omega))
       have d0 := hx1.cell_ 0 (v := .slice Ab t.bs.length cb) rfl
       have d1 := hx1.cell_ 1 (v := .slice Af t.fs.length cf) rfl
       have HX1 := Hd hx1
       have HO1 := Hd ho1
       have HW1 := Hd hown1
       have hs1 : w.heap.size + 3 ≤ w1.heap.size := Nat.le_trans (by first | omega | (simp [hs0] <;> omega)) hg1.size
       have HF1 := Hd (own_other (ownAt (W := W0.drew) (g := w.heap.size + 2) (t := 80) (cs := #[]) (by simp [hs0])).alloc hg1 (by first | omega | (simp [hs0] <;> omega)))
       clear hown1 hg1 hx1 ho1)
    | (refine step_copy frE 24 24 80 j0 _ _ Tryz.underlying24 hj0 hy0 hy1 hy2 rfl (by omega) (w.heap.size + 2) rfl (.tmp 7) (.tmp 9) rfl rfl _ Af cf t.fs rfl rfl (by first | exact HF1.out | exact Own.new_ _ _ _) (by first | omega | (simp [hs0] <;> omega)) w.heap.size (HFR.out.below (by first | exact HB1.out | exact bA HB1.out)) h2 (by first | omega | (simp [hs0] <;> omega)) ?_
       intro v2 w2 hown2 hg2
       have hm2 := slm_own rfl hown2
       obtain ⟨A2, c2, rfl, _⟩ := slm_own rfl hown2
       have hk1 : w2.ownsRow (w.heap.size + 2) 3 intE.sz (.slice A1 t.bs.length c1) t.bs.length (intE.cells t.bs) := by
         first
           | exact HW1.out.kept hg2 (own_ne (e2 := 80) HW1.out HF1.out (by decide))
           | exact (HW1.out.alloc (.cells #[] 80)).kept hg2 (own_ne (e2 := 80) (HW1.out.alloc (.cells #[] 80)) (Own.new_ w1 80 #[]) (by decide))
       have HM1 := Hd (slm_own rfl hk1)
       have HM2 := Hd hm2
       have HB2 : Hid (Below w.heap.size w w2) := bG (by first | exact HB1.out | exact bA HB1.out) hg2 (fun k hk => by injection hk with hk; omega)
       have hx2 := own_other (by first | exact HX1.out | exact HX1.out.alloc (o := .cells #[] 80)) hg2 (by first | omega | (simp [hs0] <;> omega))
       have ho2 := own_other (by first | exact HO1.out | exact HO1.out.alloc (o := .cells #[] 80)) hg2 (by first | omega | (simp [hs0] <;> omega))
       have f0 := hx2.cell_ 0 (v := .slice Ab t.bs.length cb) rfl
       have f1 := hx2.cell_ 1 (v := .slice Af t.fs.length cf) rfl
       have p0 := ho2.free 0
       have p1 := ho2.free 1
       have p2 := ho2.cell_ 0 (v := .slice none 0 0) rfl
       have p3 := ho2.cell_ 1 (v := .slice none 0 0) rfl
       have HO2 := Hd ho2
       clear hown2 hg2 hx2 ho2 hm2 hk1))
  all_goals
    go_wp2
    have o3 := (HO2.out.set_ 0 (.slice A1 t.bs.length c1)).set_ 1 (.slice A2 t.fs.length c2)
    have t0 := o3.cell_ 0 (v := .slice A1 t.bs.length c1) rfl
    have t1 := o3.cell_ 1 (v := .slice A2 t.fs.length c2) rfl
    have hT2 : TaM (w.heap.size + 2) w2 (.slice A1 t.bs.length c1) (.slice A2 t.fs.length c2) t := ⟨HM1.out, HM2.out⟩
    have hM := (hT2.far (p := ⟨w.heap.size + 1, 0, none⟩) (u := .slice A1 t.bs.length c1) (by show w.heap.size + 1 < w.heap.size + 2; omega)).far (p := ⟨w.heap.size + 1, 1, none⟩) (u := .slice A2 t.fs.length c2) (by show w.heap.size + 1 < w.heap.size + 2; omega)
    refine bodyPost_ret (v := .agg #[.slice A1 t.bs.length c1, .slice A2 t.fs.length c2]) (by simp [results, Tryz.results157, go_sem, t0, t1]) rfl ⟨_, rfl, _, _, rfl, hM.mono (by omega), bS (bS HB2.out (by simp)) (by simp)⟩
end Go.Proofs.YtfbnokjdkhcgoaaGreatDoor
