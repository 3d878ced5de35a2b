/- A part of the proofs of this seat: MpS. -/
import Derived.Test.YtfbnokjdkhcgoaaGreatDoorVMapI
import Derived.Test.YtfbnokjdkhcgoaaGreatDoorVCaS
set_option linter.unusedVariables false
set_option linter.unusedSimpArgs false
set_option maxRecDepth 1000000
namespace Go.Proofs.YtfbnokjdkhcgoaaGreatDoor
open Go.RowKit
set_option maxHeartbeats 2000000 in
theorem l3Map_any (vb vf : Value) (t : Tab) (s p : Int) (fr : Nat) (r : Int) (w : World) (hT : TaR w vb vf t) (htv : tv t = true) (hk : kval (s, p) = true) (hf : fr < t.fs.length) :
  Calls Tryz.prog 213 #[.agg #[vb, vf], .agg #[.int .i64 s, .int .i64 p], .int .i64 fr, .int .i64 r] w (Post2 fun v w' => ∃ v1 v2, v = .agg #[v1, v2] ∧ TaM w.heap.size w' v1 v2 (mapT t s p fr r) ∧ Below w.heap.size w w') := by
 obtain ⟨⟨_, hfl, hb1, hbl⟩, _⟩ := tv_parts htv
 obtain ⟨hbk, heq⟩ := bkt_in hk hb1
 have ht0 := ((Own.new_ w 26 #[vb, vf]).alloc (o := .cells #[.int .i64 s, .int .i64 p] 54)).alloc (o := .cells #[.slice none 0 0, .slice none 0 0] 26)
 have hk0 := (Own.new_ (w.alloc (.cells #[vb, vf] 26)) 54 #[.int .i64 s, .int .i64 p]).alloc (o := .cells #[.slice none 0 0, .slice none 0 0] 26)
 have hr0 := Own.new_ ((w.alloc (.cells #[vb, vf] 26)).alloc (.cells #[.int .i64 s, .int .i64 p] 54)) 26 #[.slice none 0 0, .slice none 0 0]
 have hb0 : Below w.heap.size w (((w.alloc (.cells #[vb, vf] 26)).alloc (.cells #[.int .i64 s, .int .i64 p] 54)).alloc (.cells #[.slice none 0 0, .slice none 0 0] 26)) := bA (bA (bA bR))
 rw [show (w.alloc (.cells #[vb, vf] 26)).heap.size = w.heap.size + 1 by simp] at hk0
 rw [show ((w.alloc (.cells #[vb, vf] 26)).alloc (.cells #[.int .i64 s, .int .i64 p] 54)).heap.size = w.heap.size + 1 + 1 by simp] at hr0
 have hs0 : (((w.alloc (.cells #[vb, vf] 26)).alloc (.cells #[.int .i64 s, .int .i64 p] 54)).alloc (.cells #[.slice none 0 0, .slice none 0 0] 26)).heap.size = w.heap.size + 3 := by simp
 generalize hW : ((w.alloc (.cells #[vb, vf] 26)).alloc (.cells #[.int .i64 s, .int .i64 p] 54)).alloc (.cells #[.slice none 0 0, .slice none 0 0] 26) = W0 at ht0 hk0 hr0 hb0 hs0
 have HT0 := Hd ht0
 have HK0 := Hd hk0
 have HR0 := Hd hr0
 have HB0 := Hd hb0
 clear ht0 hk0 hr0 hb0
 have t00 := HT0.out.cell_ 0 (v := vb) rfl
 have t10 := HT0.out.cell_ 1 (v := vf) rfl
 have k00 := HK0.out.cell_ 0 (v := .int .i64 s) rfl
 have k10 := HK0.out.cell_ 1 (v := .int .i64 p) rfl
 have HTR := Hd hT
 clear hT
 go_enter Tryz.func213, Tryz.ntmps213
 go_wp2_with fail
 refine (l3Copy_any vb vf t _ (HTR.out.now HB0.out) (by omega) (by omega)).mono ?_
 rintro e w1 ⟨_, rfl, v1, v2, rfl, hM1, hb1'⟩
 have HS1 : Hid (W0.heap.size ≤ w1.heap.size) := hb1'.size
 have hb1 := hb1'
 have HT1 := Hd (HT0.out.below hb1)
 have HK1 := Hd (HK0.out.below hb1)
 have HR1 := Hd (HR0.out.below hb1)
 have HB1 := Hd (bT HB0.out hb1)
 clear hb1
 have t01 := HT1.out.cell_ 0 rfl
 have t11 := HT1.out.cell_ 1 rfl
 have k01 := HK1.out.cell_ 0 (v := .int .i64 s) rfl
 have k11 := HK1.out.cell_ 1 (v := .int .i64 p) rfl
 have r01 := HR1.out.cell_ 0 (v := .slice none 0 0) rfl
 have r11 := HR1.out.cell_ 1 (v := .slice none 0 0) rfl
 have fr01 := HR1.out.free 0
 have fr11 := HR1.out.free 1
 clear t00 t10 k00 k10
 try clear r00 r10 fr00 fr10
 obtain ⟨Ab, cb, rfl, hbc, hbm, hB⟩ := HTR.out.b
 obtain ⟨g1, c1, g2, c2, rfl, rfl, e1, e2, l1, l2, hne, a1, a2, b1, b2, m1, m2⟩ := hM1.open_ (by omega) (by omega)
 have ho5 := Own.new_ w1 26 #[.slice (some ⟨g1, 0, none⟩) t.bs.length c1, .slice (some ⟨g2, 0, none⟩) t.fs.length c2]
 have hb5 : Below w1.heap.size w1 (w1.alloc (.cells #[.slice (some ⟨g1, 0, none⟩) t.bs.length c1, .slice (some ⟨g2, 0, none⟩) t.fs.length c2] 26)) := bA bR
 generalize hW5 : w1.alloc (.cells #[.slice (some ⟨g1, 0, none⟩) t.bs.length c1, .slice (some ⟨g2, 0, none⟩) t.fs.length c2] 26) = w5 at ho5 hb5
 have M1 := Hd (m1.below hb5)
 have M2 := Hd (m2.below hb5)
 have HT5 := Hd (HT1.out.below hb5)
 have HK5 := Hd (HK1.out.below hb5)
 have HR5 := Hd (HR1.out.below hb5)
 have HB5 := Hd (bT HB1.out hb5)
 clear hb5
 have t05 := HT5.out.cell_ 0 rfl
 have t15 := HT5.out.cell_ 1 rfl
 have k05 := HK5.out.cell_ 0 (v := .int .i64 s) rfl
 have k15 := HK5.out.cell_ 1 (v := .int .i64 p) rfl
 have r05 := HR5.out.cell_ 0 (v := .slice none 0 0) rfl
 have r15 := HR5.out.cell_ 1 (v := .slice none 0 0) rfl
 have fr05 := HR5.out.free 0
 have fr15 := HR5.out.free 1
 clear t01 t11 k01 k11
 try clear r01 r11 fr01 fr11
 have o50 := ho5.cell_ 0 (v := .slice (some ⟨g1, 0, none⟩) t.bs.length c1) rfl
 have o51 := ho5.cell_ 1 (v := .slice (some ⟨g2, 0, none⟩) t.fs.length c2) rfl
 have HO5 := Hd ho5
 clear hM1 ho5 m1 m2 hb1' hB
 go_wp2_with fail
 refine (l2Hash_any s p t.bs.length _ hk ⟨by omega, by omega⟩).mono ?_
 rintro e w6 ⟨rfl, hb6⟩
 rw [heq]
 have O6 := HO5.out.below hb6
 have M16 := M1.out.below hb6
 have M26 := M2.out.below hb6
 have HT6 := Hd (HT5.out.below hb6)
 have HK6 := Hd (HK5.out.below hb6)
 have HR6 := Hd (HR5.out.below hb6)
 have HB6 := Hd (bT HB5.out hb6)
 clear hb6
 have t06 := HT6.out.cell_ 0 rfl
 have t16 := HT6.out.cell_ 1 rfl
 have k06 := HK6.out.cell_ 0 (v := .int .i64 s) rfl
 have k16 := HK6.out.cell_ 1 (v := .int .i64 p) rfl
 have r06 := HR6.out.cell_ 0 (v := .slice none 0 0) rfl
 have r16 := HR6.out.cell_ 1 (v := .slice none 0 0) rfl
 have fr06 := HR6.out.free 0
 have fr16 := HR6.out.free 1
 clear t05 t15 k05 k15
 try clear r05 r15 fr05 fr15
 clear o50 o51
 have hmt : mapT t s p fr r = ⟨t.bs.set (bkt t s p) fr, t.fs.set fr ⟨true, s, p, r, t.bs.getD (bkt t s p) 0⟩⟩ := by
  unfold mapT
  rw [Int.toNat_natCast]
 generalize hbb : bkt t s p = b at *
 obtain ⟨n, en⟩ : ∃ n, t.bs[b]? = some n := ⟨_, List.getElem?_eq_getElem hbk⟩
 rw [List.getD_eq_getElem?_getD, en, Option.getD_some] at hmt
 obtain ⟨b', o', e3, _, d0⟩ := M16.is.i1 en
 injection e3 with e3
 injection e3 with e3 e4
 subst e3 e4
 rw [Nat.zero_add] at d0
 obtain ⟨f, ef⟩ : ∃ f, t.fs[fr]? = some f := ⟨_, List.getElem?_eq_getElem hf⟩
 obtain ⟨b', o', e3, _, y0, y1, y2, y3, y4⟩ := M26.is.fr ef
 injection e3 with e3
 injection e3 with e3 e4
 subst e3 e4
 rw [Nat.zero_add] at y0 y1 y2 y3 y4
 obtain ⟨_, cs1, u1, _, O1, S1⟩ := M16.own (by omega)
 injection u1 with u1
 injection u1 with u1
 subst u1
 obtain ⟨_, cs2, u2, _, O2, S2⟩ := M26.own (by omega)
 injection u2 with u2
 injection u2 with u2
 subst u2
 have z2 := O1.free b
 have z3 := O2.free (fr * 5)
 have z4 := O2.free (fr * 5 + 1)
 have z5 := O2.free (fr * 5 + 2)
 have z6 := O2.free (fr * 5 + 3)
 have z7 := O2.free (fr * 5 + 4)
 have HM1 := Hd M16
 have HM2 := Hd M26
 have HMT := Hd hmt
 have p0 := O6.cell_ 0 (v := .slice (some ⟨g1, 0, none⟩) t.bs.length c1) rfl
 have p1 := O6.cell_ 1 (v := .slice (some ⟨g2, 0, none⟩) t.fs.length c2) rfl
 have HO6 := Hd O6
 have hol := O6.lt
 clear M16 M26 O1 O2 S1 S2 O6 en ef hmt
 have hg1 : w.heap.size + 3 ≤ g1 := by omega
 have hg2 : w.heap.size + 3 ≤ g2 := by omega
 have hw1 : w.heap.size + 3 ≤ w1.heap.size := by have := HS1.out; omega
 go_wp2
 have q1 : g2 ≠ w1.heap.size := by omega
 have q2 : w1.heap.size ≠ g2 := by omega
 have q3 : g2 ≠ w.heap.size + 1 := by omega
 have q4 : w.heap.size + 1 ≠ g2 := by omega
 have q5 : g2 ≠ g1 := fun h => hne h.symm
 go_region_held_law (fun w' => w'.cell? ⟨w1.heap.size, 0, none⟩ = some (.slice (some ⟨g1, 0, none⟩) t.bs.length c1) ∧ w'.cell? ⟨w1.heap.size, 1, none⟩ = some (.slice (some ⟨g2, 0, none⟩) t.fs.length c2) ∧ w'.cell? ⟨w.heap.size + 1, 0, none⟩ = some (.int .i64 s) ∧ w'.cell? ⟨w.heap.size + 1, 1, none⟩ = some (.int .i64 p) ∧ w'.cell? ⟨g1, b, none⟩ = some (.int .i64 n)) (go_keep) (fail)
 all_goals
  clear y0 y1 y2 y3 y4 z3 z4 z5 z6 z7
  have M3 := (HM2.out.wfr hf ⟨true, s, p, r, n⟩).other (p := ⟨g1, b, none⟩) (u := .int .i64 fr) hne
  have M4 := (((((HM1.out.other (p := ⟨g2, fr * 5, none⟩) (u := .bool true) hne.symm).other (p := ⟨g2, fr * 5 + 1, none⟩) (u := .int .i64 s) hne.symm).other (p := ⟨g2, fr * 5 + 2, none⟩) (u := .int .i64 p) hne.symm).other (p := ⟨g2, fr * 5 + 3, none⟩) (u := .int .i64 r) hne.symm).other (p := ⟨g2, fr * 5 + 4, none⟩) (u := .int .i64 n) hne.symm).wint hbk fr
  have HM3 := Hd M3
  have HM4 := Hd M4
  clear M3 M4
  have q6 : g1 ≠ w1.heap.size := by omega
  have q7 : w1.heap.size ≠ g1 := by omega
  have q8 : g1 ≠ w.heap.size + 1 + 1 := by omega
  have q9 : w.heap.size + 1 + 1 ≠ g1 := by omega
  have q10 : g2 ≠ w.heap.size + 1 + 1 := by omega
  have q11 : w.heap.size + 1 + 1 ≠ g2 := by omega
  go_wp2
  have o3 := ((((((((HR6.out.far (p := ⟨g2, fr * 5, none⟩) (u := .bool true) q11).far (p := ⟨g2, fr * 5 + 1, none⟩) (u := .int .i64 s) q11).far (p := ⟨g2, fr * 5 + 2, none⟩) (u := .int .i64 p) q11).far (p := ⟨g2, fr * 5 + 3, none⟩) (u := .int .i64 r) q11).far (p := ⟨g2, fr * 5 + 4, none⟩) (u := .int .i64 n) q11).far (p := ⟨g1, b, none⟩) (u := .int .i64 fr) q9).set_ 0 (.slice (some ⟨g1, 0, none⟩) t.bs.length c1)).set_ 1 (.slice (some ⟨g2, 0, none⟩) t.fs.length c2)).drew
  have e0 := o3.cell_ 0 (v := .slice (some ⟨g1, 0, none⟩) t.bs.length c1) rfl
  have e1 := o3.cell_ 1 (v := .slice (some ⟨g2, 0, none⟩) t.fs.length c2) rfl
  have hlt2 : w.heap.size + 1 + 1 < W0.heap.size := by omega
  have N3 := ((HM3.out.far (p := ⟨w.heap.size + 1 + 1, 0, none⟩) (u := .slice (some ⟨g1, 0, none⟩) t.bs.length c1) hlt2).far (p := ⟨w.heap.size + 1 + 1, 1, none⟩) (u := .slice (some ⟨g2, 0, none⟩) t.fs.length c2) hlt2).mono (B' := w.heap.size) (by omega)
  have N4 := ((HM4.out.far (p := ⟨w.heap.size + 1 + 1, 0, none⟩) (u := .slice (some ⟨g1, 0, none⟩) t.bs.length c1) hlt2).far (p := ⟨w.heap.size + 1 + 1, 1, none⟩) (u := .slice (some ⟨g2, 0, none⟩) t.fs.length c2) hlt2).mono (B' := w.heap.size) (by omega)
  refine bodyPost_ret (v := .agg #[.slice (some ⟨g1, 0, none⟩) t.bs.length c1, .slice (some ⟨g2, 0, none⟩) t.fs.length c2]) (by simp [results, Tryz.results213, go_sem, e0, e1]) rfl ⟨_, rfl, _, _, rfl, ?_, ?_⟩
  ·rw [HMT.out]
   exact ⟨slm_of (by simp) (by simpa using a1) a2 (N4.below (bD bR)), slm_of (by simp) (by simpa using b1) b2 (N3.below (bD bR))⟩
  ·refine bD ?_
   repeat (refine bS ?_ (by simp <;> omega))
   exact HB6.out
set_option maxHeartbeats 2000000 in
theorem sMapPage_any (vb vf : Value) (t : Tab) (s p fr r : Int) (w : World) (hT : TaR w vb vf t) :
  Calls Tryz.prog 164 #[.agg #[vb, vf], .agg #[.int .i64 s, .int .i64 p], .int .i64 fr, .int .i64 r] w (Post2 fun v w' => ∃ v1 v2, v = .tuple #[.agg #[v1, v2], .bool (mapOK t s p fr r)] ∧ TaM w.heap.size w' v1 v2 (mapV t s p fr r) ∧ Below w.heap.size w w') := by
 have ht0 := ((Own.new_ w 26 #[vb, vf]).alloc (o := .cells #[.int .i64 s, .int .i64 p] 54)).alloc (o := .cells #[.slice none 0 0, .slice none 0 0] 26)
 have hk0 := (Own.new_ (w.alloc (.cells #[vb, vf] 26)) 54 #[.int .i64 s, .int .i64 p]).alloc (o := .cells #[.slice none 0 0, .slice none 0 0] 26)
 have hr0 := Own.new_ ((w.alloc (.cells #[vb, vf] 26)).alloc (.cells #[.int .i64 s, .int .i64 p] 54)) 26 #[.slice none 0 0, .slice none 0 0]
 have hb0 : Below w.heap.size w (((w.alloc (.cells #[vb, vf] 26)).alloc (.cells #[.int .i64 s, .int .i64 p] 54)).alloc (.cells #[.slice none 0 0, .slice none 0 0] 26)) := bA (bA (bA bR))
 rw [show (w.alloc (.cells #[vb, vf] 26)).heap.size = w.heap.size + 1 by simp] at hk0
 rw [show ((w.alloc (.cells #[vb, vf] 26)).alloc (.cells #[.int .i64 s, .int .i64 p] 54)).heap.size = w.heap.size + 1 + 1 by simp] at hr0
 have hs0 : (((w.alloc (.cells #[vb, vf] 26)).alloc (.cells #[.int .i64 s, .int .i64 p] 54)).alloc (.cells #[.slice none 0 0, .slice none 0 0] 26)).heap.size = w.heap.size + 3 := by simp
 generalize hW : ((w.alloc (.cells #[vb, vf] 26)).alloc (.cells #[.int .i64 s, .int .i64 p] 54)).alloc (.cells #[.slice none 0 0, .slice none 0 0] 26) = W0 at ht0 hk0 hr0 hb0 hs0
 have HT0 := Hd ht0
 have HK0 := Hd hk0
 have HR0 := Hd hr0
 have HB0 := Hd hb0
 clear ht0 hk0 hr0 hb0
 have t00 := HT0.out.cell_ 0 (v := vb) rfl
 have t10 := HT0.out.cell_ 1 (v := vf) rfl
 have k00 := HK0.out.cell_ 0 (v := .int .i64 s) rfl
 have k10 := HK0.out.cell_ 1 (v := .int .i64 p) rfl
 have HTR := Hd hT
 clear hT
 go_enter Tryz.func164, Tryz.ntmps164
 go_wp2_with fail
 refine (sTableValid_any vb vf t _ (HTR.out.now HB0.out)).mono ?_
 rintro e w1 ⟨rfl, hb1⟩
 have HT1 := Hd (HT0.out.below hb1)
 have HK1 := Hd (HK0.out.below hb1)
 have HR1 := Hd (HR0.out.below hb1)
 have HB1 := Hd (bT HB0.out hb1)
 clear hb1
 have t01 := HT1.out.cell_ 0 rfl
 have t11 := HT1.out.cell_ 1 rfl
 have k01 := HK1.out.cell_ 0 (v := .int .i64 s) rfl
 have k11 := HK1.out.cell_ 1 (v := .int .i64 p) rfl
 have r01 := HR1.out.cell_ 0 (v := .slice none 0 0) rfl
 have r11 := HR1.out.cell_ 1 (v := .slice none 0 0) rfl
 have fr01 := HR1.out.free 0
 have fr11 := HR1.out.free 1
 clear t00 t10 k00 k10
 try clear r00 r10 fr00 fr10
 cases h1 : tv t with
 | false =>
  have HA : Hid (mapOK t s p fr r = false) := by show _ = _; unfold mapOK; rw [h1]; rfl
  have HV := Hd (mapOK_false HA.out)
  go_wp2
  have o3 := (HR1.out.set_ 0 (.slice none 0 0)).set_ 1 (.slice none 0 0)
  have e0 := o3.cell_ 0 (v := .slice none 0 0) rfl
  have e1 := o3.cell_ 1 (v := .slice none 0 0) rfl
  refine bodyPost_ret (v := .tuple #[.agg #[.slice none 0 0, .slice none 0 0], .bool false]) (by simp [results, Tryz.results164, go_sem, e0, e1]) rfl ⟨_, rfl, _, _, by rw [HA.out], ?_, bS (bS HB1.out (by simp; omega)) (by simp; omega)⟩
  rw [HV.out]
  exact tam_z
 | true =>
 go_wp2_with fail
 refine (sKeyValid_any _ _ _).mono ?_
 rintro e w2 ⟨rfl, hb2⟩
 have HT2 := Hd (HT1.out.below hb2)
 have HK2 := Hd (HK1.out.below hb2)
 have HR2 := Hd (HR1.out.below hb2)
 have HB2 := Hd (bT HB1.out hb2)
 clear hb2
 have t02 := HT2.out.cell_ 0 rfl
 have t12 := HT2.out.cell_ 1 rfl
 have k02 := HK2.out.cell_ 0 (v := .int .i64 s) rfl
 have k12 := HK2.out.cell_ 1 (v := .int .i64 p) rfl
 have r02 := HR2.out.cell_ 0 (v := .slice none 0 0) rfl
 have r12 := HR2.out.cell_ 1 (v := .slice none 0 0) rfl
 have fr02 := HR2.out.free 0
 have fr12 := HR2.out.free 1
 clear t01 t11 k01 k11
 try clear r01 r11 fr01 fr11
 cases h2 : kval (s, p) with
 | false =>
  have HA : Hid (mapOK t s p fr r = false) := by show _ = _; unfold mapOK; rw [h1, h2]; rfl
  have HV := Hd (mapOK_false HA.out)
  go_wp2
  have o3 := (HR2.out.set_ 0 (.slice none 0 0)).set_ 1 (.slice none 0 0)
  have e0 := o3.cell_ 0 (v := .slice none 0 0) rfl
  have e1 := o3.cell_ 1 (v := .slice none 0 0) rfl
  refine bodyPost_ret (v := .tuple #[.agg #[.slice none 0 0, .slice none 0 0], .bool false]) (by simp [results, Tryz.results164, go_sem, e0, e1]) rfl ⟨_, rfl, _, _, by rw [HA.out], ?_, bS (bS HB2.out (by simp; omega)) (by simp; omega)⟩
  rw [HV.out]
  exact tam_z
 | true =>
 cases h8 : inR r 8 with
 | false =>
  have HA : Hid (mapOK t s p fr r = false) := by show _ = _; unfold mapOK; rw [h8]; simp
  have HV := Hd (mapOK_false HA.out)
  go_wp2_with fail
  refine (sRightsValid_any _ _).mono ?_
  rintro e w' ⟨rfl, rfl⟩
  rw [h8]
  go_wp2
  have o3 := (HR2.out.set_ 0 (.slice none 0 0)).set_ 1 (.slice none 0 0)
  have e0 := o3.cell_ 0 (v := .slice none 0 0) rfl
  have e1 := o3.cell_ 1 (v := .slice none 0 0) rfl
  refine bodyPost_ret (v := .tuple #[.agg #[.slice none 0 0, .slice none 0 0], .bool false]) (by simp [results, Tryz.results164, go_sem, e0, e1]) rfl ⟨_, rfl, _, _, by rw [HA.out], ?_, bS (bS HB2.out (by simp; omega)) (by simp; omega)⟩
  rw [HV.out]
  exact tam_z
 | true =>
 go_wp2_with fail
 refine (sRightsValid_any _ _).mono ?_
 rintro e w' ⟨rfl, rfl⟩
 rw [h8]
 obtain ⟨Af, cf, rfl, hfc, hfm, hF⟩ := HTR.out.f
 obtain ⟨⟨_, hlen, hb1', hlen2⟩, _⟩ := tv_parts h1
 by_cases g1 : fr < 0
 ·have HA : Hid (mapOK t s p fr r = false) := by show _ = _; unfold mapOK; rw [inR_no (show ¬ (0 ≤ fr ∧ fr < t.fs.length) by omega)]; simp
  have HV := Hd (mapOK_false HA.out)
  go_wp2
  have o3 := (HR2.out.set_ 0 (.slice none 0 0)).set_ 1 (.slice none 0 0)
  have e0 := o3.cell_ 0 (v := .slice none 0 0) rfl
  have e1 := o3.cell_ 1 (v := .slice none 0 0) rfl
  refine bodyPost_ret (v := .tuple #[.agg #[.slice none 0 0, .slice none 0 0], .bool false]) (by simp [results, Tryz.results164, go_sem, e0, e1]) rfl ⟨_, rfl, _, _, by rw [HA.out], ?_, bS (bS HB2.out (by simp; omega)) (by simp; omega)⟩
  rw [HV.out]
  exact tam_z
 by_cases g2 : (t.fs.length : Int) ≤ fr
 ·have HA : Hid (mapOK t s p fr r = false) := by show _ = _; unfold mapOK; rw [inR_no (show ¬ (0 ≤ fr ∧ fr < t.fs.length) by omega)]; simp
  have HV := Hd (mapOK_false HA.out)
  go_wp2
  have o3 := (HR2.out.set_ 0 (.slice none 0 0)).set_ 1 (.slice none 0 0)
  have e0 := o3.cell_ 0 (v := .slice none 0 0) rfl
  have e1 := o3.cell_ 1 (v := .slice none 0 0) rfl
  refine bodyPost_ret (v := .tuple #[.agg #[.slice none 0 0, .slice none 0 0], .bool false]) (by simp [results, Tryz.results164, go_sem, e0, e1]) rfl ⟨_, rfl, _, _, by rw [HA.out], ?_, bS (bS HB2.out (by simp; omega)) (by simp; omega)⟩
  rw [HV.out]
  exact tam_z
 obtain ⟨k, rfl⟩ := Int.eq_ofNat_of_zero_le (show 0 ≤ fr by omega)
 have hk : k < t.fs.length := by omega
 have h4 : inR (k : Int) t.fs.length = true := inR_iff.2 (by omega)
 obtain ⟨f, ef⟩ : ∃ f, t.fs[k]? = some f := ⟨_, List.getElem?_eq_getElem hk⟩
 obtain ⟨b4, o4, rfl, hb4, d0, d1, d2, d3, d4⟩ := (hF.now (Nat.le_refl _) HB2.out).fr ef
 clear d1 d2 d3 d4 hF
 cases h7 : f.used with
 | true =>
  rw [h7] at d0
  have HA : Hid (mapOK t s p k r = false) := by show _ = _; unfold mapOK; rw [Int.toNat_natCast, ef]; simp [h7]
  have HV := Hd (mapOK_false HA.out)
  clear ef h4
  go_wp2
  have o3 := (HR2.out.set_ 0 (.slice none 0 0)).set_ 1 (.slice none 0 0)
  have e0 := o3.cell_ 0 (v := .slice none 0 0) rfl
  have e1 := o3.cell_ 1 (v := .slice none 0 0) rfl
  refine bodyPost_ret (v := .tuple #[.agg #[.slice none 0 0, .slice none 0 0], .bool false]) (by simp [results, Tryz.results164, go_sem, e0, e1]) rfl ⟨_, rfl, _, _, by rw [HA.out], ?_, bS (bS HB2.out (by simp; omega)) (by simp; omega)⟩
  rw [HV.out]
  exact tam_z
 | false =>
 rw [h7] at d0
 go_wp2_with fail
 refine (l3Find_any vb _ t s p _ (HTR.out.now HB2.out) h1 h2).mono ?_
 rintro e w3 ⟨stp, rfl, hb3⟩
 have HT3 := Hd (HT2.out.below hb3)
 have HK3 := Hd (HK2.out.below hb3)
 have HR3 := Hd (HR2.out.below hb3)
 have HB3 := Hd (bT HB2.out hb3)
 clear hb3
 have t03 := HT3.out.cell_ 0 rfl
 have t13 := HT3.out.cell_ 1 rfl
 have k03 := HK3.out.cell_ 0 (v := .int .i64 s) rfl
 have k13 := HK3.out.cell_ 1 (v := .int .i64 p) rfl
 have r03 := HR3.out.cell_ 0 (v := .slice none 0 0) rfl
 have r13 := HR3.out.cell_ 1 (v := .slice none 0 0) rfl
 have fr03 := HR3.out.free 0
 have fr13 := HR3.out.free 1
 clear t02 t12 k02 k12
 try clear r02 r12 fr02 fr12
 by_cases h3 : 0 ≤ fndI t.fs s p
 ·have HA : Hid (mapOK t s p k r = false) := by show _ = _; unfold mapOK; rw [h1, h2, decide_eq_true h3]; rfl
  have HV := Hd (mapOK_false HA.out)
  clear ef h4 d0
  go_wp2
  have o3 := (HR3.out.set_ 0 (.slice none 0 0)).set_ 1 (.slice none 0 0)
  have e0 := o3.cell_ 0 (v := .slice none 0 0) rfl
  have e1 := o3.cell_ 1 (v := .slice none 0 0) rfl
  refine bodyPost_ret (v := .tuple #[.agg #[.slice none 0 0, .slice none 0 0], .bool false]) (by simp [results, Tryz.results164, go_sem, e0, e1]) rfl ⟨_, rfl, _, _, by rw [HA.out], ?_, bS (bS HB3.out (by simp; omega)) (by simp; omega)⟩
  rw [HV.out]
  exact tam_z
 have HA : Hid (mapOK t s p k r = true) := by show _ = _; unfold mapOK; rw [h1, h2, decide_eq_false h3, h4, Int.toNat_natCast, ef, h8]; simp [h7]
 have HV : Hid (mapV t s p k r = mapT t s p k r) := by show _ = _; unfold mapV; rw [HA.out]; rfl
 have h3b : fndI t.fs s p < 0 := by omega
 clear ef h4 d0
 go_wp2_with fail
 refine (l3Map_any vb _ t s p k r _ (HTR.out.now HB3.out) h1 h2 hk).mono ?_
 rintro e w4 ⟨_, rfl, v1, v2, rfl, hM4, hb4'⟩
 have hb4 := hb4'
 have hs4 : w.heap.size + 1 + 1 < w3.heap.size := HR3.out.lt
 have HT4 := Hd (HT3.out.below hb4)
 have HK4 := Hd (HK3.out.below hb4)
 have HR4 := Hd (HR3.out.below hb4)
 have HB4 := Hd (bT HB3.out hb4)
 clear hb4
 have t04 := HT4.out.cell_ 0 rfl
 have t14 := HT4.out.cell_ 1 rfl
 have k04 := HK4.out.cell_ 0 (v := .int .i64 s) rfl
 have k14 := HK4.out.cell_ 1 (v := .int .i64 p) rfl
 have r04 := HR4.out.cell_ 0 (v := .slice none 0 0) rfl
 have r14 := HR4.out.cell_ 1 (v := .slice none 0 0) rfl
 have fr04 := HR4.out.free 0
 have fr14 := HR4.out.free 1
 clear t03 t13 k03 k13
 try clear r03 r13 fr03 fr13
 obtain ⟨A1, c1, rfl, _⟩ := hM4.b
 obtain ⟨A2, c2, rfl, _⟩ := hM4.f
 have hbl : (mapT t s p k r).bs.length = t.bs.length := by simp [mapT]
 have hfl : (mapT t s p k r).fs.length = t.fs.length := by simp [mapT]
 rw [hbl, hfl] at hM4 ⊢
 have HM4 := Hd hM4
 have hsz3 := HB3.out.size
 clear hM4 hb4'
 go_wp2
 have o3 := (HR4.out.set_ 0 (.slice A1 t.bs.length c1)).set_ 1 (.slice A2 t.fs.length c2)
 have e0 := o3.cell_ 0 (v := .slice A1 t.bs.length c1) rfl
 have e1 := o3.cell_ 1 (v := .slice A2 t.fs.length c2) rfl
 have M7 := ((HM4.out.far (p := ⟨w.heap.size + 1 + 1, 0, none⟩) (u := .slice A1 t.bs.length c1) hs4).far (p := ⟨w.heap.size + 1 + 1, 1, none⟩) (u := .slice A2 t.fs.length c2) hs4).mono (B' := w.heap.size) hsz3
 refine bodyPost_ret (v := .tuple #[.agg #[.slice A1 t.bs.length c1, .slice A2 t.fs.length c2], .bool true]) (by simp [results, Tryz.results164, go_sem, e0, e1]) rfl ⟨_, rfl, _, _, by rw [HA.out], ?_, bS (bS HB4.out (by simp; omega)) (by simp; omega)⟩
 rw [HV.out]
 exact M7
end Go.Proofs.YtfbnokjdkhcgoaaGreatDoor
