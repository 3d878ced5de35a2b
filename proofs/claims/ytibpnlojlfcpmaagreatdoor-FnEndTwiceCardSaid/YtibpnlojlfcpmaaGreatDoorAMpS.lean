/- A part of the proofs of this seat: MpS, PpS, VicP, VicS. -/
import Derived.Deep.LoopGhost
import Derived.Test.YtibpnlojlfcpmaaGreatDoorAOwn
set_option linter.unusedVariables false
set_option linter.unusedSimpArgs false
set_option maxRecDepth 1000000
namespace Go.Proofs.YtibpnlojlfcpmaaGreatDoor
open Go.RowKit
set_option maxHeartbeats 2000000 in
theorem l3Map_any (vb vf : Value) (t : Tab) (s p : Int) (fr : Nat) (r : Int) (w : World) (hT : TaR w vb vf t) (htv : tv t = true) (hk : kval (s, p) = true) (hf : fr < t.fs.length) :
  Calls Tryz.prog 225 #[.agg #[vb, vf], .agg #[.int .i64 s, .int .i64 p], .int .i64 fr, .int .i64 r] w (Post2 fun v w' => ∃ v1 v2, v = .agg #[v1, v2] ∧ TaM w.heap.size w' v1 v2 (mapT t s p fr r) ∧ Below w.heap.size w w') := by
 obtain ⟨⟨_, hfl, hb1, hbl⟩, _⟩ := tv_parts htv
 obtain ⟨hbk, heq⟩ := bkt_in hk hb1
 have ht0 := ((Own.new_ w 40 #[vb, vf]).alloc (o := .cells #[.int .i64 s, .int .i64 p] 61)).alloc (o := .cells #[.slice none 0 0, .slice none 0 0] 40)
 have hk0 := (Own.new_ (w.alloc (.cells #[vb, vf] 40)) 61 #[.int .i64 s, .int .i64 p]).alloc (o := .cells #[.slice none 0 0, .slice none 0 0] 40)
 have hr0 := Own.new_ ((w.alloc (.cells #[vb, vf] 40)).alloc (.cells #[.int .i64 s, .int .i64 p] 61)) 40 #[.slice none 0 0, .slice none 0 0]
 have hb0 : Below w.heap.size w (((w.alloc (.cells #[vb, vf] 40)).alloc (.cells #[.int .i64 s, .int .i64 p] 61)).alloc (.cells #[.slice none 0 0, .slice none 0 0] 40)) := bA (bA (bA bR))
 rw [show (w.alloc (.cells #[vb, vf] 40)).heap.size = w.heap.size + 1 by simp] at hk0
 rw [show ((w.alloc (.cells #[vb, vf] 40)).alloc (.cells #[.int .i64 s, .int .i64 p] 61)).heap.size = w.heap.size + 1 + 1 by simp] at hr0
 have hs0 : (((w.alloc (.cells #[vb, vf] 40)).alloc (.cells #[.int .i64 s, .int .i64 p] 61)).alloc (.cells #[.slice none 0 0, .slice none 0 0] 40)).heap.size = w.heap.size + 3 := by simp
 generalize hW : ((w.alloc (.cells #[vb, vf] 40)).alloc (.cells #[.int .i64 s, .int .i64 p] 61)).alloc (.cells #[.slice none 0 0, .slice none 0 0] 40) = W0 at ht0 hk0 hr0 hb0 hs0
 have HT0 := Hd ht0
 have HK0 := Hd hk0
 have HR0 := Hd hr0
 have HB0 := Hd hb0
 clear ht0 hk0 hr0 hb0
 have t00 := HT0.out.cell_ 0 (v := vb) rfl
 have t10 := HT0.out.cell_ 1 (v := vf) rfl
 have k00 := HK0.out.cell_ 0 (v := .int .i64 s) rfl
 have k10 := HK0.out.cell_ 1 (v := .int .i64 p) rfl
 have HTR := Hd hT
 clear hT
 go_enter Tryz.func225, Tryz.ntmps225
 go_wp2_with fail
 refine (l3Copy_any vb vf t _ (HTR.out.now HB0.out) (by omega) (by omega)).mono ?_
 rintro e w1 ⟨_, rfl, v1, v2, rfl, hM1, hb1'⟩
 have HS1 : Hid (W0.heap.size ≤ w1.heap.size) := hb1'.size
 have hb1 := hb1'
 have HT1 := Hd (HT0.out.below hb1)
 have HK1 := Hd (HK0.out.below hb1)
 have HR1 := Hd (HR0.out.below hb1)
 have HB1 := Hd (bT HB0.out hb1)
 clear hb1
 have t01 := HT1.out.cell_ 0 rfl
 have t11 := HT1.out.cell_ 1 rfl
 have k01 := HK1.out.cell_ 0 (v := .int .i64 s) rfl
 have k11 := HK1.out.cell_ 1 (v := .int .i64 p) rfl
 have r01 := HR1.out.cell_ 0 (v := .slice none 0 0) rfl
 have r11 := HR1.out.cell_ 1 (v := .slice none 0 0) rfl
 have fr01 := HR1.out.free 0
 have fr11 := HR1.out.free 1
 clear t00 t10 k00 k10
 try clear r00 r10 fr00 fr10
 obtain ⟨Ab, cb, rfl, hbc, hbm, hB⟩ := HTR.out.b
 obtain ⟨g1, c1, g2, c2, rfl, rfl, e1, e2, l1, l2, hne, a1, a2, b1, b2, m1, m2⟩ := hM1.open_ (by omega) (by omega)
 have ho5 := Own.new_ w1 40 #[.slice (some ⟨g1, 0, none⟩) t.bs.length c1, .slice (some ⟨g2, 0, none⟩) t.fs.length c2]
 have hb5 : Below w1.heap.size w1 (w1.alloc (.cells #[.slice (some ⟨g1, 0, none⟩) t.bs.length c1, .slice (some ⟨g2, 0, none⟩) t.fs.length c2] 40)) := bA bR
 generalize hW5 : w1.alloc (.cells #[.slice (some ⟨g1, 0, none⟩) t.bs.length c1, .slice (some ⟨g2, 0, none⟩) t.fs.length c2] 40) = w5 at ho5 hb5
 have M1 := Hd (m1.below hb5)
 have M2 := Hd (m2.below hb5)
 have HT5 := Hd (HT1.out.below hb5)
 have HK5 := Hd (HK1.out.below hb5)
 have HR5 := Hd (HR1.out.below hb5)
 have HB5 := Hd (bT HB1.out hb5)
 clear hb5
 have t05 := HT5.out.cell_ 0 rfl
 have t15 := HT5.out.cell_ 1 rfl
 have k05 := HK5.out.cell_ 0 (v := .int .i64 s) rfl
 have k15 := HK5.out.cell_ 1 (v := .int .i64 p) rfl
 have r05 := HR5.out.cell_ 0 (v := .slice none 0 0) rfl
 have r15 := HR5.out.cell_ 1 (v := .slice none 0 0) rfl
 have fr05 := HR5.out.free 0
 have fr15 := HR5.out.free 1
 clear t01 t11 k01 k11
 try clear r01 r11 fr01 fr11
 have o50 := ho5.cell_ 0 (v := .slice (some ⟨g1, 0, none⟩) t.bs.length c1) rfl
 have o51 := ho5.cell_ 1 (v := .slice (some ⟨g2, 0, none⟩) t.fs.length c2) rfl
 have HO5 := Hd ho5
 clear hM1 ho5 m1 m2 hb1' hB
 go_wp2_with fail
 refine (l2Hash_any s p t.bs.length _ hk ⟨by omega, by omega⟩).mono ?_
 rintro e w6 ⟨rfl, hb6⟩
 rw [heq]
 have O6 := HO5.out.below hb6
 have M16 := M1.out.below hb6
 have M26 := M2.out.below hb6
 have HT6 := Hd (HT5.out.below hb6)
 have HK6 := Hd (HK5.out.below hb6)
 have HR6 := Hd (HR5.out.below hb6)
 have HB6 := Hd (bT HB5.out hb6)
 clear hb6
 have t06 := HT6.out.cell_ 0 rfl
 have t16 := HT6.out.cell_ 1 rfl
 have k06 := HK6.out.cell_ 0 (v := .int .i64 s) rfl
 have k16 := HK6.out.cell_ 1 (v := .int .i64 p) rfl
 have r06 := HR6.out.cell_ 0 (v := .slice none 0 0) rfl
 have r16 := HR6.out.cell_ 1 (v := .slice none 0 0) rfl
 have fr06 := HR6.out.free 0
 have fr16 := HR6.out.free 1
 clear t05 t15 k05 k15
 try clear r05 r15 fr05 fr15
 clear o50 o51
 have hmt : mapT t s p fr r = ⟨t.bs.set (bkt t s p) fr, t.fs.set fr ⟨true, s, p, r, t.bs.getD (bkt t s p) 0⟩⟩ := by
  unfold mapT
  rw [Int.toNat_natCast]
 generalize hbb : bkt t s p = b at *
 obtain ⟨n, en⟩ : ∃ n, t.bs[b]? = some n := ⟨_, List.getElem?_eq_getElem hbk⟩
 rw [List.getD_eq_getElem?_getD, en, Option.getD_some] at hmt
 obtain ⟨b', o', e3, _, d0⟩ := M16.is.i1 en
 injection e3 with e3
 injection e3 with e3 e4
 subst e3 e4
 rw [Nat.zero_add] at d0
 obtain ⟨f, ef⟩ : ∃ f, t.fs[fr]? = some f := ⟨_, List.getElem?_eq_getElem hf⟩
 obtain ⟨b', o', e3, _, y0, y1, y2, y3, y4⟩ := M26.is.fr ef
 injection e3 with e3
 injection e3 with e3 e4
 subst e3 e4
 rw [Nat.zero_add] at y0 y1 y2 y3 y4
 obtain ⟨_, cs1, u1, _, O1, S1⟩ := M16.own (by omega)
 injection u1 with u1
 injection u1 with u1
 subst u1
 obtain ⟨_, cs2, u2, _, O2, S2⟩ := M26.own (by omega)
 injection u2 with u2
 injection u2 with u2
 subst u2
 have z2 := O1.free b
 have z3 := O2.free (fr * 5)
 have z4 := O2.free (fr * 5 + 1)
 have z5 := O2.free (fr * 5 + 2)
 have z6 := O2.free (fr * 5 + 3)
 have z7 := O2.free (fr * 5 + 4)
 have HM1 := Hd M16
 have HM2 := Hd M26
 have HMT := Hd hmt
 have p0 := O6.cell_ 0 (v := .slice (some ⟨g1, 0, none⟩) t.bs.length c1) rfl
 have p1 := O6.cell_ 1 (v := .slice (some ⟨g2, 0, none⟩) t.fs.length c2) rfl
 have HO6 := Hd O6
 have hol := O6.lt
 clear M16 M26 O1 O2 S1 S2 O6 en ef hmt
 have hg1 : w.heap.size + 3 ≤ g1 := by omega
 have hg2 : w.heap.size + 3 ≤ g2 := by omega
 have hw1 : w.heap.size + 3 ≤ w1.heap.size := by have := HS1.out; omega
 go_wp2
 have q1 : g2 ≠ w1.heap.size := by omega
 have q2 : w1.heap.size ≠ g2 := by omega
 have q3 : g2 ≠ w.heap.size + 1 := by omega
 have q4 : w.heap.size + 1 ≠ g2 := by omega
 have q5 : g2 ≠ g1 := fun h => hne h.symm
 go_region_held_law (fun w' => w'.cell? ⟨w1.heap.size, 0, none⟩ = some (.slice (some ⟨g1, 0, none⟩) t.bs.length c1) ∧ w'.cell? ⟨w1.heap.size, 1, none⟩ = some (.slice (some ⟨g2, 0, none⟩) t.fs.length c2) ∧ w'.cell? ⟨w.heap.size + 1, 0, none⟩ = some (.int .i64 s) ∧ w'.cell? ⟨w.heap.size + 1, 1, none⟩ = some (.int .i64 p) ∧ w'.cell? ⟨g1, b, none⟩ = some (.int .i64 n)) (go_keep) (fail)
 all_goals
  clear y0 y1 y2 y3 y4 z3 z4 z5 z6 z7
  have M3 := (HM2.out.wfr hf ⟨true, s, p, r, n⟩).other (p := ⟨g1, b, none⟩) (u := .int .i64 fr) hne
  have M4 := (((((HM1.out.other (p := ⟨g2, fr * 5, none⟩) (u := .bool true) hne.symm).other (p := ⟨g2, fr * 5 + 1, none⟩) (u := .int .i64 s) hne.symm).other (p := ⟨g2, fr * 5 + 2, none⟩) (u := .int .i64 p) hne.symm).other (p := ⟨g2, fr * 5 + 3, none⟩) (u := .int .i64 r) hne.symm).other (p := ⟨g2, fr * 5 + 4, none⟩) (u := .int .i64 n) hne.symm).wint hbk fr
  have HM3 := Hd M3
  have HM4 := Hd M4
  clear M3 M4
  have q6 : g1 ≠ w1.heap.size := by omega
  have q7 : w1.heap.size ≠ g1 := by omega
  have q8 : g1 ≠ w.heap.size + 1 + 1 := by omega
  have q9 : w.heap.size + 1 + 1 ≠ g1 := by omega
  have q10 : g2 ≠ w.heap.size + 1 + 1 := by omega
  have q11 : w.heap.size + 1 + 1 ≠ g2 := by omega
  go_wp2
  have o3 := ((((((((HR6.out.far (p := ⟨g2, fr * 5, none⟩) (u := .bool true) q11).far (p := ⟨g2, fr * 5 + 1, none⟩) (u := .int .i64 s) q11).far (p := ⟨g2, fr * 5 + 2, none⟩) (u := .int .i64 p) q11).far (p := ⟨g2, fr * 5 + 3, none⟩) (u := .int .i64 r) q11).far (p := ⟨g2, fr * 5 + 4, none⟩) (u := .int .i64 n) q11).far (p := ⟨g1, b, none⟩) (u := .int .i64 fr) q9).set_ 0 (.slice (some ⟨g1, 0, none⟩) t.bs.length c1)).set_ 1 (.slice (some ⟨g2, 0, none⟩) t.fs.length c2)).drew
  have e0 := o3.cell_ 0 (v := .slice (some ⟨g1, 0, none⟩) t.bs.length c1) rfl
  have e1 := o3.cell_ 1 (v := .slice (some ⟨g2, 0, none⟩) t.fs.length c2) rfl
  have hlt2 : w.heap.size + 1 + 1 < W0.heap.size := by omega
  have N3 := ((HM3.out.far (p := ⟨w.heap.size + 1 + 1, 0, none⟩) (u := .slice (some ⟨g1, 0, none⟩) t.bs.length c1) hlt2).far (p := ⟨w.heap.size + 1 + 1, 1, none⟩) (u := .slice (some ⟨g2, 0, none⟩) t.fs.length c2) hlt2).mono (B' := w.heap.size) (by omega)
  have N4 := ((HM4.out.far (p := ⟨w.heap.size + 1 + 1, 0, none⟩) (u := .slice (some ⟨g1, 0, none⟩) t.bs.length c1) hlt2).far (p := ⟨w.heap.size + 1 + 1, 1, none⟩) (u := .slice (some ⟨g2, 0, none⟩) t.fs.length c2) hlt2).mono (B' := w.heap.size) (by omega)
  refine bodyPost_ret (v := .agg #[.slice (some ⟨g1, 0, none⟩) t.bs.length c1, .slice (some ⟨g2, 0, none⟩) t.fs.length c2]) (by simp [results, Tryz.results225, go_sem, e0, e1]) rfl ⟨_, rfl, _, _, rfl, ?_, ?_⟩
  ·rw [HMT.out]
   exact ⟨slm_of (by simp) (by simpa using a1) a2 (N4.below (bD bR)), slm_of (by simp) (by simpa using b1) b2 (N3.below (bD bR))⟩
  ·refine bD ?_
   repeat (refine bS ?_ (by simp <;> omega))
   exact HB6.out
set_option maxHeartbeats 2000000 in
theorem sMapPage_any (vb vf : Value) (t : Tab) (s p fr r : Int) (w : World) (hT : TaR w vb vf t) :
  Calls Tryz.prog 174 #[.agg #[vb, vf], .agg #[.int .i64 s, .int .i64 p], .int .i64 fr, .int .i64 r] w (Post2 fun v w' => ∃ v1 v2, v = .tuple #[.agg #[v1, v2], .bool (mapOK t s p fr r)] ∧ TaM w.heap.size w' v1 v2 (mapV t s p fr r) ∧ Below w.heap.size w w') := by
 have ht0 := ((Own.new_ w 40 #[vb, vf]).alloc (o := .cells #[.int .i64 s, .int .i64 p] 61)).alloc (o := .cells #[.slice none 0 0, .slice none 0 0] 40)
 have hk0 := (Own.new_ (w.alloc (.cells #[vb, vf] 40)) 61 #[.int .i64 s, .int .i64 p]).alloc (o := .cells #[.slice none 0 0, .slice none 0 0] 40)
 have hr0 := Own.new_ ((w.alloc (.cells #[vb, vf] 40)).alloc (.cells #[.int .i64 s, .int .i64 p] 61)) 40 #[.slice none 0 0, .slice none 0 0]
 have hb0 : Below w.heap.size w (((w.alloc (.cells #[vb, vf] 40)).alloc (.cells #[.int .i64 s, .int .i64 p] 61)).alloc (.cells #[.slice none 0 0, .slice none 0 0] 40)) := bA (bA (bA bR))
 rw [show (w.alloc (.cells #[vb, vf] 40)).heap.size = w.heap.size + 1 by simp] at hk0
 rw [show ((w.alloc (.cells #[vb, vf] 40)).alloc (.cells #[.int .i64 s, .int .i64 p] 61)).heap.size = w.heap.size + 1 + 1 by simp] at hr0
 have hs0 : (((w.alloc (.cells #[vb, vf] 40)).alloc (.cells #[.int .i64 s, .int .i64 p] 61)).alloc (.cells #[.slice none 0 0, .slice none 0 0] 40)).heap.size = w.heap.size + 3 := by simp
 generalize hW : ((w.alloc (.cells #[vb, vf] 40)).alloc (.cells #[.int .i64 s, .int .i64 p] 61)).alloc (.cells #[.slice none 0 0, .slice none 0 0] 40) = W0 at ht0 hk0 hr0 hb0 hs0
 have HT0 := Hd ht0
 have HK0 := Hd hk0
 have HR0 := Hd hr0
 have HB0 := Hd hb0
 clear ht0 hk0 hr0 hb0
 have t00 := HT0.out.cell_ 0 (v := vb) rfl
 have t10 := HT0.out.cell_ 1 (v := vf) rfl
 have k00 := HK0.out.cell_ 0 (v := .int .i64 s) rfl
 have k10 := HK0.out.cell_ 1 (v := .int .i64 p) rfl
 have HTR := Hd hT
 clear hT
 go_enter Tryz.func174, Tryz.ntmps174
 go_wp2_with fail
 refine (sTableValid_any vb vf t _ (HTR.out.now HB0.out)).mono ?_
 rintro e w1 ⟨rfl, hb1⟩
 have HT1 := Hd (HT0.out.below hb1)
 have HK1 := Hd (HK0.out.below hb1)
 have HR1 := Hd (HR0.out.below hb1)
 have HB1 := Hd (bT HB0.out hb1)
 clear hb1
 have t01 := HT1.out.cell_ 0 rfl
 have t11 := HT1.out.cell_ 1 rfl
 have k01 := HK1.out.cell_ 0 (v := .int .i64 s) rfl
 have k11 := HK1.out.cell_ 1 (v := .int .i64 p) rfl
 have r01 := HR1.out.cell_ 0 (v := .slice none 0 0) rfl
 have r11 := HR1.out.cell_ 1 (v := .slice none 0 0) rfl
 have fr01 := HR1.out.free 0
 have fr11 := HR1.out.free 1
 clear t00 t10 k00 k10
 try clear r00 r10 fr00 fr10
 cases h1 : tv t with
 | false =>
  have HA : Hid (mapOK t s p fr r = false) := by show _ = _; unfold mapOK; rw [h1]; rfl
  have HV := Hd (mapOK_false HA.out)
  go_wp2
  have o3 := (HR1.out.set_ 0 (.slice none 0 0)).set_ 1 (.slice none 0 0)
  have e0 := o3.cell_ 0 (v := .slice none 0 0) rfl
  have e1 := o3.cell_ 1 (v := .slice none 0 0) rfl
  refine bodyPost_ret (v := .tuple #[.agg #[.slice none 0 0, .slice none 0 0], .bool false]) (by simp [results, Tryz.results174, go_sem, e0, e1]) rfl ⟨_, rfl, _, _, by rw [HA.out], ?_, bS (bS HB1.out (by simp; omega)) (by simp; omega)⟩
  rw [HV.out]
  exact tam_z
 | true =>
 go_wp2_with fail
 refine (sKeyValid_any _ _ _).mono ?_
 rintro e w2 ⟨rfl, hb2⟩
 have HT2 := Hd (HT1.out.below hb2)
 have HK2 := Hd (HK1.out.below hb2)
 have HR2 := Hd (HR1.out.below hb2)
 have HB2 := Hd (bT HB1.out hb2)
 clear hb2
 have t02 := HT2.out.cell_ 0 rfl
 have t12 := HT2.out.cell_ 1 rfl
 have k02 := HK2.out.cell_ 0 (v := .int .i64 s) rfl
 have k12 := HK2.out.cell_ 1 (v := .int .i64 p) rfl
 have r02 := HR2.out.cell_ 0 (v := .slice none 0 0) rfl
 have r12 := HR2.out.cell_ 1 (v := .slice none 0 0) rfl
 have fr02 := HR2.out.free 0
 have fr12 := HR2.out.free 1
 clear t01 t11 k01 k11
 try clear r01 r11 fr01 fr11
 cases h2 : kval (s, p) with
 | false =>
  have HA : Hid (mapOK t s p fr r = false) := by show _ = _; unfold mapOK; rw [h1, h2]; rfl
  have HV := Hd (mapOK_false HA.out)
  go_wp2
  have o3 := (HR2.out.set_ 0 (.slice none 0 0)).set_ 1 (.slice none 0 0)
  have e0 := o3.cell_ 0 (v := .slice none 0 0) rfl
  have e1 := o3.cell_ 1 (v := .slice none 0 0) rfl
  refine bodyPost_ret (v := .tuple #[.agg #[.slice none 0 0, .slice none 0 0], .bool false]) (by simp [results, Tryz.results174, go_sem, e0, e1]) rfl ⟨_, rfl, _, _, by rw [HA.out], ?_, bS (bS HB2.out (by simp; omega)) (by simp; omega)⟩
  rw [HV.out]
  exact tam_z
 | true =>
 cases h8 : inR r 8 with
 | false =>
  have HA : Hid (mapOK t s p fr r = false) := by show _ = _; unfold mapOK; rw [h8]; simp
  have HV := Hd (mapOK_false HA.out)
  go_wp2_with fail
  refine (sRightsValid_any _ _).mono ?_
  rintro e w' ⟨rfl, rfl⟩
  rw [h8]
  go_wp2
  have o3 := (HR2.out.set_ 0 (.slice none 0 0)).set_ 1 (.slice none 0 0)
  have e0 := o3.cell_ 0 (v := .slice none 0 0) rfl
  have e1 := o3.cell_ 1 (v := .slice none 0 0) rfl
  refine bodyPost_ret (v := .tuple #[.agg #[.slice none 0 0, .slice none 0 0], .bool false]) (by simp [results, Tryz.results174, go_sem, e0, e1]) rfl ⟨_, rfl, _, _, by rw [HA.out], ?_, bS (bS HB2.out (by simp; omega)) (by simp; omega)⟩
  rw [HV.out]
  exact tam_z
 | true =>
 go_wp2_with fail
 refine (sRightsValid_any _ _).mono ?_
 rintro e w' ⟨rfl, rfl⟩
 rw [h8]
 obtain ⟨Af, cf, rfl, hfc, hfm, hF⟩ := HTR.out.f
 obtain ⟨⟨_, hlen, hb1', hlen2⟩, _⟩ := tv_parts h1
 by_cases g1 : fr < 0
 ·have HA : Hid (mapOK t s p fr r = false) := by show _ = _; unfold mapOK; rw [inR_no (show ¬ (0 ≤ fr ∧ fr < t.fs.length) by omega)]; simp
  have HV := Hd (mapOK_false HA.out)
  go_wp2
  have o3 := (HR2.out.set_ 0 (.slice none 0 0)).set_ 1 (.slice none 0 0)
  have e0 := o3.cell_ 0 (v := .slice none 0 0) rfl
  have e1 := o3.cell_ 1 (v := .slice none 0 0) rfl
  refine bodyPost_ret (v := .tuple #[.agg #[.slice none 0 0, .slice none 0 0], .bool false]) (by simp [results, Tryz.results174, go_sem, e0, e1]) rfl ⟨_, rfl, _, _, by rw [HA.out], ?_, bS (bS HB2.out (by simp; omega)) (by simp; omega)⟩
  rw [HV.out]
  exact tam_z
 by_cases g2 : (t.fs.length : Int) ≤ fr
 ·have HA : Hid (mapOK t s p fr r = false) := by show _ = _; unfold mapOK; rw [inR_no (show ¬ (0 ≤ fr ∧ fr < t.fs.length) by omega)]; simp
  have HV := Hd (mapOK_false HA.out)
  go_wp2
  have o3 := (HR2.out.set_ 0 (.slice none 0 0)).set_ 1 (.slice none 0 0)
  have e0 := o3.cell_ 0 (v := .slice none 0 0) rfl
  have e1 := o3.cell_ 1 (v := .slice none 0 0) rfl
  refine bodyPost_ret (v := .tuple #[.agg #[.slice none 0 0, .slice none 0 0], .bool false]) (by simp [results, Tryz.results174, go_sem, e0, e1]) rfl ⟨_, rfl, _, _, by rw [HA.out], ?_, bS (bS HB2.out (by simp; omega)) (by simp; omega)⟩
  rw [HV.out]
  exact tam_z
 obtain ⟨k, rfl⟩ := Int.eq_ofNat_of_zero_le (show 0 ≤ fr by omega)
 have hk : k < t.fs.length := by omega
 have h4 : inR (k : Int) t.fs.length = true := inR_iff.2 (by omega)
 obtain ⟨f, ef⟩ : ∃ f, t.fs[k]? = some f := ⟨_, List.getElem?_eq_getElem hk⟩
 obtain ⟨b4, o4, rfl, hb4, d0, d1, d2, d3, d4⟩ := (hF.now (Nat.le_refl _) HB2.out).fr ef
 clear d1 d2 d3 d4 hF
 cases h7 : f.used with
 | true =>
  rw [h7] at d0
  have HA : Hid (mapOK t s p k r = false) := by show _ = _; unfold mapOK; rw [Int.toNat_natCast, ef]; simp [h7]
  have HV := Hd (mapOK_false HA.out)
  clear ef h4
  go_wp2
  have o3 := (HR2.out.set_ 0 (.slice none 0 0)).set_ 1 (.slice none 0 0)
  have e0 := o3.cell_ 0 (v := .slice none 0 0) rfl
  have e1 := o3.cell_ 1 (v := .slice none 0 0) rfl
  refine bodyPost_ret (v := .tuple #[.agg #[.slice none 0 0, .slice none 0 0], .bool false]) (by simp [results, Tryz.results174, go_sem, e0, e1]) rfl ⟨_, rfl, _, _, by rw [HA.out], ?_, bS (bS HB2.out (by simp; omega)) (by simp; omega)⟩
  rw [HV.out]
  exact tam_z
 | false =>
 rw [h7] at d0
 go_wp2_with fail
 refine (l3Find_any vb _ t s p _ (HTR.out.now HB2.out) h1 h2).mono ?_
 rintro e w3 ⟨stp, rfl, hb3⟩
 have HT3 := Hd (HT2.out.below hb3)
 have HK3 := Hd (HK2.out.below hb3)
 have HR3 := Hd (HR2.out.below hb3)
 have HB3 := Hd (bT HB2.out hb3)
 clear hb3
 have t03 := HT3.out.cell_ 0 rfl
 have t13 := HT3.out.cell_ 1 rfl
 have k03 := HK3.out.cell_ 0 (v := .int .i64 s) rfl
 have k13 := HK3.out.cell_ 1 (v := .int .i64 p) rfl
 have r03 := HR3.out.cell_ 0 (v := .slice none 0 0) rfl
 have r13 := HR3.out.cell_ 1 (v := .slice none 0 0) rfl
 have fr03 := HR3.out.free 0
 have fr13 := HR3.out.free 1
 clear t02 t12 k02 k12
 try clear r02 r12 fr02 fr12
 by_cases h3 : 0 ≤ fndI t.fs s p
 ·have HA : Hid (mapOK t s p k r = false) := by show _ = _; unfold mapOK; rw [h1, h2, decide_eq_true h3]; rfl
  have HV := Hd (mapOK_false HA.out)
  clear ef h4 d0
  go_wp2
  have o3 := (HR3.out.set_ 0 (.slice none 0 0)).set_ 1 (.slice none 0 0)
  have e0 := o3.cell_ 0 (v := .slice none 0 0) rfl
  have e1 := o3.cell_ 1 (v := .slice none 0 0) rfl
  refine bodyPost_ret (v := .tuple #[.agg #[.slice none 0 0, .slice none 0 0], .bool false]) (by simp [results, Tryz.results174, go_sem, e0, e1]) rfl ⟨_, rfl, _, _, by rw [HA.out], ?_, bS (bS HB3.out (by simp; omega)) (by simp; omega)⟩
  rw [HV.out]
  exact tam_z
 have HA : Hid (mapOK t s p k r = true) := by show _ = _; unfold mapOK; rw [h1, h2, decide_eq_false h3, h4, Int.toNat_natCast, ef, h8]; simp [h7]
 have HV : Hid (mapV t s p k r = mapT t s p k r) := by show _ = _; unfold mapV; rw [HA.out]; rfl
 have h3b : fndI t.fs s p < 0 := by omega
 clear ef h4 d0
 go_wp2_with fail
 refine (l3Map_any vb _ t s p k r _ (HTR.out.now HB3.out) h1 h2 hk).mono ?_
 rintro e w4 ⟨_, rfl, v1, v2, rfl, hM4, hb4'⟩
 have hb4 := hb4'
 have hs4 : w.heap.size + 1 + 1 < w3.heap.size := HR3.out.lt
 have HT4 := Hd (HT3.out.below hb4)
 have HK4 := Hd (HK3.out.below hb4)
 have HR4 := Hd (HR3.out.below hb4)
 have HB4 := Hd (bT HB3.out hb4)
 clear hb4
 have t04 := HT4.out.cell_ 0 rfl
 have t14 := HT4.out.cell_ 1 rfl
 have k04 := HK4.out.cell_ 0 (v := .int .i64 s) rfl
 have k14 := HK4.out.cell_ 1 (v := .int .i64 p) rfl
 have r04 := HR4.out.cell_ 0 (v := .slice none 0 0) rfl
 have r14 := HR4.out.cell_ 1 (v := .slice none 0 0) rfl
 have fr04 := HR4.out.free 0
 have fr14 := HR4.out.free 1
 clear t03 t13 k03 k13
 try clear r03 r13 fr03 fr13
 obtain ⟨A1, c1, rfl, _⟩ := hM4.b
 obtain ⟨A2, c2, rfl, _⟩ := hM4.f
 have hbl : (mapT t s p k r).bs.length = t.bs.length := by simp [mapT]
 have hfl : (mapT t s p k r).fs.length = t.fs.length := by simp [mapT]
 rw [hbl, hfl] at hM4 ⊢
 have HM4 := Hd hM4
 have hsz3 := HB3.out.size
 clear hM4 hb4'
 go_wp2
 have o3 := (HR4.out.set_ 0 (.slice A1 t.bs.length c1)).set_ 1 (.slice A2 t.fs.length c2)
 have e0 := o3.cell_ 0 (v := .slice A1 t.bs.length c1) rfl
 have e1 := o3.cell_ 1 (v := .slice A2 t.fs.length c2) rfl
 have M7 := ((HM4.out.far (p := ⟨w.heap.size + 1 + 1, 0, none⟩) (u := .slice A1 t.bs.length c1) hs4).far (p := ⟨w.heap.size + 1 + 1, 1, none⟩) (u := .slice A2 t.fs.length c2) hs4).mono (B' := w.heap.size) hsz3
 refine bodyPost_ret (v := .tuple #[.agg #[.slice A1 t.bs.length c1, .slice A2 t.fs.length c2], .bool true]) (by simp [results, Tryz.results174, go_sem, e0, e1]) rfl ⟨_, rfl, _, _, by rw [HA.out], ?_, bS (bS HB4.out (by simp; omega)) (by simp; omega)⟩
 rw [HV.out]
 exact M7
set_option maxHeartbeats 1000000 in
theorem l6Shared_any (s p : Int) (w : World) : Calls Tryz.prog 173 #[.agg #[.int .i64 s, .int .i64 p]] w fun r w' => r = .returned (.bool (kval (s, p) && decide (keyI s p = s))) ∧ Below w.heap.size w w' := by
 have hbx := Own.new_ w 61 #[.int .i64 s, .int .i64 p]
 have hb0 : Below w.heap.size w (w.alloc (.cells #[.int .i64 s, .int .i64 p] 61)) := bA bR
 generalize hW : w.alloc (.cells #[.int .i64 s, .int .i64 p] 61) = W0 at hbx hb0
 have y0 := xcell (hbx.cell_ 0 (v := .int .i64 s) rfl) hbx.lt
 have y1 := xcell (hbx.cell_ 1 (v := .int .i64 p) rfl) hbx.lt
 have HKV := Hd (sKeyValid_any s p)
 have HKF := Hd (sKeyFor_any s p)
 have he := fun W => eql_key (keyI s p) p s p W
 clear hbx
 cases h1 : kval (s, p) with
 | false =>
  rw [h1] at HKV
  go_enter Tryz.func173, Tryz.ntmps173
  go_wp2
  refine wp_region_ext (by kernel_rfl) (by kernel_rfl) ?_
  repeat (go_big_quiet_step ((go_at_call 224; exact ext_call (HKV.out _))))
  refine wpQuiet_nil ?_
  intro _ hw'
  obtain ⟨⟨wq, hq⟩, hw''⟩ := hw'
  subst hw''
  try dsimp only
  go_wp2
  go_ret
  exact ⟨rfl, bT hb0 hq⟩
 | true =>
  rw [h1] at HKV
  by_cases h2 : keyI s p = s
  ·have hkq : keq (keyI s p) p s p = true := by unfold keq; rw [h2]; simp
   rw [hkq] at he
   have HD : Hid (decide (keyI s p = s) = true) := decide_eq_true h2
   generalize hk : keyI s p = ks at *
   go_enter Tryz.func173, Tryz.ntmps173
   go_wp2
   refine wp_region_ext (by kernel_rfl) (by kernel_rfl) ?_
   repeat (go_big_quiet_step ((first | (go_at_call 224; exact ext_call (HKV.out _)) | (go_at_call 96; exact ext_call (HKF.out _)))))
   refine wpQuiet_nil ?_
   intro _ hw'
   obtain ⟨⟨wq, hq⟩, hw''⟩ := hw'
   subst hw''
   try dsimp only
   go_wp2
   go_ret
   exact ⟨by rw [HD.out]; rfl, bT hb0 hq⟩
  ·have hkq : keq (keyI s p) p s p = false := by unfold keq; simp [h2]
   rw [hkq] at he
   have HD : Hid (decide (keyI s p = s) = false) := decide_eq_false h2
   generalize hk : keyI s p = ks at *
   go_enter Tryz.func173, Tryz.ntmps173
   go_wp2
   refine wp_region_ext (by kernel_rfl) (by kernel_rfl) ?_
   repeat (go_big_quiet_step ((first | (go_at_call 224; exact ext_call (HKV.out _)) | (go_at_call 96; exact ext_call (HKF.out _)))))
   refine wpQuiet_nil ?_
   intro _ hw'
   obtain ⟨⟨wq, hq⟩, hw''⟩ := hw'
   subst hw''
   try dsimp only
   go_wp2
   go_ret
   exact ⟨by rw [HD.out]; rfl, bT hb0 hq⟩
set_option maxHeartbeats 2000000 in
theorem sPutPage_any (vb vf vl vo : Value) (m : Ma) (s p fr r : Int) (w : World) (hM : MaR w vb vf vl vo m) :
  Calls Tryz.prog 100 #[.agg #[vb, vf, vl, .int .i64 m.c.hand, .int .i64 m.g.count, .int .i64 m.g.next, .int .i64 m.g.round, vo, .int .i64 m.sp], .agg #[.int .i64 s, .int .i64 p], .int .i64 fr, .int .i64 r] w (Post2 fun v w' => ∃ v1 v2 v3 v4, v = .tuple #[.agg #[v1, v2, v3, .int .i64 (putV m s p fr r).c.hand, .int .i64 (putV m s p fr r).g.count, .int .i64 (putV m s p fr r).g.next, .int .i64 (putV m s p fr r).g.round, v4, .int .i64 (putV m s p fr r).sp], .bool (putOK m s p fr r)] ∧ MaM w.heap.size w' v1 v2 v3 v4 (putV m s p fr r) ∧ Below w.heap.size w w') := by
 obtain ⟨W0, hW, hbx, hbk, hbo, hb0, hs0⟩ := box3 w #[vb, vf, vl, .int .i64 m.c.hand, .int .i64 m.g.count, .int .i64 m.g.next, .int .i64 m.g.round, vo, .int .i64 m.sp] 48 #[.int .i64 s, .int .i64 p] 61 #[.slice none 0 0, .slice none 0 0, .slice none 0 0, .int .i64 0, .int .i64 0, .int .i64 0, .int .i64 0, .slice none 0 0, .int .i64 0] 48
 have HX0 := Hd hbx
 have HK0 := Hd hbk
 have HR0 := Hd hbo
 have HB0 := Hd hb0
 have HS0 : Hid (w.heap.size + 3 ≤ W0.heap.size) := Nat.le_of_eq hs0.symm
 clear hbx hbk hbo hb0
 have HM := Hd hM
 clear hM
 obtain ⟨m00, m10, m20, m30, m40, m50, m60, m70, m80⟩ := cells9 HX0.out
 go_enter Tryz.func100, Tryz.ntmps100
 go_wp2_with fail
 refine (sMachineValid_any vb vf vl vo m _ (HM.out.now HB0.out)).mono ?_
 rintro e w7 ⟨rfl, hb7⟩
 have HX7 := Hd (HX0.out.below hb7)
 have HK7 := Hd (HK0.out.below hb7)
 have HR7 := Hd (HR0.out.below hb7)
 have HB7 := Hd (bT HB0.out hb7)
 have HS7 := Hd (Nat.le_trans HS0.out hb7.size)
 clear hb7
 clear m00 m10 m20 m30 m40 m50 m60 m70 m80
 cases h1 : mav m with
 | false =>
  have HA : Hid (putOK m s p fr r = false) := by show _ = _; unfold putOK; rw [h1]; rfl
  have HV := Hd (putOK_false HA.out)
  obtain ⟨r0x, r1x, r2x, r3x, r4x, r5x, r6x, r7x, r8x⟩ := cells9 HR7.out
  obtain ⟨z0x, z1x, z2x, z3x, z4x, z5x, z6x, z7x, z8x⟩ := free9 HR7.out
  go_wp2
  obtain ⟨t0, t1, t2, t3, t4, t5, t6, t7, t8⟩ := cells9 (set9z HR7.out)
  refine bodyPost_ret (v := .tuple #[.agg #[.slice none 0 0, .slice none 0 0, .slice none 0 0, .int .i64 0, .int .i64 0, .int .i64 0, .int .i64 0, .slice none 0 0, .int .i64 0], .bool false]) (by simp [results, Tryz.results100, go_sem, t0, t1, t2, t3, t4, t5, t6, t7, t8]) rfl ⟨_, rfl, _, _, _, _, by rw [HA.out, HV.out]; rfl, by rw [HV.out]; exact mam_z, ?_⟩
  repeat (refine bS ?_ (by simp <;> omega))
  exact HB7.out
 | true =>
  have k07 := HK7.out.cell_ 0 (v := .int .i64 s) rfl
  have k17 := HK7.out.cell_ 1 (v := .int .i64 p) rfl
  go_wp2_with fail
  refine (l6Shared_any s p _).mono ?_
  rintro e w1 ⟨rfl, hb1⟩
  have HX1 := Hd (HX7.out.below hb1)
  have HK1 := Hd (HK7.out.below hb1)
  have HR1 := Hd (HR7.out.below hb1)
  have HB1 := Hd (bT HB7.out hb1)
  have HS1 := Hd (Nat.le_trans HS7.out hb1.size)
  clear hb1
  clear k07 k17
  cases h2 : (kval (s, p) && decide (keyI s p = s)) with
  | false =>
   have HA : Hid (putOK m s p fr r = false) := by
    show _ = _
    unfold putOK mapOK
    rw [Bool.and_eq_false_iff] at h2
    rcases h2 with h2 | h2
    ·rw [h2]; simp
    ·rw [h2]; simp
   have HV := Hd (putOK_false HA.out)
   obtain ⟨r0x, r1x, r2x, r3x, r4x, r5x, r6x, r7x, r8x⟩ := cells9 HR1.out
   obtain ⟨z0x, z1x, z2x, z3x, z4x, z5x, z6x, z7x, z8x⟩ := free9 HR1.out
   go_wp2
   obtain ⟨t0, t1, t2, t3, t4, t5, t6, t7, t8⟩ := cells9 (set9z HR1.out)
   refine bodyPost_ret (v := .tuple #[.agg #[.slice none 0 0, .slice none 0 0, .slice none 0 0, .int .i64 0, .int .i64 0, .int .i64 0, .int .i64 0, .slice none 0 0, .int .i64 0], .bool false]) (by simp [results, Tryz.results100, go_sem, t0, t1, t2, t3, t4, t5, t6, t7, t8]) rfl ⟨_, rfl, _, _, _, _, by rw [HA.out, HV.out]; rfl, by rw [HV.out]; exact mam_z, ?_⟩
   repeat (refine bS ?_ (by simp <;> omega))
   exact HB1.out
  | true =>
   rw [Bool.and_eq_true, decide_eq_true_eq] at h2
   replace h2 := h2.2
   obtain ⟨a1, a2, a3, a4⟩ := mav_len h1
   obtain ⟨m01, m11, m21, m31, m41, m51, m61, m71, m81⟩ := cells9 HX1.out
   have k01 := HK1.out.cell_ 0 (v := .int .i64 s) rfl
   have k11 := HK1.out.cell_ 1 (v := .int .i64 p) rfl
   go_wp2_with fail
   refine (sMapPage_any vb vf m.t s p fr r _ (HM.out.t.now HB1.out)).mono ?_
   rintro e w2 ⟨_, rfl, v1, v2, rfl, hT2, hb2⟩
   obtain ⟨A1, c1, rfl, _⟩ := hT2.b
   obtain ⟨A2, c2, rfl, _⟩ := hT2.f
   have hs1 := HS1.out
   have HX2 := Hd (HX1.out.below hb2)
   have HK2 := Hd (HK1.out.below hb2)
   have HR2 := Hd (HR1.out.below hb2)
   have HB2 := Hd (bT HB1.out hb2)
   have HS2 := Hd (Nat.le_trans HS1.out hb2.size)
   clear hb2
   clear m01 m11 m21 m31 m41 m51 m61 m71 m81
   clear k01 k11
   have ho5 := Own.new_ w2 40 #[.slice A1 (mapV m.t s p fr r).bs.length c1, .slice A2 (mapV m.t s p fr r).fs.length c2]
   have hb5 : Below w2.heap.size w2 (w2.alloc (.cells #[.slice A1 (mapV m.t s p fr r).bs.length c1, .slice A2 (mapV m.t s p fr r).fs.length c2] 40)) := bA bR
   generalize hW5 : w2.alloc (.cells #[.slice A1 (mapV m.t s p fr r).bs.length c1, .slice A2 (mapV m.t s p fr r).fs.length c2] 40) = w5 at ho5 hb5
   have HT5 := Hd ((hT2.now hb5).mono hs1)
   clear hT2
   have HX5 := Hd (HX2.out.below hb5)
   have HK5 := Hd (HK2.out.below hb5)
   have HR5 := Hd (HR2.out.below hb5)
   have HB5 := Hd (bT HB2.out hb5)
   have HS5 := Hd (Nat.le_trans HS2.out hb5.size)
   clear hb5
   cases h3 : mapOK m.t s p fr r with
   | false =>
    have HA : Hid (putOK m s p fr r = false) := by show _ = _; unfold putOK; rw [h3]; simp
    have HV := Hd (putOK_false HA.out)
    clear ho5
    obtain ⟨r0x, r1x, r2x, r3x, r4x, r5x, r6x, r7x, r8x⟩ := cells9 HR5.out
    obtain ⟨z0x, z1x, z2x, z3x, z4x, z5x, z6x, z7x, z8x⟩ := free9 HR5.out
    go_wp2
    obtain ⟨t0, t1, t2, t3, t4, t5, t6, t7, t8⟩ := cells9 (set9z HR5.out)
    refine bodyPost_ret (v := .tuple #[.agg #[.slice none 0 0, .slice none 0 0, .slice none 0 0, .int .i64 0, .int .i64 0, .int .i64 0, .int .i64 0, .slice none 0 0, .int .i64 0], .bool false]) (by simp [results, Tryz.results100, go_sem, t0, t1, t2, t3, t4, t5, t6, t7, t8]) rfl ⟨_, rfl, _, _, _, _, by rw [HA.out, HV.out]; rfl, by rw [HV.out]; exact mam_z, ?_⟩
    repeat (refine bS ?_ (by simp <;> omega))
    exact HB5.out
   | true =>
    have HA : Hid (putOK m s p fr r = true) := by show _ = _; unfold putOK; rw [h1, h3, decide_eq_true h2]; rfl
    have HV : Hid (putV m s p fr r = { m with t := mapV m.t s p fr r }) := by show _ = _; unfold putV; rw [HA.out]; rfl
    obtain ⟨m05, m15, m25, m35, m45, m55, m65, m75, m85⟩ := cells9 HX5.out
    go_wp2_with fail
    refine (l6Copy_any vb vf vl vo m _ (HM.out.now HB5.out) a1 a2 a3 a4).mono ?_
    rintro e w3 ⟨_, rfl, q1, q2, q3, q4, rfl, hM3, hb3⟩
    have hs2 := HS5.out
    have HT3 := Hd (HT5.out.now hb3)
    have HM3 := Hd (hM3.mono hs2)
    have ho3 := ho5.below hb3
    have u0 := ho3.cell_ 0 (v := .slice A1 (mapV m.t s p fr r).bs.length c1) rfl
    have u1 := ho3.cell_ 1 (v := .slice A2 (mapV m.t s p fr r).fs.length c2) rfl
    have hl5 := ho3.lt
    obtain ⟨B1, d1, rfl, _⟩ := HM3.out.t.b
    obtain ⟨B2, d2, rfl, _⟩ := HM3.out.t.f
    obtain ⟨B3, d3, rfl, _⟩ := HM3.out.l
    obtain ⟨B4, d4, rfl, _⟩ := HM3.out.o
    clear hM3 ho3 ho5
    have HX3 := Hd (HX5.out.below hb3)
    have HK3 := Hd (HK5.out.below hb3)
    have HR3 := Hd (HR5.out.below hb3)
    have HB3 := Hd (bT HB5.out hb3)
    have HS3 := Hd (Nat.le_trans HS5.out hb3.size)
    clear hb3
    clear m05 m15 m25 m35 m45 m55 m65 m75 m85
    obtain ⟨r0x, r1x, r2x, r3x, r4x, r5x, r6x, r7x, r8x⟩ := cells9 HR3.out
    obtain ⟨z0x, z1x, z2x, z3x, z4x, z5x, z6x, z7x, z8x⟩ := free9 HR3.out
    have hl3 := HR3.out.lt
    go_wp2
    have o3 := (((((((((HR3.out.set_ 0 (.slice A1 (mapV m.t s p fr r).bs.length c1)).set_ 1 (.slice A2 (mapV m.t s p fr r).fs.length c2)).set_ 2 (.slice B3 m.c.ls.length d3)).set_ 3 (.int .i64 m.c.hand)).set_ 4 (.int .i64 m.g.count)).set_ 5 (.int .i64 m.g.next)).set_ 6 (.int .i64 m.g.round)).set_ 7 (.slice B4 m.g.os.length d4)).set_ 8 (.int .i64 m.sp))
    have o4 := o3.alloc (o := .cells #[.slice A1 (mapV m.t s p fr r).bs.length c1, .slice A2 (mapV m.t s p fr r).fs.length c2, .slice B3 m.c.ls.length d3, .int .i64 m.c.hand, .int .i64 m.g.count, .int .i64 m.g.next, .int .i64 m.g.round, .slice B4 m.g.os.length d4, .int .i64 m.sp] 48)
    have v0 := o4.cell_ 0 (v := .slice A1 (mapV m.t s p fr r).bs.length c1) (by simp)
    have v1 := o4.cell_ 1 (v := .slice A2 (mapV m.t s p fr r).fs.length c2) (by simp)
    have v2 := o4.cell_ 2 (v := .slice B3 m.c.ls.length d3) (by simp)
    have v3 := o4.cell_ 3 (v := .int .i64 m.c.hand) (by simp)
    have v4 := o4.cell_ 4 (v := .int .i64 m.g.count) (by simp)
    have v5 := o4.cell_ 5 (v := .int .i64 m.g.next) (by simp)
    have v6 := o4.cell_ 6 (v := .int .i64 m.g.round) (by simp)
    have v7 := o4.cell_ 7 (v := .slice B4 m.g.os.length d4) (by simp)
    have v8 := o4.cell_ 8 (v := .int .i64 m.sp) (by simp)
    refine bodyPost_ret (v := .tuple #[.agg #[.slice A1 (mapV m.t s p fr r).bs.length c1, .slice A2 (mapV m.t s p fr r).fs.length c2, .slice B3 m.c.ls.length d3, .int .i64 m.c.hand, .int .i64 m.g.count, .int .i64 m.g.next, .int .i64 m.g.round, .slice B4 m.g.os.length d4, .int .i64 m.sp], .bool true]) (by simp [results, Tryz.results100, go_sem, v0, v1, v2, v3, v4, v5, v6, v7, v8]) rfl ⟨_, rfl, _, _, _, _, by rw [HA.out, HV.out], ?_, ?_⟩
    ·rw [HV.out]
     have hmm : MaM (w.heap.size + 3) w3 (.slice A1 (mapV m.t s p fr r).bs.length c1) (.slice A2 (mapV m.t s p fr r).fs.length c2) (.slice B3 m.c.ls.length d3) (.slice B4 m.g.os.length d4) { m with t := mapV m.t s p fr r } := ⟨HT3.out, HM3.out.l, HM3.out.o⟩
     refine MaM.mono (B := w.heap.size + 3) (MaM.now ?_ (bA bR)) (by omega)
     repeat (refine MaM.far ?_ (by show w.heap.size + 1 + 1 < w.heap.size + 3; omega))
     exact hmm
    ·refine bA ?_
     repeat (refine bS ?_ (by simp <;> omega))
     exact HB3.out
theorem vf_step {ls : List Ln} {k a : Nat} {x : Ln} (e : ls[a]? = some x) (h : x.w = true) : vicFrom ls (k + 1) a = vicFrom ls k ((a + 1) % ls.length) := by
 rw [vicFrom, e]
 simp only [h, if_true]
theorem vf_stop {ls : List Ln} {k a : Nat} {x : Ln} (e : ls[a]? = some x) (h : x.w = false) : vicFrom ls (k + 1) a = a := by
 rw [vicFrom, e]
 simp [h]
def VSt (c : Ca) (j a : Nat) : Prop := a = (c.hand.toNat + j) % c.ls.length ∧ j ≤ c.ls.length ∧ vicFrom c.ls c.ls.length c.hand.toNat = vicFrom c.ls (c.ls.length - j) a ∧ ∀ i, i < j → ∃ x : Ln, c.ls[(c.hand.toNat + i) % c.ls.length]? = some x ∧ x.w = true
theorem vst_zero {c : Ca} (h : CV c) : VSt c 0 c.hand.toNat := by
 obtain ⟨h1, h2⟩ := inR_iff.1 h.hand
 exact ⟨by rw [Nat.add_zero, Nat.mod_eq_of_lt (by omega)], Nat.zero_le _, rfl, fun i hi => absurd hi (by omega)⟩
theorem vst_lt {c : Ca} (h : CV c) {j a : Nat} (hs : VSt c j a) : j < c.ls.length := by
 obtain ⟨_, h2, _, h4⟩ := hs
 rcases Nat.lt_or_ge j c.ls.length with hlt | hge
 ·exact hlt
 ·exfalso
  obtain ⟨i, x, e, hw⟩ := h.loose
  have hi := (List.getElem?_eq_some_iff.1 e).1
  have hn : 0 < c.ls.length := by omega
  let q := (i + c.ls.length * (c.hand.toNat + 1) - c.hand.toNat) % c.ls.length
  have hle : c.hand.toNat ≤ c.ls.length * (c.hand.toNat + 1) := Nat.le_trans (Nat.le_succ _) (Nat.le_mul_of_pos_left _ hn)
  have hq : q < c.ls.length := Nat.mod_lt _ hn
  have hqi : (c.hand.toNat + q) % c.ls.length = i := by
   show (c.hand.toNat + (i + c.ls.length * (c.hand.toNat + 1) - c.hand.toNat) % c.ls.length) % c.ls.length = i
   rw [Nat.add_mod_mod, show c.hand.toNat + (i + c.ls.length * (c.hand.toNat + 1) - c.hand.toNat) = i + c.ls.length * (c.hand.toNat + 1) by omega, Nat.add_mul_mod_self_left, Nat.mod_eq_of_lt hi]
  obtain ⟨y, e2, hy⟩ := h4 q (by omega)
  rw [hqi, e] at e2
  injection e2 with e2
  rw [← e2, hw] at hy
  cases hy
theorem vst_in {c : Ca} (h : CV c) {j a : Nat} (hs : VSt c j a) : a < c.ls.length := by
 rw [hs.1]
 exact Nat.mod_lt _ (by have := h.sz; omega)
theorem vst_step {c : Ca} (h : CV c) {j a : Nat} {x : Ln} (hs : VSt c j a) (e : c.ls[a]? = some x) (hw : x.w = true) : VSt c (j + 1) ((a + 1) % c.ls.length) := by
 have hj := vst_lt h hs
 obtain ⟨h1, h2, h3, h4⟩ := hs
 refine ⟨by rw [h1, Nat.mod_add_mod, Nat.add_assoc], hj, ?_, fun i hi => ?_⟩
 ·rw [h3, show c.ls.length - j = (c.ls.length - (j + 1)) + 1 by omega]
  exact vf_step e hw
 ·rcases Nat.lt_or_ge i j with hlt | hge
  ·exact h4 i hlt
  ·obtain rfl : i = j := by omega
   exact ⟨x, by rw [← h1]; exact e, hw⟩
theorem vst_stop {c : Ca} (h : CV c) {j a : Nat} {x : Ln} (hs : VSt c j a) (e : c.ls[a]? = some x) (hw : x.w = false) : vicFrom c.ls c.ls.length c.hand.toNat = a := by
 have hj := vst_lt h hs
 rw [hs.2.2.1, show c.ls.length - j = (c.ls.length - (j + 1)) + 1 by omega]
 exact vf_stop e hw
theorem vic_free {c : Ca} {k : Nat} {x : Ln} (e : c.ls[k]? = some x) (h : ∀ (j : Nat) (y : Ln), j < k → c.ls[j]? = some y → y.v = true) (hx : x.v = false) : vic c = k := by
 have : c.ls.findIdx? (fun x => !x.v) = some k := by
  rw [List.findIdx?_eq_some_iff_getElem]
  obtain ⟨hlt, he⟩ := List.getElem?_eq_some_iff.1 e
  refine ⟨hlt, by rw [he, hx]; rfl, fun j hj => ?_⟩
  rw [h j c.ls[j] hj (List.getElem?_eq_getElem (by omega))]
  decide
 unfold vic
 rw [this]
theorem vic_full {c : Ca} (h : ∀ (j : Nat) (y : Ln), j < c.ls.length → c.ls[j]? = some y → y.v = true) : vic c = vicFrom c.ls c.ls.length c.hand.toNat := by
 have : c.ls.findIdx? (fun x => !x.v) = none := by
  rw [List.findIdx?_eq_none_iff]
  intro x hx
  obtain ⟨j, hj, e⟩ := List.getElem_of_mem hx
  rw [h j x hj (by rw [List.getElem?_eq_getElem hj, e])]
  rfl
 unfold vic
 rw [this]
theorem vf_in {ls : List Ln} (hn : 0 < ls.length) : ∀ {k a : Nat}, a < ls.length → vicFrom ls k a < ls.length
  | 0, a, h => h
  | k + 1, a, h => by
    cases e : ls[a]? with
    | none => rw [vicFrom, e]; exact h
    | some x =>
      cases hw : x.w with
      | true => rw [vf_step e hw]; exact vf_in hn (Nat.mod_lt _ hn)
      | false => rw [vf_stop e hw]; exact h
theorem vic_in {c : Ca} (h : CV c) : vic c < c.ls.length := by
 unfold vic
 cases e : c.ls.findIdx? (fun x => !x.v) with
 | some i => exact (List.findIdx?_eq_some_iff_getElem.1 e).1
 | none =>
  obtain ⟨h1, h2⟩ := inR_iff.1 h.hand
  exact vf_in (by have := h.sz; omega) (by omega)
theorem CV.fill {c : Ca} (h : CV c) {x : Ln} (hx : lnok x = true) (hw : x.w = false) (hc : ∀ (i : Nat) (y : Ln), c.ls[i]? = some y → clash x y = false) : CV (filC c x) := by
 have hv := vic_in h
 have hn := h.sz
 refine ⟨by simpa [filC] using hn, ?_, fun i y hi => ?_, fun i j y z hij hi hj => ?_, ⟨vic c, x, by simp only [filC]; rw [List.getElem?_set, if_pos rfl, if_pos hv], hw⟩⟩
 ·simp only [filC, List.length_set]
  cases e : c.ls[vic c]? with
  | none => exact h.hand
  | some y =>
   simp only
   split
   ·exact inR_iff.2 ⟨Int.emod_nonneg _ (by omega), Int.emod_lt_of_pos _ (by omega)⟩
   ·exact h.hand
 ·simp only [filC] at hi
  rw [List.getElem?_set] at hi
  split at hi
  ·injection hi with hi
   rw [← hi]; exact hx
  ·exact h.ok i y hi
 ·simp only [filC] at hi hj
  rw [List.getElem?_set] at hi hj
  split at hi
  ·rename_i h1
   injection hi with hi
   rw [if_neg (by omega)] at hj
   rw [← hi]; exact hc j z hj
  ·split at hj
   ·injection hj with hj
    rw [← hj, clash_symm]; exact hc i y hi
   ·exact h.cl i j y z hij hi hj
def alw (r n : Int) : Bool := inR r 8 && inR n 8 && decide (r.toNat &&& n.toNat = n.toNat)
theorem bits_and {r n : Int} (h1 : inR r 8 = true) (h2 : inR n 8 = true) : bits BinOp.and IntKind.i64 r n = ((r.toNat &&& n.toNat : Nat) : Int) := by
 obtain ⟨a0, a1⟩ := inR_iff.1 h1
 obtain ⟨b0, b1⟩ := inR_iff.1 h2
 have hr : r = 0 ∨ r = 1 ∨ r = 2 ∨ r = 3 ∨ r = 4 ∨ r = 5 ∨ r = 6 ∨ r = 7 := by omega
 have hn : n = 0 ∨ n = 1 ∨ n = 2 ∨ n = 3 ∨ n = 4 ∨ n = 5 ∨ n = 6 ∨ n = 7 := by omega
 rcases hr with rfl | rfl | rfl | rfl | rfl | rfl | rfl | rfl <;> rcases hn with rfl | rfl | rfl | rfl | rfl | rfl | rfl | rfl <;> rfl
theorem sAllows_any (r n : Int) (w : World) : Calls Tryz.prog 231 #[.int .i64 r, .int .i64 n] w fun e w' => e = .returned (.bool (alw r n)) ∧ w = w' := by
 cases h1 : inR r 8 with
 | false =>
  have H : Hid (alw r n = false) := by show _ = _; unfold alw; rw [h1]; rfl
  go_enter Tryz.func231, Tryz.ntmps231
  go_wp2_with fail
  refine (sRightsValid_any _ _).mono ?_
  rintro e w' ⟨rfl, rfl⟩
  rw [h1]
  go_wp2
  go_ret
  exact ⟨by rw [H.out]; rfl, rfl⟩
 | true =>
  cases h2 : inR n 8 with
  | false =>
   have H : Hid (alw r n = false) := by show _ = _; unfold alw; rw [h2, Bool.and_false]; rfl
   go_enter Tryz.func231, Tryz.ntmps231
   go_wp2_with fail
   refine (sRightsValid_any _ _).mono ?_
   rintro e w' ⟨rfl, rfl⟩
   rw [h1]
   go_wp2_with fail
   refine (sRightsValid_any _ _).mono ?_
   rintro e w' ⟨rfl, rfl⟩
   rw [h2]
   go_wp2
   go_ret
   exact ⟨by rw [H.out]; rfl, rfl⟩
  | true =>
   have H : Hid (alw r n = decide (r.toNat &&& n.toNat = n.toNat)) := by show _ = _; unfold alw; rw [h1, h2]; rfl
   go_enter Tryz.func231, Tryz.ntmps231
   go_wp2_with fail
   refine (sRightsValid_any _ _).mono ?_
   rintro e w' ⟨rfl, rfl⟩
   rw [h1]
   go_wp2_with fail
   refine (sRightsValid_any _ _).mono ?_
   rintro e w' ⟨rfl, rfl⟩
   rw [h2]
   have HBT := Hd (bits_and h1 h2)
   go_wp2
   go_ret
   refine ⟨?_, rfl⟩
   rw [H.out]
   show Ending.returned (.bool (bits BinOp.and IntKind.i64 r n == n)) = _
   rw [HBT.out]
   congr 2
   obtain ⟨a0, a1⟩ := inR_iff.1 h2
   rw [Bool.eq_iff_iff, beq_iff_eq, decide_eq_true_eq]
   constructor
   ·intro h; omega
   ·intro h; omega
set_option maxHeartbeats 2000000 in
theorem l4Victim_any (vl : Value) (c : Ca) (w : World) (hT : SlR lnE w vl c.ls) (hv : cav c = true) :
  Calls Tryz.prog 247 #[.agg #[vl, .int .i64 c.hand]] w fun r w' => r = .returned (.int .i64 (vic c)) ∧ Below w.heap.size w w' := by
 have hcv := cav_CV.1 hv
 obtain ⟨A, cc, rfl, hbc, hbm, hL⟩ := hT
 have hfm2 : c.ls.length ≤ 8 := hcv.sz.2
 have HL := Hd hL
 have hbx := Own.new_ w 43 #[.slice A c.ls.length cc, .int .i64 c.hand]
 have hbz : Below w.heap.size w (w.alloc (.cells #[.slice A c.ls.length cc, .int .i64 c.hand] 43)) := bA bR
 generalize hW : w.alloc (.cells #[.slice A c.ls.length cc, .int .i64 c.hand] 43) = W0 at hbx hbz
 have q0 := hbx.cell_ 0 (v := .slice A c.ls.length cc) rfl
 have q1 := hbx.cell_ 1 (v := .int .i64 c.hand) rfl
 have HBX := Hd hbx
 clear hL hbx
 clear q0 q1
 go_enter Tryz.func247, Tryz.ntmps247
 go_wp2
 go_loopw [3] (fun u wr => ∃ k : Nat, k ≤ c.ls.length ∧ u = .int .i64 k ∧ Hid (∀ (j : Nat) (q : Ln), j < k → c.ls[j]? = some q → q.v = true) ∧ Own wr w.heap.size 43 #[.slice A c.ls.length cc, .int .i64 c.hand] ∧ Below w.heap.size w wr) (fun u _ => c.ls.length - (intOf u).toNat)
 case atStart => exact ⟨0, by omega, rfl, (fun j q h => absurd h (by omega)), HBX.out, hbz⟩
 case round =>
  obtain ⟨k, hk, rfl, hacc, hbox, hbi⟩ := hrel
  have q0 := hbox.cell_ 0 (v := .slice A c.ls.length cc) rfl
  have q1 := hbox.cell_ 1 (v := .int .i64 c.hand) rfl
  by_cases hlt : k < c.ls.length
  ·obtain ⟨o, eo⟩ : ∃ o, c.ls[k]? = some o := ⟨_, List.getElem?_eq_getElem hlt⟩
   obtain ⟨b, ob, rfl, hbb, d0, d1, d2, d3, d4, d5⟩ := (HL.out.below hbi).ln eo
   have HBOX := Hd hbox
   have EO := Hd eo
   clear hbox eo d1 d2 d3 d4 d5
   cases ht : o.v with
   | false =>
    rw [ht] at d0
    have H := Hd (vic_free EO.out hacc.out ht)
    go_wp2
    go_ret
    exact ⟨by rw [H.out]; rfl, hbi⟩
   | true =>
    rw [ht] at d0
    have HACC : Hid (∀ (j : Nat) (q : Ln), j < k + 1 → c.ls[j]? = some q → q.v = true) := by
     intro j q hj e
     rcases Nat.lt_or_ge j k with h | h
     ·exact hacc.out j q h e
     ·obtain rfl : j = k := by omega
      have := EO.out
      rw [e] at this
      injection this with this
      rw [this]; exact ht
    go_wp2
    go_roundw
    case rel => exact ⟨k + 1, by omega, by go_num, HACC, HBOX.out, hbi⟩
    case measure => simp [intOf]; omega
  ·obtain rfl : k = c.ls.length := by omega
   have HVI := Hd (vic_full hacc.out)
   have HBOX := Hd hbox
   have HBI := Hd hbi
   have HCV := Hd hcv
   clear hacc
   have hwr := hbi
   obtain ⟨w6, rfl⟩ : ∃ w6, w6 = wr := ⟨_, rfl⟩
   obtain ⟨hh0, hh1⟩ := inR_iff.1 hcv.hand
   have hhn : (c.hand.toNat : Int) = c.hand := Int.toNat_of_nonneg hh0
   go_wp2
   clear q0 q1 hbox hbi
   go_loopg [4] (c.ls.length + 1) (fun g u wi => ∃ (j a : Nat), g = c.ls.length + 1 - j ∧ u = .int .i64 a ∧ Hid (VSt c j a) ∧ Own wi w.heap.size 43 #[.slice A c.ls.length cc, .int .i64 c.hand] ∧ Below w.heap.size w wi)
   case atStart => exact ⟨0, c.hand.toNat, by simp, by rw [hhn], vst_zero HCV.out, HBOX.out, HBI.out⟩
   case round =>
    obtain ⟨j, a, rfl, rfl, hst, hbox, hbi⟩ := hrel
    have hj := vst_lt HCV.out hst.out
    have ha := vst_in HCV.out hst.out
    obtain ⟨x, ex⟩ : ∃ x, c.ls[a]? = some x := ⟨_, List.getElem?_eq_getElem ha⟩
    obtain ⟨b, ob, rfl, hbb, d0, d1, d2, d3, d4, d5⟩ := (HL.out.below hbi).ln ex
    have q0 := hbox.cell_ 0 (v := .slice (some ⟨b, ob, none⟩) c.ls.length cc) rfl
    have HBOXI := Hd hbox
    have EX := Hd ex
    clear hbox d0 d1 d2 d3 d4 ex hwr
    cases hw : x.w with
    | false =>
     rw [hw] at d5
     have H : Hid (vic c = a) := by show _ = _; rw [HVI.out]; exact vst_stop HCV.out hst.out EX.out hw
     go_wp2
     go_ret
     exact ⟨by rw [H.out]; rfl, hbi⟩
    | true =>
     rw [hw] at d5
     have HST := Hd (vst_step HCV.out hst.out EX.out hw)
     clear hst
     go_wp2
     go_roundg (c.ls.length + 1 - (j + 1))
     case measure => omega
     case rel => exact ⟨j + 1, (a + 1) % c.ls.length, rfl, by simp, HST, HBOXI.out, hbi⟩
end Go.Proofs.YtibpnlojlfcpmaaGreatDoor
