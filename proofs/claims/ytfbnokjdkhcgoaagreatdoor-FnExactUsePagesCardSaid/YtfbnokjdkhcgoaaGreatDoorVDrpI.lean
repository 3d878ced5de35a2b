/- A part of the proofs of this seat: DrpI. -/
import Derived.Test.YtfbnokjdkhcgoaaGreatDoorVMk2
set_option linter.unusedVariables false
set_option linter.unusedSimpArgs false
set_option maxRecDepth 1000000
namespace Go.Proofs.YtfbnokjdkhcgoaaGreatDoor
open Go.RowKit
theorem Own.ne {w : World} {g g2 : Nat} {t t2 : TypeId} {cs cs2 : Array Value} (h : Own w g t cs) (h2 : Own w g2 t2 cs2) (hne : t ≠ t2) : g ≠ g2 := by
 rintro rfl
 unfold Own at h h2
 rw [h] at h2
 injection h2 with h2
 injection h2 with _ h2
 exact hne h2
set_option maxHeartbeats 2000000 in
theorem MineE.wln {e : TypeId} {B : Nat} {w : World} {g : Nat} {l : List Ln} (h : MineE lnE e B w (some ⟨g, 0, none⟩) l) {k : Nat} (hk : k < l.length) (x : Ln) :
  MineE lnE e B ((((((w.setCell ⟨g, k * 6, none⟩ (.bool x.v)).setCell ⟨g, k * 6 + 1, none⟩ (.int .i64 x.t)).setCell ⟨g, k * 6 + 2, none⟩ (.int .i64 x.p)).setCell ⟨g, k * 6 + 3, none⟩ (.int .i64 x.f)).setCell ⟨g, k * 6 + 4, none⟩ (.int .i64 x.r)).setCell ⟨g, k * 6 + 5, none⟩ (.bool x.w)) (some ⟨g, 0, none⟩) (l.set k x) := by
 obtain ⟨g2, cs, e1, hB, ho, hs⟩ := h.own (by omega)
 injection e1 with e1
 injection e1 with e1
 subst e1
 have hs2 : l.length * 6 ≤ cs.size := by simpa [lnE] using hs
 refine h.write ho ((((((ho.set_ (k * 6) _).set_ (k * 6 + 1) _).set_ (k * 6 + 2) _).set_ (k * 6 + 3) _).set_ (k * 6 + 4) _).set_ (k * 6 + 5) _) (by simp) hk x (fun j u hj => ?_) (fun i hi => ?_)
 ·simp only [lnE] at hj ⊢
  match j, hj with
  | 0, hj => simp at hj; subst hj; simp [Array.getElem?_setIfInBounds]; omega
  | 1, hj => simp at hj; subst hj; simp [Array.getElem?_setIfInBounds]; omega
  | 2, hj => simp at hj; subst hj; simp [Array.getElem?_setIfInBounds]; omega
  | 3, hj => simp at hj; subst hj; simp [Array.getElem?_setIfInBounds]; omega
  | 4, hj => simp at hj; subst hj; simp [Array.getElem?_setIfInBounds]; omega
  | 5, hj => simp at hj; subst hj; simp [Array.getElem?_setIfInBounds]; omega
  | j + 6, hj => simp at hj
 ·simp only [lnE] at hi
  rw [Array.getElem?_setIfInBounds, if_neg (by omega), Array.getElem?_setIfInBounds, if_neg (by omega), Array.getElem?_setIfInBounds, if_neg (by omega), Array.getElem?_setIfInBounds, if_neg (by omega), Array.getElem?_setIfInBounds, if_neg (by omega), Array.getElem?_setIfInBounds, if_neg (by omega)]
theorem SlM.own_ {α : Type} {E : Enc α} {e : TypeId} {B : Nat} {w : World} {A : Option Addr} {n c : Nat} {l : List α} (h : SlM E e B w (.slice A n c) l) : MineE E e B w A l ∧ n = l.length ∧ l.length ≤ c ∧ c ≤ maxLen := by
 obtain ⟨A', c', h1, h2, h3, h4⟩ := h
 injection h1 with h1 h5 h6
 subst h1 h6
 exact ⟨h4, h5, h2, h3⟩
set_option maxHeartbeats 4000000 in
theorem dropped_any (vb vf vl vo ta tb : Value) (m : Ma) (t : Tab) (s p : Int) (B : Nat) (w : World) (hM : MaR w vb vf vl vo m) (hB : B ≤ w.heap.size) (hT : TaM B w ta tb t)
  (a1 : m.t.bs.length ≤ 1048576) (a2 : m.t.fs.length ≤ 1048576) (a3 : m.c.ls.length ≤ 1048576) (a4 : m.g.os.length ≤ 1048576) :
  Calls Tryz.prog 85 #[.agg #[vb, vf, vl, .int .i64 m.c.hand, .int .i64 m.g.count, .int .i64 m.g.next, .int .i64 m.g.round, vo, .int .i64 m.sp], .agg #[ta, tb], .agg #[.int .i64 s, .int .i64 p]] w (Post2 fun v w' => ∃ v1 v2 v3 v4, v = .agg #[v1, v2, v3, .int .i64 (drpM m t s p).c.hand, .int .i64 (drpM m t s p).g.count, .int .i64 (drpM m t s p).g.next, .int .i64 (drpM m t s p).g.round, v4, .int .i64 (drpM m t s p).sp] ∧ MaM B w' v1 v2 v3 v4 (drpM m t s p) ∧ Below w.heap.size w w') := by
 have hbx := (((Own.new_ w 34 #[vb, vf, vl, .int .i64 m.c.hand, .int .i64 m.g.count, .int .i64 m.g.next, .int .i64 m.g.round, vo, .int .i64 m.sp]).alloc (o := .cells #[ta, tb] 26)).alloc (o := .cells #[.int .i64 s, .int .i64 p] 54)).alloc (o := .cells #[.slice none 0 0, .slice none 0 0, .slice none 0 0, .int .i64 0, .int .i64 0, .int .i64 0, .int .i64 0, .slice none 0 0, .int .i64 0] 34)
 have hbt := ((ownAt (W := w.alloc (.cells #[vb, vf, vl, .int .i64 m.c.hand, .int .i64 m.g.count, .int .i64 m.g.next, .int .i64 m.g.round, vo, .int .i64 m.sp] 34)) (g := w.heap.size + 1) (t := 26) (cs := #[ta, tb]) (by simp)).alloc (o := .cells #[.int .i64 s, .int .i64 p] 54)).alloc (o := .cells #[.slice none 0 0, .slice none 0 0, .slice none 0 0, .int .i64 0, .int .i64 0, .int .i64 0, .int .i64 0, .slice none 0 0, .int .i64 0] 34)
 have hbk := (ownAt (W := (w.alloc (.cells #[vb, vf, vl, .int .i64 m.c.hand, .int .i64 m.g.count, .int .i64 m.g.next, .int .i64 m.g.round, vo, .int .i64 m.sp] 34)).alloc (.cells #[ta, tb] 26)) (g := w.heap.size + 1 + 1) (t := 54) (cs := #[.int .i64 s, .int .i64 p]) (by simp)).alloc (o := .cells #[.slice none 0 0, .slice none 0 0, .slice none 0 0, .int .i64 0, .int .i64 0, .int .i64 0, .int .i64 0, .slice none 0 0, .int .i64 0] 34)
 have hbo := ownAt (W := ((w.alloc (.cells #[vb, vf, vl, .int .i64 m.c.hand, .int .i64 m.g.count, .int .i64 m.g.next, .int .i64 m.g.round, vo, .int .i64 m.sp] 34)).alloc (.cells #[ta, tb] 26)).alloc (.cells #[.int .i64 s, .int .i64 p] 54)) (g := w.heap.size + 1 + 1 + 1) (t := 34) (cs := #[.slice none 0 0, .slice none 0 0, .slice none 0 0, .int .i64 0, .int .i64 0, .int .i64 0, .int .i64 0, .slice none 0 0, .int .i64 0]) (by simp)
 have hb0 : Below w.heap.size w ((((w.alloc (.cells #[vb, vf, vl, .int .i64 m.c.hand, .int .i64 m.g.count, .int .i64 m.g.next, .int .i64 m.g.round, vo, .int .i64 m.sp] 34)).alloc (.cells #[ta, tb] 26)).alloc (.cells #[.int .i64 s, .int .i64 p] 54)).alloc (.cells #[.slice none 0 0, .slice none 0 0, .slice none 0 0, .int .i64 0, .int .i64 0, .int .i64 0, .int .i64 0, .slice none 0 0, .int .i64 0] 34)) := bA (bA (bA (bA bR)))
 have hs0 : ((((w.alloc (.cells #[vb, vf, vl, .int .i64 m.c.hand, .int .i64 m.g.count, .int .i64 m.g.next, .int .i64 m.g.round, vo, .int .i64 m.sp] 34)).alloc (.cells #[ta, tb] 26)).alloc (.cells #[.int .i64 s, .int .i64 p] 54)).alloc (.cells #[.slice none 0 0, .slice none 0 0, .slice none 0 0, .int .i64 0, .int .i64 0, .int .i64 0, .int .i64 0, .slice none 0 0, .int .i64 0] 34)).heap.size = w.heap.size + 4 := by simp
 generalize hW : (((w.alloc (.cells #[vb, vf, vl, .int .i64 m.c.hand, .int .i64 m.g.count, .int .i64 m.g.next, .int .i64 m.g.round, vo, .int .i64 m.sp] 34)).alloc (.cells #[ta, tb] 26)).alloc (.cells #[.int .i64 s, .int .i64 p] 54)).alloc (.cells #[.slice none 0 0, .slice none 0 0, .slice none 0 0, .int .i64 0, .int .i64 0, .int .i64 0, .int .i64 0, .slice none 0 0, .int .i64 0] 34) = W0 at hbx hbt hbk hbo hb0 hs0
 have HX0 := Hd hbx
 have HY0 := Hd hbt
 have HK0 := Hd hbk
 have HR0 := Hd hbo
 have HB0 := Hd hb0
 have HS0 : Hid (w.heap.size + 4 ≤ W0.heap.size) := Nat.le_of_eq hs0.symm
 clear hbx hbt hbk hbo hb0
 have HM := Hd hM
 clear hM
 obtain ⟨A1, c1, rfl, _⟩ := hT.b
 obtain ⟨A2, c2, rfl, _⟩ := hT.f
 have HT := Hd (hT.now HB0.out)
 clear hT
 have hBW : B ≤ W0.heap.size := Nat.le_trans hB (by omega)
 obtain ⟨m00, m10, m20, m30, m40, m50, m60, m70, m80⟩ := cells9 HX0.out
 go_enter Tryz.func85, Tryz.ntmps85
 go_wp2_with fail
 refine (mclone_any vb vf vl vo m _ (HM.out.now HB0.out) a1 a2 a3 a4).mono ?_
 rintro e w3 ⟨_, rfl, q1, q2, q3, q4, rfl, hM3, hb3⟩
 obtain ⟨B1, d1, rfl, _⟩ := hM3.t.b
 obtain ⟨B2, d2, rfl, _⟩ := hM3.t.f
 obtain ⟨B3, d3, rfl, _⟩ := hM3.l
 obtain ⟨B4, d4, rfl, _⟩ := hM3.o
 have HY3 := HY0.out.below hb3
 have hly3 := HY3.lt
 have u0 := HY3.cell_ 0 (v := .slice A1 t.bs.length c1) rfl
 have u1 := HY3.cell_ 1 (v := .slice A2 t.fs.length c2) rfl
 have HMM3 := Hd hM3
 have HX3 := Hd (HX0.out.below hb3)
 have HK3 := Hd (HK0.out.below hb3)
 have HR3 := Hd (HR0.out.below hb3)
 have HB3 := Hd (bT HB0.out hb3)
 have HTM3 := Hd (HT.out.now hb3)
 have hs3 := hb3.size
 have ho4 := Own.new_ w3 34 #[.slice A1 t.bs.length c1, .slice A2 t.fs.length c2, .slice B3 m.c.ls.length d3, .int .i64 m.c.hand, .int .i64 m.g.count, .int .i64 m.g.next, .int .i64 m.g.round, .slice B4 m.g.os.length d4, .int .i64 m.sp]
 have hb4 : Below w3.heap.size w3 (w3.alloc (.cells #[.slice A1 t.bs.length c1, .slice A2 t.fs.length c2, .slice B3 m.c.ls.length d3, .int .i64 m.c.hand, .int .i64 m.g.count, .int .i64 m.g.next, .int .i64 m.g.round, .slice B4 m.g.os.length d4, .int .i64 m.sp] 34)) := bA bR
 generalize hW4 : w3.alloc (.cells #[.slice A1 t.bs.length c1, .slice A2 t.fs.length c2, .slice B3 m.c.ls.length d3, .int .i64 m.c.hand, .int .i64 m.g.count, .int .i64 m.g.next, .int .i64 m.g.round, .slice B4 m.g.os.length d4, .int .i64 m.sp] 34) = w4 at ho4 hb4
 have HX4 := Hd (HX3.out.below hb4)
 have HK4 := Hd (HK3.out.below hb4)
 have HR4 := Hd (HR3.out.below hb4)
 have HB4 := Hd (bT HB3.out hb4)
 have HMM4 := Hd (HMM3.out.now hb4)
 have HTM4 := Hd (HTM3.out.now hb4)
 have HO4 := Hd ho4
 clear hM3 hb3 hb4 ho4 HY3 m00 m10 m20 m30 m40 m50 m60 m70 m80
 obtain ⟨m04, m14, m24, m34, m44, m54, m64, m74, m84⟩ := cells9 HX4.out
 have k04 := HK4.out.cell_ 0 (v := .int .i64 s) rfl
 have k14 := HK4.out.cell_ 1 (v := .int .i64 p) rfl
 go_wp2_with fail
 refine (tagFor_any vb vf vl vo m s p _ (HM.out.now HB4.out)).mono ?_
 rintro e w5 ⟨rfl, hb5⟩
 have HX5 := Hd (HX4.out.below hb5)
 have HK5 := Hd (HK4.out.below hb5)
 have HR5 := Hd (HR4.out.below hb5)
 have HB5 := Hd (bT HB4.out hb5)
 have HMM5 := Hd (HMM4.out.now hb5)
 have HTM5 := Hd (HTM4.out.now hb5)
 have HO5 := Hd (HO4.out.below hb5)
 clear m04 m14 m24 m34 m44 m54 m64 m74 m84
 clear hb5 u0 u1 k04 k14 hW4
 cases hto : tagO m s p with
 | false =>
  have HV : Hid (drpM m t s p = ⟨t, m.c, m.g, m.sp⟩) := by show _ = _; unfold drpM; rw [drpC_no hto]
  obtain ⟨r0x, r1x, r2x, r3x, r4x, r5x, r6x, r7x, r8x⟩ := cells9 HR5.out
  obtain ⟨z0x, z1x, z2x, z3x, z4x, z5x, z6x, z7x, z8x⟩ := free9 HR5.out
  obtain ⟨p0o, p1o, p2o, p3o, p4o, p5o, p6o, p7o, p8o⟩ := cells9 HO5.out
  have hlr := HR5.out.lt
  have hlo := HO5.out.lt
  go_wp2
  have o3 := HR5.out.set9 (.slice A1 t.bs.length c1) (.slice A2 t.fs.length c2) (.slice B3 m.c.ls.length d3) (.int .i64 m.c.hand) (.int .i64 m.g.count) (.int .i64 m.g.next) (.int .i64 m.g.round) (.slice B4 m.g.os.length d4) (.int .i64 m.sp)
  obtain ⟨p0t, p1t, p2t, p3t, p4t, p5t, p6t, p7t, p8t⟩ := cells9 o3
  have hmm : MaM B _ (.slice A1 t.bs.length c1) (.slice A2 t.fs.length c2) (.slice B3 m.c.ls.length d3) (.slice B4 m.g.os.length d4) ⟨t, m.c, m.g, m.sp⟩ := ⟨HTM5.out, HMM5.out.l.mono hBW, HMM5.out.o.mono hBW⟩
  refine bodyPost_ret (v := .agg #[.slice A1 t.bs.length c1, .slice A2 t.fs.length c2, .slice B3 m.c.ls.length d3, .int .i64 m.c.hand, .int .i64 m.g.count, .int .i64 m.g.next, .int .i64 m.g.round, .slice B4 m.g.os.length d4, .int .i64 m.sp]) (by simp [results, Tryz.results85, go_sem, p0t, p1t, p2t, p3t, p4t, p5t, p6t, p7t, p8t]) rfl ⟨_, rfl, _, _, _, _, by rw [HV.out], ?_, ?_⟩
  ·rw [HV.out]
   exact hmm.far9 HR5.out _ _ _ _ _ _ _ _ _
  ·repeat (refine bS ?_ (by simp <;> omega))
   exact HB5.out
 | true =>
  obtain ⟨m05, m15, m25, m35, m45, m55, m65, m75, m85⟩ := cells9 HX5.out
  have k05 := HK5.out.cell_ 0 (v := .int .i64 s) rfl
  have k15 := HK5.out.cell_ 1 (v := .int .i64 p) rfl
  go_wp2_with fail
  refine (place_any vl m.c (tagT m s p) p _ (HM.out.l.now HB5.out)).mono ?_
  rintro e w6 ⟨rfl, hb6⟩
  have HX6 := Hd (HX5.out.below hb6)
  have HK6 := Hd (HK5.out.below hb6)
  have HR6 := Hd (HR5.out.below hb6)
  have HB6 := Hd (bT HB5.out hb6)
  have HMM6 := Hd (HMM5.out.now hb6)
  have HTM6 := Hd (HTM5.out.now hb6)
  have HO6 := Hd (HO5.out.below hb6)
  clear m05 m15 m25 m35 m45 m55 m65 m75 m85
  clear hb6 k05 k15
  by_cases hp : 0 ≤ plcI m.c.ls (tagT m s p) p
  case neg =>
   have HV : Hid (drpM m t s p = ⟨t, m.c, m.g, m.sp⟩) := by show _ = _; unfold drpM; rw [drpC_neg hp]
   obtain ⟨r0x, r1x, r2x, r3x, r4x, r5x, r6x, r7x, r8x⟩ := cells9 HR6.out
   obtain ⟨z0x, z1x, z2x, z3x, z4x, z5x, z6x, z7x, z8x⟩ := free9 HR6.out
   obtain ⟨p0o, p1o, p2o, p3o, p4o, p5o, p6o, p7o, p8o⟩ := cells9 HO6.out
   have hlr := HR6.out.lt
   have hlo := HO6.out.lt
   go_wp2
   have o3 := HR6.out.set9 (.slice A1 t.bs.length c1) (.slice A2 t.fs.length c2) (.slice B3 m.c.ls.length d3) (.int .i64 m.c.hand) (.int .i64 m.g.count) (.int .i64 m.g.next) (.int .i64 m.g.round) (.slice B4 m.g.os.length d4) (.int .i64 m.sp)
   obtain ⟨p0t, p1t, p2t, p3t, p4t, p5t, p6t, p7t, p8t⟩ := cells9 o3
   have hmm : MaM B _ (.slice A1 t.bs.length c1) (.slice A2 t.fs.length c2) (.slice B3 m.c.ls.length d3) (.slice B4 m.g.os.length d4) ⟨t, m.c, m.g, m.sp⟩ := ⟨HTM6.out, HMM6.out.l.mono hBW, HMM6.out.o.mono hBW⟩
   refine bodyPost_ret (v := .agg #[.slice A1 t.bs.length c1, .slice A2 t.fs.length c2, .slice B3 m.c.ls.length d3, .int .i64 m.c.hand, .int .i64 m.g.count, .int .i64 m.g.next, .int .i64 m.g.round, .slice B4 m.g.os.length d4, .int .i64 m.sp]) (by simp [results, Tryz.results85, go_sem, p0t, p1t, p2t, p3t, p4t, p5t, p6t, p7t, p8t]) rfl ⟨_, rfl, _, _, _, _, by rw [HV.out], ?_, ?_⟩
   ·rw [HV.out]
    exact hmm.far9 HR6.out _ _ _ _ _ _ _ _ _
   ·repeat (refine bS ?_ (by simp <;> omega))
    exact HB6.out
  case pos =>
   obtain ⟨k, x, hk, ex, _⟩ := plcI_lt hp
   have HV : Hid (drpM m t s p = ⟨t, ⟨m.c.ls.set k lnz, m.c.hand⟩, m.g, m.sp⟩) := by show _ = _; unfold drpM; rw [drpC_at hto hk]
   have hkl := (List.getElem?_eq_some_iff.1 ex).1
   rw [hk]
   have EX := Hd ex
   clear hk ex hp hto
   have HL6 := Hd HMM6.out.l.own_
   obtain ⟨g3, cs3, rfl, hg3, O3, _⟩ := HL6.out.1.own (by omega)
   have z0 := O3.free (k * 6)
   have z1 := O3.free (k * 6 + 1)
   have z2 := O3.free (k * 6 + 2)
   have z3 := O3.free (k * 6 + 3)
   have z4 := O3.free (k * 6 + 4)
   have z5 := O3.free (k * 6 + 5)
   obtain ⟨bq, oq, eq1, _, y0, y1, y2, y3, y4, y5⟩ := HL6.out.1.is.ln EX.out
   injection eq1 with eq1
   injection eq1 with eq1 eq2
   subst eq1 eq2
   rw [Nat.zero_add] at y0 y1 y2 y3 y4 y5
   have q1 : w3.heap.size ≠ g3 := HO6.out.ne O3 (by decide)
   have q2 : g3 ≠ w3.heap.size := fun h => q1 h.symm
   have q3 : w.heap.size + 1 + 1 + 1 ≠ g3 := HR6.out.ne O3 (by decide)
   have q4 : g3 ≠ w.heap.size + 1 + 1 + 1 := fun h => q3 h.symm
   clear O3
   obtain ⟨r0x, r1x, r2x, r3x, r4x, r5x, r6x, r7x, r8x⟩ := cells9 HR6.out
   obtain ⟨z0x, z1x, z2x, z3x, z4x, z5x, z6x, z7x, z8x⟩ := free9 HR6.out
   obtain ⟨p0o, p1o, p2o, p3o, p4o, p5o, p6o, p7o, p8o⟩ := cells9 HO6.out
   have hlr := HR6.out.lt
   have hlo := HO6.out.lt
   have HML := Hd (HL6.out.1.wln hkl lnz)
   go_wp2
   have f1 := ((((((HR6.out.far (p := ⟨g3, k * 6, none⟩) (u := .bool false) q3).far (p := ⟨g3, k * 6 + 1, none⟩) (u := .int .i64 0) q3).far (p := ⟨g3, k * 6 + 2, none⟩) (u := .int .i64 0) q3).far (p := ⟨g3, k * 6 + 3, none⟩) (u := .int .i64 0) q3).far (p := ⟨g3, k * 6 + 4, none⟩) (u := .int .i64 0) q3).far (p := ⟨g3, k * 6 + 5, none⟩) (u := .bool false) q3)
   have o3 := f1.set9 (.slice A1 t.bs.length c1) (.slice A2 t.fs.length c2) (.slice (some ⟨g3, 0, none⟩) m.c.ls.length d3) (.int .i64 m.c.hand) (.int .i64 m.g.count) (.int .i64 m.g.next) (.int .i64 m.g.round) (.slice B4 m.g.os.length d4) (.int .i64 m.sp)
   obtain ⟨p0t, p1t, p2t, p3t, p4t, p5t, p6t, p7t, p8t⟩ := cells9 o3
   obtain ⟨_, cs3, u3, _, O3, _⟩ := HL6.out.1.own (by omega)
   injection u3 with u3
   injection u3 with u3
   subst u3
   have oa := O3.set_ (k * 6) (.bool false)
   have ob := oa.set_ (k * 6 + 1) (.int .i64 0)
   have oc := ob.set_ (k * 6 + 2) (.int .i64 0)
   have od := oc.set_ (k * 6 + 3) (.int .i64 0)
   have oe := od.set_ (k * 6 + 4) (.int .i64 0)
   have hts := ((((((HTM6.out.b.farT O3 (u := .bool false) (i := k * 6) (by decide)).farT oa (u := .int .i64 0) (i := k * 6 + 1) (by decide)).farT ob (u := .int .i64 0) (i := k * 6 + 2) (by decide)).farT oc (u := .int .i64 0) (i := k * 6 + 3) (by decide)).farT od (u := .int .i64 0) (i := k * 6 + 4) (by decide)).farT oe (u := .bool false) (i := k * 6 + 5) (by decide))
   have htf := ((((((HTM6.out.f.farT O3 (u := .bool false) (i := k * 6) (by decide)).farT oa (u := .int .i64 0) (i := k * 6 + 1) (by decide)).farT ob (u := .int .i64 0) (i := k * 6 + 2) (by decide)).farT oc (u := .int .i64 0) (i := k * 6 + 3) (by decide)).farT od (u := .int .i64 0) (i := k * 6 + 4) (by decide)).farT oe (u := .bool false) (i := k * 6 + 5) (by decide))
   have hto := ((((((HMM6.out.o.farT O3 (u := .bool false) (i := k * 6) (by decide)).farT oa (u := .int .i64 0) (i := k * 6 + 1) (by decide)).farT ob (u := .int .i64 0) (i := k * 6 + 2) (by decide)).farT oc (u := .int .i64 0) (i := k * 6 + 3) (by decide)).farT od (u := .int .i64 0) (i := k * 6 + 4) (by decide)).farT oe (u := .bool false) (i := k * 6 + 5) (by decide))
   have hmm : MaM B _ (.slice A1 t.bs.length c1) (.slice A2 t.fs.length c2) (.slice (some ⟨g3, 0, none⟩) m.c.ls.length d3) (.slice B4 m.g.os.length d4) ⟨t, ⟨m.c.ls.set k lnz, m.c.hand⟩, m.g, m.sp⟩ := ⟨⟨hts, htf⟩, slm_of (by simp) (by simpa using HL6.out.2.2.1) HL6.out.2.2.2 (HML.out.mono hBW), hto.mono hBW⟩
   refine bodyPost_ret (v := .agg #[.slice A1 t.bs.length c1, .slice A2 t.fs.length c2, .slice (some ⟨g3, 0, none⟩) m.c.ls.length d3, .int .i64 m.c.hand, .int .i64 m.g.count, .int .i64 m.g.next, .int .i64 m.g.round, .slice B4 m.g.os.length d4, .int .i64 m.sp]) (by simp [results, Tryz.results85, go_sem, p0t, p1t, p2t, p3t, p4t, p5t, p6t, p7t, p8t]) rfl ⟨_, rfl, _, _, _, _, by rw [HV.out], ?_, ?_⟩
   ·rw [HV.out]
    exact hmm.far9 f1 _ _ _ _ _ _ _ _ _
   ·repeat (refine bS ?_ (by simp <;> omega))
    exact HB6.out
end Go.Proofs.YtfbnokjdkhcgoaaGreatDoor
