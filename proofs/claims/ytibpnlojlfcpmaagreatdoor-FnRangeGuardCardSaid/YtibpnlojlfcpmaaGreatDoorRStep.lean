/- A part of the proofs of this seat: Step. -/
import Derived.Test.YtibpnlojlfcpmaaGreatDoorRReg
import Derived.Test.YtibpnlojlfcpmaaGreatDoorRFreS
import Derived.Test.YtibpnlojlfcpmaaGreatDoorRWirS
set_option linter.unusedVariables false
set_option linter.unusedSimpArgs false
set_option maxRecDepth 1000000
namespace Go.Proofs.YtibpnlojlfcpmaaGreatDoor
open Go.RowKit
set_option maxHeartbeats 8000000 in
theorem l6Step_any (B g q : Nat) (vb vf vl vo : Value) (m : Ma) (w : World) (hrd : Rdr B w g q) (hq : q ≤ 900000) (hM : MaM B w vb vf vl vo m) (hz : Sz 17 m) (hBw : B ≤ w.heap.size) :
  Calls Tryz.prog 171 #[.pointer (some ⟨g, 0, none⟩), .agg #[vb, vf, vl, .int .i64 m.c.hand, .int .i64 m.g.count, .int .i64 m.g.next, .int .i64 m.g.round, vo, .int .i64 m.sp]] w (Post2 fun v w' => Drawn B 17 w g q 6 v w') := by
 have hgw := rdr_lt hrd
 obtain ⟨A1, c1, rfl, _⟩ := hM.t.b
 obtain ⟨A2, c2, rfl, _⟩ := hM.t.f
 obtain ⟨A3, c3, rfl, _⟩ := hM.l
 obtain ⟨A4, c4, rfl, _⟩ := hM.o
 have hzf : m.t.fs.length ≤ 17 := hz.f
 have hx0 := ((Own.new_ w 48 #[.slice A1 m.t.bs.length c1, .slice A2 m.t.fs.length c2, .slice A3 m.c.ls.length c3, .int .i64 m.c.hand, .int .i64 m.g.count, .int .i64 m.g.next, .int .i64 m.g.round, .slice A4 m.g.os.length c4, .int .i64 m.sp]).alloc (o := .cells #[.slice none 0 0, .slice none 0 0, .slice none 0 0, .int .i64 0, .int .i64 0, .int .i64 0, .int .i64 0, .slice none 0 0, .int .i64 0] 48)).alloc (o := .cells #[.slice A1 m.t.bs.length c1, .slice A2 m.t.fs.length c2, .slice A3 m.c.ls.length c3, .int .i64 m.c.hand, .int .i64 m.g.count, .int .i64 m.g.next, .int .i64 m.g.round, .slice A4 m.g.os.length c4, .int .i64 m.sp] 48)
 have hr0 := (ownAt (W := w.alloc (.cells #[.slice A1 m.t.bs.length c1, .slice A2 m.t.fs.length c2, .slice A3 m.c.ls.length c3, .int .i64 m.c.hand, .int .i64 m.g.count, .int .i64 m.g.next, .int .i64 m.g.round, .slice A4 m.g.os.length c4, .int .i64 m.sp] 48)) (g := w.heap.size + 1) (t := 48) (cs := #[.slice none 0 0, .slice none 0 0, .slice none 0 0, .int .i64 0, .int .i64 0, .int .i64 0, .int .i64 0, .slice none 0 0, .int .i64 0]) (by simp)).alloc (o := .cells #[.slice A1 m.t.bs.length c1, .slice A2 m.t.fs.length c2, .slice A3 m.c.ls.length c3, .int .i64 m.c.hand, .int .i64 m.g.count, .int .i64 m.g.next, .int .i64 m.g.round, .slice A4 m.g.os.length c4, .int .i64 m.sp] 48)
 have hn0 := ownAt (W := (w.alloc (.cells #[.slice A1 m.t.bs.length c1, .slice A2 m.t.fs.length c2, .slice A3 m.c.ls.length c3, .int .i64 m.c.hand, .int .i64 m.g.count, .int .i64 m.g.next, .int .i64 m.g.round, .slice A4 m.g.os.length c4, .int .i64 m.sp] 48)).alloc (.cells #[.slice none 0 0, .slice none 0 0, .slice none 0 0, .int .i64 0, .int .i64 0, .int .i64 0, .int .i64 0, .slice none 0 0, .int .i64 0] 48)) (g := w.heap.size + 1 + 1) (t := 48) (cs := #[.slice A1 m.t.bs.length c1, .slice A2 m.t.fs.length c2, .slice A3 m.c.ls.length c3, .int .i64 m.c.hand, .int .i64 m.g.count, .int .i64 m.g.next, .int .i64 m.g.round, .slice A4 m.g.os.length c4, .int .i64 m.sp]) (by simp)
 have hb0 : Below w.heap.size w (((w.alloc (.cells #[.slice A1 m.t.bs.length c1, .slice A2 m.t.fs.length c2, .slice A3 m.c.ls.length c3, .int .i64 m.c.hand, .int .i64 m.g.count, .int .i64 m.g.next, .int .i64 m.g.round, .slice A4 m.g.os.length c4, .int .i64 m.sp] 48)).alloc (.cells #[.slice none 0 0, .slice none 0 0, .slice none 0 0, .int .i64 0, .int .i64 0, .int .i64 0, .int .i64 0, .slice none 0 0, .int .i64 0] 48)).alloc (.cells #[.slice A1 m.t.bs.length c1, .slice A2 m.t.fs.length c2, .slice A3 m.c.ls.length c3, .int .i64 m.c.hand, .int .i64 m.g.count, .int .i64 m.g.next, .int .i64 m.g.round, .slice A4 m.g.os.length c4, .int .i64 m.sp] 48)) := bA (bA (bA bR))
 generalize hW : ((w.alloc (.cells #[.slice A1 m.t.bs.length c1, .slice A2 m.t.fs.length c2, .slice A3 m.c.ls.length c3, .int .i64 m.c.hand, .int .i64 m.g.count, .int .i64 m.g.next, .int .i64 m.g.round, .slice A4 m.g.os.length c4, .int .i64 m.sp] 48)).alloc (.cells #[.slice none 0 0, .slice none 0 0, .slice none 0 0, .int .i64 0, .int .i64 0, .int .i64 0, .int .i64 0, .slice none 0 0, .int .i64 0] 48)).alloc (.cells #[.slice A1 m.t.bs.length c1, .slice A2 m.t.fs.length c2, .slice A3 m.c.ls.length c3, .int .i64 m.c.hand, .int .i64 m.g.count, .int .i64 m.g.next, .int .i64 m.g.round, .slice A4 m.g.os.length c4, .int .i64 m.sp] 48) = W0 at hx0 hr0 hn0 hb0
 have HD0 : Hid (DC B w g q [(w.heap.size, 48, #[.slice A1 m.t.bs.length c1, .slice A2 m.t.fs.length c2, .slice A3 m.c.ls.length c3, .int .i64 m.c.hand, .int .i64 m.g.count, .int .i64 m.g.next, .int .i64 m.g.round, .slice A4 m.g.os.length c4, .int .i64 m.sp]), (w.heap.size + 1, 48, #[.slice none 0 0, .slice none 0 0, .slice none 0 0, .int .i64 0, .int .i64 0, .int .i64 0, .int .i64 0, .slice none 0 0, .int .i64 0])] (.slice A1 m.t.bs.length c1) (.slice A2 m.t.fs.length c2) (.slice A3 m.c.ls.length c3) (.slice A4 m.g.os.length c4) m W0) := ⟨rdr_below hrd hb0, gr_below hb0, hM.now hb0, (by intro e he; simp at he; rcases he with rfl | rfl <;> first | exact hx0 | exact hr0), (by intro e he; simp at he; rcases he with rfl | rfl <;> (show 48 ≠ 172; decide))⟩
 have HN0 := Hd hn0
 clear hx0 hr0 hn0 hb0 hrd hM
 go_enter Tryz.func171, Tryz.ntmps171
 go_wp2_with fail
 refine (pick_any B g q 8 _ HD0.out.rd (by omega) (by omega)).mono ?_
 rintro e w1 ⟨k, rfl, hk0, hk1, hrd1, hg1⟩
 have hk2 := hk1 (by omega)
 have HD1 := Hd (HD0.out.read hrd1 hg1)
 have HN := Hd ((HD0.out.oth hg1).2 _ _ _ HN0.out (by decide))
 clear hrd1 hg1 HD0 HN0 hk1 hW
 have hk : k = 0 ∨ k = 1 ∨ k = 2 ∨ k = 3 ∨ k = 4 ∨ k = 5 ∨ k = 6 ∨ k = 7 := by omega
 clear hk0 hk2
 rcases hk with rfl | rfl | rfl | rfl | rfl | rfl | rfl | rfl
 ·go_wp2
  refine wp_region_rel2 (by kernel_rfl) [13, 14, 15, 16, 17, 12, 18, 19, 6] [[13], [14], [15], [16], [17], [12], [12, 18], [12, 19], [12], [12, 6]] (CX B w g (q + 1) [(w.heap.size, 48, #[.slice A1 m.t.bs.length c1, .slice A2 m.t.fs.length c2, .slice A3 m.c.ls.length c3, .int .i64 m.c.hand, .int .i64 m.g.count, .int .i64 m.g.next, .int .i64 m.g.round, .slice A4 m.g.os.length c4, .int .i64 m.sp]), (w.heap.size + 1, 48, #[.slice none 0 0, .slice none 0 0, .slice none 0 0, .int .i64 0, .int .i64 0, .int .i64 0, .int .i64 0, .slice none 0 0, .int .i64 0])] (.slice A1 m.t.bs.length c1) (.slice A2 m.t.fs.length c2) (.slice A3 m.c.ls.length c3) (.slice A4 m.g.os.length c4) m [3] 8 (some (w.heap.size + 1 + 1))) (kxs (si := 8) [KX.eq 13 (.agg #[.slice A1 m.t.bs.length c1, .slice A2 m.t.fs.length c2, .slice A3 m.c.ls.length c3, .int .i64 m.c.hand, .int .i64 m.g.count, .int .i64 m.g.next, .int .i64 m.g.round, .slice A4 m.g.os.length c4, .int .i64 m.sp]), KX.eq 14 (.pointer (some ⟨g, 0, none⟩)), KX.lit 15 #[.int .i64 0, .int .i64 1, .int .i64 2, .int .i64 3] 4, KX.sat 16 isN, KX.tup 17 B okM, KX.tup 12 B okM, KX.fst 12 18 B okM, KX.part 12 19 1, KX.put 12 (w.heap.size + 1 + 1) B okM, KX.part 12 6 1]) (tX 8) (by kernel_rfl) ?_ (kxs_loc (si := 8) (ks := [KX.eq 13 (.agg #[.slice A1 m.t.bs.length c1, .slice A2 m.t.fs.length c2, .slice A3 m.c.ls.length c3, .int .i64 m.c.hand, .int .i64 m.g.count, .int .i64 m.g.next, .int .i64 m.g.round, .slice A4 m.g.os.length c4, .int .i64 m.sp]), KX.eq 14 (.pointer (some ⟨g, 0, none⟩)), KX.lit 15 #[.int .i64 0, .int .i64 1, .int .i64 2, .int .i64 3] 4, KX.sat 16 isN, KX.tup 17 B okM, KX.tup 12 B okM, KX.fst 12 18 B okM, KX.part 12 19 1, KX.put 12 (w.heap.size + 1 + 1) B okM, KX.part 12 6 1])) kxs_keep ?_ ?_
  ·refine ⟨?_, fun b hb _ => ?_⟩
   ·rw [cn_zero]
    exact HD1.out.below (bD bR)
   ·injection hb with hb
    subst hb
    exact ⟨_, rfl, HN.out⟩
  ·intro i o ho D x v hD hC hd K hK
   match i, ho with
   | 0, ho =>
    cases ho
    simp only [fillA, Act.put, sA9, sB9, sC9] at hK ⊢
    have hx := hC.1.own (b := w.heap.size) (t := 48) (cs := #[.slice A1 m.t.bs.length c1, .slice A2 m.t.fs.length c2, .slice A3 m.c.ls.length c3, .int .i64 m.c.hand, .int .i64 m.g.count, .int .i64 m.g.next, .int .i64 m.g.round, .slice A4 m.g.os.length c4, .int .i64 m.sp]) (by simp)
    obtain ⟨z0, z1, z2, z3, z4, z5, z6, z7, z8⟩ := cells9 hx
    go_simp
    exact hK _ _ (tX_same (by decide)) (hC.same (by decide) (by decide)) rfl
   | 1, ho =>
    cases ho
    simp only [fillA, Act.put, sA9, sB9, sC9] at hK ⊢
    go_simp
    exact hK _ _ (tX_same (by decide)) (hC.same (by decide) (by decide)) rfl
   | 2, ho =>
    cases ho
    simp only [fillA, Act.put, sA9, sB9, sC9] at hK ⊢
    go_simp
    exact hK _ _ (tX_below (by decide) (bA bR)) (hC.below (bA bR) (by decide) (by decide)) ⟨_, rfl, Own.new_ _ _ _⟩
   | 3, ho =>
    cases ho
    simp only [fillA, Act.put, sA9, sB9, sC9] at hK ⊢
    have d0 := hd 1 ⟨⟨1, .data⟩, by simp, rfl, rfl⟩
    change x 14 = .pointer (some ⟨g, 0, none⟩) at d0
    have d1 := hd 2 ⟨⟨2, .data⟩, by simp, rfl, rfl⟩
    obtain ⟨gd1, d1, od1⟩ := d1
    change x 15 = .slice (some ⟨gd1, 0, none⟩) 4 4 at d1
    simp only [d0, d1] at hK ⊢
    have hcn : cn D [3] ≤ 1 := cn_le D _
    obtain ⟨Ar, nr, cr, hor, _⟩ := hC.1.rd.ok
    go_wp2_with fail
    refine (num_any B g (q + 1 + cn D [3]) gd1 [0, 1, 2, 3] v hC.1.rd od1 (od1.ne hor (by decide)) (by omega) (by simp) (by simp)).mono ?_
    rintro e v' ⟨z, rfl, _, hrd, hgr⟩
    go_simp
    exact hK _ _ (tX_oth (by decide) (hC.1.oth hgr)) (hC.read hD (by decide) (by decide) (by decide) hrd hgr) ⟨_, rfl⟩
   | 4, ho =>
    cases ho
    simp only [fillA, Act.put, sA9, sB9, sC9] at hK ⊢
    have d0 := hd 0 ⟨⟨0, .data⟩, by simp, rfl, rfl⟩
    change x 13 = .agg #[.slice A1 m.t.bs.length c1, .slice A2 m.t.fs.length c2, .slice A3 m.c.ls.length c3, .int .i64 m.c.hand, .int .i64 m.g.count, .int .i64 m.g.next, .int .i64 m.g.round, .slice A4 m.g.os.length c4, .int .i64 m.sp] at d0
    have d1 := hd 3 ⟨⟨3, .data⟩, by simp, rfl, rfl⟩
    obtain ⟨nd1, d1⟩ := d1
    change x 16 = .int .i64 nd1 at d1
    simp only [d0, d1] at hK ⊢
    have hBv : B ≤ v.heap.size := Nat.le_trans hBw hC.1.gr.size
    go_wp2_with fail
    refine (sEnterSpace_any _ _ _ _ m _ v hC.1.mm.r).mono ?_
    rintro e v' ⟨_, rfl, m', ok, e1, e2, e3, e4, rfl, hm, hsz, hb⟩
    go_simp
    exact hK _ _ (tX_below (by decide) hb) (hC.below hb (by decide) (by decide)) ⟨_, e1, e2, e3, e4, ⟨ok, rfl, hsz⟩, hm.mono hBv⟩
   | 5, ho =>
    cases ho
    simp only [fillA, Act.put, sA9, sB9, sC9] at hK ⊢
    obtain ⟨m', e1, e2, e3, e4, ⟨ok, hx, hsz⟩, hm⟩ := hd 4 ⟨⟨4, .data⟩, by simp, rfl, rfl⟩
    change x 17 = _ at hx
    simp only [hx] at hK ⊢
    go_simp
    exact hK _ _ (tX_same (by decide)) (hC.same (by decide) (by decide)) ⟨m', e1, e2, e3, e4, ⟨ok, rfl, hsz⟩, hm⟩
   | 6, ho =>
    cases ho
    simp only [fillA, Act.put, sA9, sB9, sC9] at hK ⊢
    obtain ⟨m', e1, e2, e3, e4, ⟨ok, hx, hsz⟩, hm⟩ := hd 5 ⟨⟨5, .data⟩, by simp, rfl, rfl⟩
    change x 12 = _ at hx
    have hx' := hx
    simp only [hx'] at hK ⊢
    go_simp
    exact hK _ _ (tX_same (by decide)) (hC.same (by decide) (by decide)) ⟨m', e1, e2, e3, e4, ⟨ok, hx, hsz⟩, rfl, hm⟩
   | 7, ho =>
    cases ho
    simp only [fillA, Act.put, sA9, sB9, sC9] at hK ⊢
    obtain ⟨m', e1, e2, e3, e4, ⟨ok, hx, hsz⟩, hm⟩ := hd 5 ⟨⟨5, .data⟩, by simp, rfl, rfl⟩
    change x 12 = _ at hx
    have hx' := hx
    simp only [hx'] at hK ⊢
    go_simp
    exact hK _ _ (tX_same (by decide)) (hC.same (by decide) (by decide)) ⟨_, hx, rfl⟩
   | 8, ho =>
    cases ho
    simp only [fillA, Act.put, sA9, sB9, sC9] at hK ⊢
    obtain ⟨m', e1, e2, e3, e4, hf, hx, hm⟩ := hd 6 ⟨⟨6, .data⟩, by simp, rfl, rfl⟩
    change x 18 = _ at hx
    obtain ⟨cs, hcs, ho⟩ := hC.2 _ rfl hD
    obtain ⟨E1, n1, rfl, _⟩ := hm.t.b
    obtain ⟨E2, n2, rfl, _⟩ := hm.t.f
    obtain ⟨E3, n3, rfl, _⟩ := hm.l
    obtain ⟨E4, n4, rfl, _⟩ := hm.o
    obtain ⟨cs⟩ := cs
    obtain ⟨k0, k1, k2, k3, k4, k5, k6, k7, k8, rfl⟩ := len_nine hcs
    obtain ⟨z0, z1, z2, z3, z4, z5, z6, z7, z8⟩ := cells9 ho
    obtain ⟨y0, y1, y2, y3, y4, y5, y6, y7, y8⟩ := free9 ho
    have hlo := ho.lt
    simp only [hx] at hK ⊢
    go_simp
    refine hK undef _ (tX_store (stS_set9 ho _ _ _ _ _ _ _ _ _)) (hC.store (by decide) (by omega) hgw (by intro e he; simp at he; rcases he with rfl | rfl <;> first | (show w.heap.size ≠ w.heap.size + 1 + 1; omega) | (show w.heap.size + 1 ≠ w.heap.size + 1 + 1; omega)) ho _ _ _ _ _ _ _ _ _) ⟨rfl, m', _, _, _, _, hf, hm.oth (stS_set9 ho _ _ _ _ _ _ _ _ _).1 (by decide) (by decide) (by decide) (by decide), ho.set9 _ _ _ _ _ _ _ _ _⟩
   | 9, ho =>
    cases ho
    simp only [fillA, Act.put, sA9, sB9, sC9] at hK ⊢
    go_simp
    obtain ⟨vs, h1, h2⟩ := hd 7 ⟨⟨7, .data⟩, by simp, rfl, rfl⟩
    exact hK _ _ (tX_same (by decide)) (hC.same (by decide) (by decide)) ⟨vs, h1, h2⟩
   | _ + 10, ho => simp at ho
  intro D xa w5 hD hC hd
  obtain ⟨hdc, _⟩ := hC
  rw [cn_all (l := [3]) (fun i hi => hD i (by simp at hi; simp; omega))] at hdc
  change DC B w g (q + 1 + 1) _ _ _ _ _ _ _ at hdc
  obtain ⟨_, m', e1, e2, e3, e4, hf, hmm, hob⟩ := hd 8 (by decide)
  obtain ⟨ok, hx, hsz⟩ := hf
  change xa 12 = _ at hx
  obtain ⟨vs, h1, h2⟩ := hd 9 (by decide)
  have dO : xa 6 = .bool ok := tpl_get h1 h2 hx rfl
  simp only [fillA, Act.put, sA9, sB9, sC9, dO]
  clear hd h1 h2 hx hD
  have hwr : w5.heap.size ≥ w.heap.size := hdc.gr.size
  cases ok with
  | false =>
   have HR5 := Hd (hdc.own (b := w.heap.size + 1) (t := 48) (cs := #[.slice none 0 0, .slice none 0 0, .slice none 0 0, .int .i64 0, .int .i64 0, .int .i64 0, .int .i64 0, .slice none 0 0, .int .i64 0]) (by simp))
   have hx5 := hdc.own (b := w.heap.size) (t := 48) (cs := #[.slice A1 m.t.bs.length c1, .slice A2 m.t.fs.length c2, .slice A3 m.c.ls.length c3, .int .i64 m.c.hand, .int .i64 m.g.count, .int .i64 m.g.next, .int .i64 m.g.round, .slice A4 m.g.os.length c4, .int .i64 m.sp]) (by simp)
   have HMM5 := Hd hdc.mm
   have HRD5 := Hd hdc.rd
   have HGR5 := Hd hdc.gr
   have HZZ := Hd hz
   obtain ⟨p0o, p1o, p2o, p3o, p4o, p5o, p6o, p7o, p8o⟩ := cells9 hx5
   have hlx := hx5.lt
   clear hx5 hdc hob hmm
   obtain ⟨r0x, r1x, r2x, r3x, r4x, r5x, r6x, r7x, r8x⟩ := cells9 HR5.out
   obtain ⟨z0x, z1x, z2x, z3x, z4x, z5x, z6x, z7x, z8x⟩ := free9 HR5.out
   have hlr := HR5.out.lt
   go_wp2
   have o3 := HR5.out.set9 (.slice A1 m.t.bs.length c1) (.slice A2 m.t.fs.length c2) (.slice A3 m.c.ls.length c3) (.int .i64 (m).c.hand) (.int .i64 (m).g.count) (.int .i64 (m).g.next) (.int .i64 (m).g.round) (.slice A4 m.g.os.length c4) (.int .i64 (m).sp)
   obtain ⟨p0t, p1t, p2t, p3t, p4t, p5t, p6t, p7t, p8t⟩ := cells9 o3
   refine bodyPost_ret (v := .agg #[.slice A1 m.t.bs.length c1, .slice A2 m.t.fs.length c2, .slice A3 m.c.ls.length c3, .int .i64 m.c.hand, .int .i64 m.g.count, .int .i64 m.g.next, .int .i64 m.g.round, .slice A4 m.g.os.length c4, .int .i64 m.sp]) (by simp [results, Tryz.results171, go_sem, p0t, p1t, p2t, p3t, p4t, p5t, p6t, p7t, p8t]) rfl ⟨_, rfl, m, _, _, _, _, q + 1 + 1, rfl, HMM5.out.far9 HR5.out _ _ _ _ _ _ _ _ _, HZZ.out, ?_, by omega, ?_⟩
   ·repeat (refine rdr_set1 (by omega) ?_)
    exact HRD5.out
   ·repeat (refine g_set (by omega) ?_)
    exact HGR5.out
  | true =>
   have HR5 := Hd (hdc.own (b := w.heap.size + 1) (t := 48) (cs := #[.slice none 0 0, .slice none 0 0, .slice none 0 0, .int .i64 0, .int .i64 0, .int .i64 0, .int .i64 0, .slice none 0 0, .int .i64 0]) (by simp))
   have HMM5 := Hd hmm
   have HRD5 := Hd hdc.rd
   have HGR5 := Hd hdc.gr
   have HZZ := Hd (hsz rfl)
   obtain ⟨G1, j1, rfl, _⟩ := hmm.t.b
   obtain ⟨G2, j2, rfl, _⟩ := hmm.t.f
   obtain ⟨G3, j3, rfl, _⟩ := hmm.l
   obtain ⟨G4, j4, rfl, _⟩ := hmm.o
   obtain ⟨p0o, p1o, p2o, p3o, p4o, p5o, p6o, p7o, p8o⟩ := cells9 hob
   have hlx := hob.lt
   clear hob hdc hmm
   obtain ⟨r0x, r1x, r2x, r3x, r4x, r5x, r6x, r7x, r8x⟩ := cells9 HR5.out
   obtain ⟨z0x, z1x, z2x, z3x, z4x, z5x, z6x, z7x, z8x⟩ := free9 HR5.out
   have hlr := HR5.out.lt
   go_wp2
   have o3 := HR5.out.set9 (.slice G1 m'.t.bs.length j1) (.slice G2 m'.t.fs.length j2) (.slice G3 m'.c.ls.length j3) (.int .i64 (m').c.hand) (.int .i64 (m').g.count) (.int .i64 (m').g.next) (.int .i64 (m').g.round) (.slice G4 m'.g.os.length j4) (.int .i64 (m').sp)
   obtain ⟨p0t, p1t, p2t, p3t, p4t, p5t, p6t, p7t, p8t⟩ := cells9 o3
   refine bodyPost_ret (v := .agg #[.slice G1 m'.t.bs.length j1, .slice G2 m'.t.fs.length j2, .slice G3 m'.c.ls.length j3, .int .i64 m'.c.hand, .int .i64 m'.g.count, .int .i64 m'.g.next, .int .i64 m'.g.round, .slice G4 m'.g.os.length j4, .int .i64 m'.sp]) (by simp [results, Tryz.results171, go_sem, p0t, p1t, p2t, p3t, p4t, p5t, p6t, p7t, p8t]) rfl ⟨_, rfl, m', _, _, _, _, q + 1 + 1, rfl, HMM5.out.far9 HR5.out _ _ _ _ _ _ _ _ _, HZZ.out, ?_, by omega, ?_⟩
   ·repeat (refine rdr_set1 (by omega) ?_)
    exact HRD5.out
   ·repeat (refine g_set (by omega) ?_)
    exact HGR5.out
 ·go_wp2
  refine wp_region_rel2 (by kernel_rfl) [25, 26, 27, 28, 29, 30, 31, 32, 33, 34, 35, 36, 37, 38, 39, 40, 24, 41, 42, 6] [[25], [26], [27], [28], [29], [30], [31], [32], [33], [34], [35], [36], [37], [38], [39], [40], [24], [24, 41], [24, 42], [24], [24, 6]] (CX B w g (q + 1) [(w.heap.size, 48, #[.slice A1 m.t.bs.length c1, .slice A2 m.t.fs.length c2, .slice A3 m.c.ls.length c3, .int .i64 m.c.hand, .int .i64 m.g.count, .int .i64 m.g.next, .int .i64 m.g.round, .slice A4 m.g.os.length c4, .int .i64 m.sp]), (w.heap.size + 1, 48, #[.slice none 0 0, .slice none 0 0, .slice none 0 0, .int .i64 0, .int .i64 0, .int .i64 0, .int .i64 0, .slice none 0 0, .int .i64 0])] (.slice A1 m.t.bs.length c1) (.slice A2 m.t.fs.length c2) (.slice A3 m.c.ls.length c3) (.slice A4 m.g.os.length c4) m [2, 4, 11, 14] 19 (some (w.heap.size + 1 + 1))) (kxs (si := 19) [KX.eq 25 (.agg #[.slice A1 m.t.bs.length c1, .slice A2 m.t.fs.length c2, .slice A3 m.c.ls.length c3, .int .i64 m.c.hand, .int .i64 m.g.count, .int .i64 m.g.next, .int .i64 m.g.round, .slice A4 m.g.os.length c4, .int .i64 m.sp]), KX.eq 26 (.pointer (some ⟨g, 0, none⟩)), KX.sat 27 isN, KX.eq 28 (.pointer (some ⟨g, 0, none⟩)), KX.sat 29 isN, KX.sat 30 isK, KX.eq 31 (.pointer (some ⟨g, 0, none⟩)), KX.eq 32 (.pointer (some ⟨w.heap.size, 0, none⟩)), KX.eq 33 (.pointer (some ⟨w.heap.size, 1, none⟩)), KX.eq 34 (.slice A2 m.t.fs.length c2), KX.eq 35 (.int .i64 (m.t.fs.length : Int)), KX.sat 36 isN, KX.eq 37 (.pointer (some ⟨g, 0, none⟩)), KX.lit 38 #[.int .i64 3, .int .i64 1, .int .i64 7] 3, KX.sat 39 isN, KX.tup 40 B okM, KX.tup 24 B okM, KX.fst 24 41 B okM, KX.part 24 42 1, KX.put 24 (w.heap.size + 1 + 1) B okM, KX.part 24 6 1]) (tX 19) (by kernel_rfl) ?_ (kxs_loc (si := 19) (ks := [KX.eq 25 (.agg #[.slice A1 m.t.bs.length c1, .slice A2 m.t.fs.length c2, .slice A3 m.c.ls.length c3, .int .i64 m.c.hand, .int .i64 m.g.count, .int .i64 m.g.next, .int .i64 m.g.round, .slice A4 m.g.os.length c4, .int .i64 m.sp]), KX.eq 26 (.pointer (some ⟨g, 0, none⟩)), KX.sat 27 isN, KX.eq 28 (.pointer (some ⟨g, 0, none⟩)), KX.sat 29 isN, KX.sat 30 isK, KX.eq 31 (.pointer (some ⟨g, 0, none⟩)), KX.eq 32 (.pointer (some ⟨w.heap.size, 0, none⟩)), KX.eq 33 (.pointer (some ⟨w.heap.size, 1, none⟩)), KX.eq 34 (.slice A2 m.t.fs.length c2), KX.eq 35 (.int .i64 (m.t.fs.length : Int)), KX.sat 36 isN, KX.eq 37 (.pointer (some ⟨g, 0, none⟩)), KX.lit 38 #[.int .i64 3, .int .i64 1, .int .i64 7] 3, KX.sat 39 isN, KX.tup 40 B okM, KX.tup 24 B okM, KX.fst 24 41 B okM, KX.part 24 42 1, KX.put 24 (w.heap.size + 1 + 1) B okM, KX.part 24 6 1])) kxs_keep ?_ ?_
  ·refine ⟨?_, fun b hb _ => ?_⟩
   ·rw [cn_zero]
    exact HD1.out.below (bD bR)
   ·injection hb with hb
    subst hb
    exact ⟨_, rfl, HN.out⟩
  ·intro i o ho D x v hD hC hd K hK
   match i, ho with
   | 0, ho =>
    cases ho
    simp only [fillA, Act.put, sA9, sB9, sC9] at hK ⊢
    have hx := hC.1.own (b := w.heap.size) (t := 48) (cs := #[.slice A1 m.t.bs.length c1, .slice A2 m.t.fs.length c2, .slice A3 m.c.ls.length c3, .int .i64 m.c.hand, .int .i64 m.g.count, .int .i64 m.g.next, .int .i64 m.g.round, .slice A4 m.g.os.length c4, .int .i64 m.sp]) (by simp)
    obtain ⟨z0, z1, z2, z3, z4, z5, z6, z7, z8⟩ := cells9 hx
    go_simp
    exact hK _ _ (tX_same (by decide)) (hC.same (by decide) (by decide)) rfl
   | 1, ho =>
    cases ho
    simp only [fillA, Act.put, sA9, sB9, sC9] at hK ⊢
    go_simp
    exact hK _ _ (tX_same (by decide)) (hC.same (by decide) (by decide)) rfl
   | 2, ho =>
    cases ho
    simp only [fillA, Act.put, sA9, sB9, sC9] at hK ⊢
    have d0 := hd 1 ⟨⟨1, .data⟩, by simp, rfl, rfl⟩
    change x 26 = .pointer (some ⟨g, 0, none⟩) at d0
    simp only [d0] at hK ⊢
    have hcn : cn D [2, 4, 11, 14] ≤ 4 := cn_le D _
    go_wp2_with fail
    refine (pick_any B g (q + 1 + cn D [2, 4, 11, 14]) 3 v hC.1.rd (by omega) (by omega)).mono ?_
    rintro e v' ⟨z, rfl, _, _, hrd, hgr⟩
    go_simp
    exact hK _ _ (tX_oth (by decide) (hC.1.oth hgr)) (hC.read hD (by decide) (by decide) (by decide) hrd hgr) ⟨_, rfl⟩
   | 3, ho =>
    cases ho
    simp only [fillA, Act.put, sA9, sB9, sC9] at hK ⊢
    go_simp
    exact hK _ _ (tX_same (by decide)) (hC.same (by decide) (by decide)) rfl
   | 4, ho =>
    cases ho
    simp only [fillA, Act.put, sA9, sB9, sC9] at hK ⊢
    have d0 := hd 3 ⟨⟨3, .data⟩, by simp, rfl, rfl⟩
    change x 28 = .pointer (some ⟨g, 0, none⟩) at d0
    simp only [d0] at hK ⊢
    have hcn : cn D [2, 4, 11, 14] ≤ 4 := cn_le D _
    go_wp2_with fail
    refine (l6Page_any B g (q + 1 + cn D [2, 4, 11, 14]) v hC.1.rd (by omega)).mono ?_
    rintro e v' ⟨z, rfl, hrd, hgr⟩
    go_simp
    exact hK _ _ (tX_oth (by decide) (hC.1.oth hgr)) (hC.read hD (by decide) (by decide) (by decide) hrd hgr) ⟨_, rfl⟩
   | 5, ho =>
    cases ho
    simp only [fillA, Act.put, sA9, sB9, sC9] at hK ⊢
    have d0 := hd 2 ⟨⟨2, .data⟩, by simp, rfl, rfl⟩
    obtain ⟨nd0, d0⟩ := d0
    change x 27 = .int .i64 nd0 at d0
    have d1 := hd 4 ⟨⟨4, .data⟩, by simp, rfl, rfl⟩
    obtain ⟨nd1, d1⟩ := d1
    change x 29 = .int .i64 nd1 at d1
    simp only [d0, d1] at hK ⊢
    go_wp2_with fail
    refine (sKeyFor_any _ _ _).mono ?_
    rintro e v' ⟨rfl, hb⟩
    go_simp
    exact hK _ _ (tX_below (by decide) hb) (hC.below hb (by decide) (by decide)) ⟨_, _, rfl⟩
   | 6, ho =>
    cases ho
    simp only [fillA, Act.put, sA9, sB9, sC9] at hK ⊢
    go_simp
    exact hK _ _ (tX_same (by decide)) (hC.same (by decide) (by decide)) rfl
   | 7, ho =>
    cases ho
    simp only [fillA, Act.put, sA9, sB9, sC9] at hK ⊢
    go_simp
    exact hK _ _ (tX_same (by decide)) (hC.same (by decide) (by decide)) rfl
   | 8, ho =>
    cases ho
    simp only [fillA, Act.put, sA9, sB9, sC9] at hK ⊢
    have d0 := hd 7 ⟨⟨7, .data⟩, by simp, rfl, rfl⟩
    change x 32 = .pointer (some ⟨w.heap.size, 0, none⟩) at d0
    simp only [d0] at hK ⊢
    go_simp
    exact hK _ _ (tX_same (by decide)) (hC.same (by decide) (by decide)) rfl
   | 9, ho =>
    cases ho
    simp only [fillA, Act.put, sA9, sB9, sC9] at hK ⊢
    have d0 := hd 8 ⟨⟨8, .data⟩, by simp, rfl, rfl⟩
    change x 33 = .pointer (some ⟨w.heap.size, 1, none⟩) at d0
    have hx := hC.1.own (b := w.heap.size) (t := 48) (cs := #[.slice A1 m.t.bs.length c1, .slice A2 m.t.fs.length c2, .slice A3 m.c.ls.length c3, .int .i64 m.c.hand, .int .i64 m.g.count, .int .i64 m.g.next, .int .i64 m.g.round, .slice A4 m.g.os.length c4, .int .i64 m.sp]) (by simp)
    have z1 := hx.cell_ 1 (v := .slice A2 m.t.fs.length c2) rfl
    simp only [d0] at hK ⊢
    go_simp
    exact hK _ _ (tX_same (by decide)) (hC.same (by decide) (by decide)) rfl
   | 10, ho =>
    cases ho
    simp only [fillA, Act.put, sA9, sB9, sC9] at hK ⊢
    have d0 := hd 9 ⟨⟨9, .data⟩, by simp, rfl, rfl⟩
    change x 34 = .slice A2 m.t.fs.length c2 at d0
    simp only [d0] at hK ⊢
    go_simp
    exact hK _ _ (tX_same (by decide)) (hC.same (by decide) (by decide)) rfl
   | 11, ho =>
    cases ho
    simp only [fillA, Act.put, sA9, sB9, sC9] at hK ⊢
    have d0 := hd 6 ⟨⟨6, .data⟩, by simp, rfl, rfl⟩
    change x 31 = .pointer (some ⟨g, 0, none⟩) at d0
    have d1 := hd 10 ⟨⟨10, .data⟩, by simp, rfl, rfl⟩
    change x 35 = .int .i64 (m.t.fs.length : Int) at d1
    simp only [d0, d1] at hK ⊢
    have hcn : cn D [2, 4, 11, 14] ≤ 4 := cn_le D _
    go_wp2_with fail
    refine (pick_any B g (q + 1 + cn D [2, 4, 11, 14]) (m.t.fs.length : Int) v hC.1.rd (by omega) (by omega)).mono ?_
    rintro e v' ⟨z, rfl, _, _, hrd, hgr⟩
    go_simp
    exact hK _ _ (tX_oth (by decide) (hC.1.oth hgr)) (hC.read hD (by decide) (by decide) (by decide) hrd hgr) ⟨_, rfl⟩
   | 12, ho =>
    cases ho
    simp only [fillA, Act.put, sA9, sB9, sC9] at hK ⊢
    go_simp
    exact hK _ _ (tX_same (by decide)) (hC.same (by decide) (by decide)) rfl
   | 13, ho =>
    cases ho
    simp only [fillA, Act.put, sA9, sB9, sC9] at hK ⊢
    go_simp
    exact hK _ _ (tX_below (by decide) (bA bR)) (hC.below (bA bR) (by decide) (by decide)) ⟨_, rfl, Own.new_ _ _ _⟩
   | 14, ho =>
    cases ho
    simp only [fillA, Act.put, sA9, sB9, sC9] at hK ⊢
    have d0 := hd 12 ⟨⟨12, .data⟩, by simp, rfl, rfl⟩
    change x 37 = .pointer (some ⟨g, 0, none⟩) at d0
    have d1 := hd 13 ⟨⟨13, .data⟩, by simp, rfl, rfl⟩
    obtain ⟨gd1, d1, od1⟩ := d1
    change x 38 = .slice (some ⟨gd1, 0, none⟩) 3 3 at d1
    simp only [d0, d1] at hK ⊢
    have hcn : cn D [2, 4, 11, 14] ≤ 4 := cn_le D _
    obtain ⟨Ar, nr, cr, hor, _⟩ := hC.1.rd.ok
    go_wp2_with fail
    refine (num_any B g (q + 1 + cn D [2, 4, 11, 14]) gd1 [3, 1, 7] v hC.1.rd od1 (od1.ne hor (by decide)) (by omega) (by simp) (by simp)).mono ?_
    rintro e v' ⟨z, rfl, _, hrd, hgr⟩
    go_simp
    exact hK _ _ (tX_oth (by decide) (hC.1.oth hgr)) (hC.read hD (by decide) (by decide) (by decide) hrd hgr) ⟨_, rfl⟩
   | 15, ho =>
    cases ho
    simp only [fillA, Act.put, sA9, sB9, sC9] at hK ⊢
    have d0 := hd 0 ⟨⟨0, .data⟩, by simp, rfl, rfl⟩
    change x 25 = .agg #[.slice A1 m.t.bs.length c1, .slice A2 m.t.fs.length c2, .slice A3 m.c.ls.length c3, .int .i64 m.c.hand, .int .i64 m.g.count, .int .i64 m.g.next, .int .i64 m.g.round, .slice A4 m.g.os.length c4, .int .i64 m.sp] at d0
    have d1 := hd 5 ⟨⟨5, .data⟩, by simp, rfl, rfl⟩
    obtain ⟨ad1, bd1, d1⟩ := d1
    change x 30 = .agg #[.int .i64 ad1, .int .i64 bd1] at d1
    have d2 := hd 11 ⟨⟨11, .data⟩, by simp, rfl, rfl⟩
    obtain ⟨nd2, d2⟩ := d2
    change x 36 = .int .i64 nd2 at d2
    have d3 := hd 14 ⟨⟨14, .data⟩, by simp, rfl, rfl⟩
    obtain ⟨nd3, d3⟩ := d3
    change x 39 = .int .i64 nd3 at d3
    simp only [d0, d1, d2, d3] at hK ⊢
    have hBv : B ≤ v.heap.size := Nat.le_trans hBw hC.1.gr.size
    go_wp2_with fail
    refine (sPutPage_any _ _ _ _ m _ _ _ _ v hC.1.mm.r).mono ?_
    rintro e v' ⟨_, rfl, e1, e2, e3, e4, rfl, hm, hb⟩
    go_simp
    exact hK _ _ (tX_below (by decide) hb) (hC.below hb (by decide) (by decide)) ⟨_, e1, e2, e3, e4, ⟨_, rfl, fun h => (Sz.of (mav_put h)).up (by omega)⟩, hm.mono hBv⟩
   | 16, ho =>
    cases ho
    simp only [fillA, Act.put, sA9, sB9, sC9] at hK ⊢
    obtain ⟨m', e1, e2, e3, e4, ⟨ok, hx, hsz⟩, hm⟩ := hd 15 ⟨⟨15, .data⟩, by simp, rfl, rfl⟩
    change x 40 = _ at hx
    simp only [hx] at hK ⊢
    go_simp
    exact hK _ _ (tX_same (by decide)) (hC.same (by decide) (by decide)) ⟨m', e1, e2, e3, e4, ⟨ok, rfl, hsz⟩, hm⟩
   | 17, ho =>
    cases ho
    simp only [fillA, Act.put, sA9, sB9, sC9] at hK ⊢
    obtain ⟨m', e1, e2, e3, e4, ⟨ok, hx, hsz⟩, hm⟩ := hd 16 ⟨⟨16, .data⟩, by simp, rfl, rfl⟩
    change x 24 = _ at hx
    have hx' := hx
    simp only [hx'] at hK ⊢
    go_simp
    exact hK _ _ (tX_same (by decide)) (hC.same (by decide) (by decide)) ⟨m', e1, e2, e3, e4, ⟨ok, hx, hsz⟩, rfl, hm⟩
   | 18, ho =>
    cases ho
    simp only [fillA, Act.put, sA9, sB9, sC9] at hK ⊢
    obtain ⟨m', e1, e2, e3, e4, ⟨ok, hx, hsz⟩, hm⟩ := hd 16 ⟨⟨16, .data⟩, by simp, rfl, rfl⟩
    change x 24 = _ at hx
    have hx' := hx
    simp only [hx'] at hK ⊢
    go_simp
    exact hK _ _ (tX_same (by decide)) (hC.same (by decide) (by decide)) ⟨_, hx, rfl⟩
   | 19, ho =>
    cases ho
    simp only [fillA, Act.put, sA9, sB9, sC9] at hK ⊢
    obtain ⟨m', e1, e2, e3, e4, hf, hx, hm⟩ := hd 17 ⟨⟨17, .data⟩, by simp, rfl, rfl⟩
    change x 41 = _ at hx
    obtain ⟨cs, hcs, ho⟩ := hC.2 _ rfl hD
    obtain ⟨E1, n1, rfl, _⟩ := hm.t.b
    obtain ⟨E2, n2, rfl, _⟩ := hm.t.f
    obtain ⟨E3, n3, rfl, _⟩ := hm.l
    obtain ⟨E4, n4, rfl, _⟩ := hm.o
    obtain ⟨cs⟩ := cs
    obtain ⟨k0, k1, k2, k3, k4, k5, k6, k7, k8, rfl⟩ := len_nine hcs
    obtain ⟨z0, z1, z2, z3, z4, z5, z6, z7, z8⟩ := cells9 ho
    obtain ⟨y0, y1, y2, y3, y4, y5, y6, y7, y8⟩ := free9 ho
    have hlo := ho.lt
    simp only [hx] at hK ⊢
    go_simp
    refine hK undef _ (tX_store (stS_set9 ho _ _ _ _ _ _ _ _ _)) (hC.store (by decide) (by omega) hgw (by intro e he; simp at he; rcases he with rfl | rfl <;> first | (show w.heap.size ≠ w.heap.size + 1 + 1; omega) | (show w.heap.size + 1 ≠ w.heap.size + 1 + 1; omega)) ho _ _ _ _ _ _ _ _ _) ⟨rfl, m', _, _, _, _, hf, hm.oth (stS_set9 ho _ _ _ _ _ _ _ _ _).1 (by decide) (by decide) (by decide) (by decide), ho.set9 _ _ _ _ _ _ _ _ _⟩
   | 20, ho =>
    cases ho
    simp only [fillA, Act.put, sA9, sB9, sC9] at hK ⊢
    go_simp
    obtain ⟨vs, h1, h2⟩ := hd 18 ⟨⟨18, .data⟩, by simp, rfl, rfl⟩
    exact hK _ _ (tX_same (by decide)) (hC.same (by decide) (by decide)) ⟨vs, h1, h2⟩
   | _ + 21, ho => simp at ho
  intro D xa w5 hD hC hd
  obtain ⟨hdc, _⟩ := hC
  rw [cn_all (l := [2, 4, 11, 14]) (fun i hi => hD i (by simp at hi; simp; omega))] at hdc
  change DC B w g (q + 1 + 4) _ _ _ _ _ _ _ at hdc
  obtain ⟨_, m', e1, e2, e3, e4, hf, hmm, hob⟩ := hd 19 (by decide)
  obtain ⟨ok, hx, hsz⟩ := hf
  change xa 24 = _ at hx
  obtain ⟨vs, h1, h2⟩ := hd 20 (by decide)
  have dO : xa 6 = .bool ok := tpl_get h1 h2 hx rfl
  simp only [fillA, Act.put, sA9, sB9, sC9, dO]
  clear hd h1 h2 hx hD
  have hwr : w5.heap.size ≥ w.heap.size := hdc.gr.size
  cases ok with
  | false =>
   have HR5 := Hd (hdc.own (b := w.heap.size + 1) (t := 48) (cs := #[.slice none 0 0, .slice none 0 0, .slice none 0 0, .int .i64 0, .int .i64 0, .int .i64 0, .int .i64 0, .slice none 0 0, .int .i64 0]) (by simp))
   have hx5 := hdc.own (b := w.heap.size) (t := 48) (cs := #[.slice A1 m.t.bs.length c1, .slice A2 m.t.fs.length c2, .slice A3 m.c.ls.length c3, .int .i64 m.c.hand, .int .i64 m.g.count, .int .i64 m.g.next, .int .i64 m.g.round, .slice A4 m.g.os.length c4, .int .i64 m.sp]) (by simp)
   have HMM5 := Hd hdc.mm
   have HRD5 := Hd hdc.rd
   have HGR5 := Hd hdc.gr
   have HZZ := Hd hz
   obtain ⟨p0o, p1o, p2o, p3o, p4o, p5o, p6o, p7o, p8o⟩ := cells9 hx5
   have hlx := hx5.lt
   clear hx5 hdc hob hmm
   obtain ⟨r0x, r1x, r2x, r3x, r4x, r5x, r6x, r7x, r8x⟩ := cells9 HR5.out
   obtain ⟨z0x, z1x, z2x, z3x, z4x, z5x, z6x, z7x, z8x⟩ := free9 HR5.out
   have hlr := HR5.out.lt
   go_wp2
   have o3 := HR5.out.set9 (.slice A1 m.t.bs.length c1) (.slice A2 m.t.fs.length c2) (.slice A3 m.c.ls.length c3) (.int .i64 (m).c.hand) (.int .i64 (m).g.count) (.int .i64 (m).g.next) (.int .i64 (m).g.round) (.slice A4 m.g.os.length c4) (.int .i64 (m).sp)
   obtain ⟨p0t, p1t, p2t, p3t, p4t, p5t, p6t, p7t, p8t⟩ := cells9 o3
   refine bodyPost_ret (v := .agg #[.slice A1 m.t.bs.length c1, .slice A2 m.t.fs.length c2, .slice A3 m.c.ls.length c3, .int .i64 m.c.hand, .int .i64 m.g.count, .int .i64 m.g.next, .int .i64 m.g.round, .slice A4 m.g.os.length c4, .int .i64 m.sp]) (by simp [results, Tryz.results171, go_sem, p0t, p1t, p2t, p3t, p4t, p5t, p6t, p7t, p8t]) rfl ⟨_, rfl, m, _, _, _, _, q + 1 + 4, rfl, HMM5.out.far9 HR5.out _ _ _ _ _ _ _ _ _, HZZ.out, ?_, by omega, ?_⟩
   ·repeat (refine rdr_set1 (by omega) ?_)
    exact HRD5.out
   ·repeat (refine g_set (by omega) ?_)
    exact HGR5.out
  | true =>
   have HR5 := Hd (hdc.own (b := w.heap.size + 1) (t := 48) (cs := #[.slice none 0 0, .slice none 0 0, .slice none 0 0, .int .i64 0, .int .i64 0, .int .i64 0, .int .i64 0, .slice none 0 0, .int .i64 0]) (by simp))
   have HMM5 := Hd hmm
   have HRD5 := Hd hdc.rd
   have HGR5 := Hd hdc.gr
   have HZZ := Hd (hsz rfl)
   obtain ⟨G1, j1, rfl, _⟩ := hmm.t.b
   obtain ⟨G2, j2, rfl, _⟩ := hmm.t.f
   obtain ⟨G3, j3, rfl, _⟩ := hmm.l
   obtain ⟨G4, j4, rfl, _⟩ := hmm.o
   obtain ⟨p0o, p1o, p2o, p3o, p4o, p5o, p6o, p7o, p8o⟩ := cells9 hob
   have hlx := hob.lt
   clear hob hdc hmm
   obtain ⟨r0x, r1x, r2x, r3x, r4x, r5x, r6x, r7x, r8x⟩ := cells9 HR5.out
   obtain ⟨z0x, z1x, z2x, z3x, z4x, z5x, z6x, z7x, z8x⟩ := free9 HR5.out
   have hlr := HR5.out.lt
   go_wp2
   have o3 := HR5.out.set9 (.slice G1 m'.t.bs.length j1) (.slice G2 m'.t.fs.length j2) (.slice G3 m'.c.ls.length j3) (.int .i64 (m').c.hand) (.int .i64 (m').g.count) (.int .i64 (m').g.next) (.int .i64 (m').g.round) (.slice G4 m'.g.os.length j4) (.int .i64 (m').sp)
   obtain ⟨p0t, p1t, p2t, p3t, p4t, p5t, p6t, p7t, p8t⟩ := cells9 o3
   refine bodyPost_ret (v := .agg #[.slice G1 m'.t.bs.length j1, .slice G2 m'.t.fs.length j2, .slice G3 m'.c.ls.length j3, .int .i64 m'.c.hand, .int .i64 m'.g.count, .int .i64 m'.g.next, .int .i64 m'.g.round, .slice G4 m'.g.os.length j4, .int .i64 m'.sp]) (by simp [results, Tryz.results171, go_sem, p0t, p1t, p2t, p3t, p4t, p5t, p6t, p7t, p8t]) rfl ⟨_, rfl, m', _, _, _, _, q + 1 + 4, rfl, HMM5.out.far9 HR5.out _ _ _ _ _ _ _ _ _, HZZ.out, ?_, by omega, ?_⟩
   ·repeat (refine rdr_set1 (by omega) ?_)
    exact HRD5.out
   ·repeat (refine g_set (by omega) ?_)
    exact HGR5.out
 ·go_wp2
  refine wp_region_rel2 (by kernel_rfl) [25, 26, 27, 28, 29, 30, 31, 32, 33, 34, 35, 36, 37, 38, 39, 40, 24, 41, 42, 6] [[25], [26], [27], [28], [29], [30], [31], [32], [33], [34], [35], [36], [37], [38], [39], [40], [24], [24, 41], [24, 42], [24], [24, 6]] (CX B w g (q + 1) [(w.heap.size, 48, #[.slice A1 m.t.bs.length c1, .slice A2 m.t.fs.length c2, .slice A3 m.c.ls.length c3, .int .i64 m.c.hand, .int .i64 m.g.count, .int .i64 m.g.next, .int .i64 m.g.round, .slice A4 m.g.os.length c4, .int .i64 m.sp]), (w.heap.size + 1, 48, #[.slice none 0 0, .slice none 0 0, .slice none 0 0, .int .i64 0, .int .i64 0, .int .i64 0, .int .i64 0, .slice none 0 0, .int .i64 0])] (.slice A1 m.t.bs.length c1) (.slice A2 m.t.fs.length c2) (.slice A3 m.c.ls.length c3) (.slice A4 m.g.os.length c4) m [2, 4, 11, 14] 19 (some (w.heap.size + 1 + 1))) (kxs (si := 19) [KX.eq 25 (.agg #[.slice A1 m.t.bs.length c1, .slice A2 m.t.fs.length c2, .slice A3 m.c.ls.length c3, .int .i64 m.c.hand, .int .i64 m.g.count, .int .i64 m.g.next, .int .i64 m.g.round, .slice A4 m.g.os.length c4, .int .i64 m.sp]), KX.eq 26 (.pointer (some ⟨g, 0, none⟩)), KX.sat 27 isN, KX.eq 28 (.pointer (some ⟨g, 0, none⟩)), KX.sat 29 isN, KX.sat 30 isK, KX.eq 31 (.pointer (some ⟨g, 0, none⟩)), KX.eq 32 (.pointer (some ⟨w.heap.size, 0, none⟩)), KX.eq 33 (.pointer (some ⟨w.heap.size, 1, none⟩)), KX.eq 34 (.slice A2 m.t.fs.length c2), KX.eq 35 (.int .i64 (m.t.fs.length : Int)), KX.sat 36 isN, KX.eq 37 (.pointer (some ⟨g, 0, none⟩)), KX.lit 38 #[.int .i64 3, .int .i64 1, .int .i64 7] 3, KX.sat 39 isN, KX.tup 40 B okM, KX.tup 24 B okM, KX.fst 24 41 B okM, KX.part 24 42 1, KX.put 24 (w.heap.size + 1 + 1) B okM, KX.part 24 6 1]) (tX 19) (by kernel_rfl) ?_ (kxs_loc (si := 19) (ks := [KX.eq 25 (.agg #[.slice A1 m.t.bs.length c1, .slice A2 m.t.fs.length c2, .slice A3 m.c.ls.length c3, .int .i64 m.c.hand, .int .i64 m.g.count, .int .i64 m.g.next, .int .i64 m.g.round, .slice A4 m.g.os.length c4, .int .i64 m.sp]), KX.eq 26 (.pointer (some ⟨g, 0, none⟩)), KX.sat 27 isN, KX.eq 28 (.pointer (some ⟨g, 0, none⟩)), KX.sat 29 isN, KX.sat 30 isK, KX.eq 31 (.pointer (some ⟨g, 0, none⟩)), KX.eq 32 (.pointer (some ⟨w.heap.size, 0, none⟩)), KX.eq 33 (.pointer (some ⟨w.heap.size, 1, none⟩)), KX.eq 34 (.slice A2 m.t.fs.length c2), KX.eq 35 (.int .i64 (m.t.fs.length : Int)), KX.sat 36 isN, KX.eq 37 (.pointer (some ⟨g, 0, none⟩)), KX.lit 38 #[.int .i64 3, .int .i64 1, .int .i64 7] 3, KX.sat 39 isN, KX.tup 40 B okM, KX.tup 24 B okM, KX.fst 24 41 B okM, KX.part 24 42 1, KX.put 24 (w.heap.size + 1 + 1) B okM, KX.part 24 6 1])) kxs_keep ?_ ?_
  ·refine ⟨?_, fun b hb _ => ?_⟩
   ·rw [cn_zero]
    exact HD1.out.below (bD bR)
   ·injection hb with hb
    subst hb
    exact ⟨_, rfl, HN.out⟩
  ·intro i o ho D x v hD hC hd K hK
   match i, ho with
   | 0, ho =>
    cases ho
    simp only [fillA, Act.put, sA9, sB9, sC9] at hK ⊢
    have hx := hC.1.own (b := w.heap.size) (t := 48) (cs := #[.slice A1 m.t.bs.length c1, .slice A2 m.t.fs.length c2, .slice A3 m.c.ls.length c3, .int .i64 m.c.hand, .int .i64 m.g.count, .int .i64 m.g.next, .int .i64 m.g.round, .slice A4 m.g.os.length c4, .int .i64 m.sp]) (by simp)
    obtain ⟨z0, z1, z2, z3, z4, z5, z6, z7, z8⟩ := cells9 hx
    go_simp
    exact hK _ _ (tX_same (by decide)) (hC.same (by decide) (by decide)) rfl
   | 1, ho =>
    cases ho
    simp only [fillA, Act.put, sA9, sB9, sC9] at hK ⊢
    go_simp
    exact hK _ _ (tX_same (by decide)) (hC.same (by decide) (by decide)) rfl
   | 2, ho =>
    cases ho
    simp only [fillA, Act.put, sA9, sB9, sC9] at hK ⊢
    have d0 := hd 1 ⟨⟨1, .data⟩, by simp, rfl, rfl⟩
    change x 26 = .pointer (some ⟨g, 0, none⟩) at d0
    simp only [d0] at hK ⊢
    have hcn : cn D [2, 4, 11, 14] ≤ 4 := cn_le D _
    go_wp2_with fail
    refine (pick_any B g (q + 1 + cn D [2, 4, 11, 14]) 3 v hC.1.rd (by omega) (by omega)).mono ?_
    rintro e v' ⟨z, rfl, _, _, hrd, hgr⟩
    go_simp
    exact hK _ _ (tX_oth (by decide) (hC.1.oth hgr)) (hC.read hD (by decide) (by decide) (by decide) hrd hgr) ⟨_, rfl⟩
   | 3, ho =>
    cases ho
    simp only [fillA, Act.put, sA9, sB9, sC9] at hK ⊢
    go_simp
    exact hK _ _ (tX_same (by decide)) (hC.same (by decide) (by decide)) rfl
   | 4, ho =>
    cases ho
    simp only [fillA, Act.put, sA9, sB9, sC9] at hK ⊢
    have d0 := hd 3 ⟨⟨3, .data⟩, by simp, rfl, rfl⟩
    change x 28 = .pointer (some ⟨g, 0, none⟩) at d0
    simp only [d0] at hK ⊢
    have hcn : cn D [2, 4, 11, 14] ≤ 4 := cn_le D _
    go_wp2_with fail
    refine (l6Page_any B g (q + 1 + cn D [2, 4, 11, 14]) v hC.1.rd (by omega)).mono ?_
    rintro e v' ⟨z, rfl, hrd, hgr⟩
    go_simp
    exact hK _ _ (tX_oth (by decide) (hC.1.oth hgr)) (hC.read hD (by decide) (by decide) (by decide) hrd hgr) ⟨_, rfl⟩
   | 5, ho =>
    cases ho
    simp only [fillA, Act.put, sA9, sB9, sC9] at hK ⊢
    have d0 := hd 2 ⟨⟨2, .data⟩, by simp, rfl, rfl⟩
    obtain ⟨nd0, d0⟩ := d0
    change x 27 = .int .i64 nd0 at d0
    have d1 := hd 4 ⟨⟨4, .data⟩, by simp, rfl, rfl⟩
    obtain ⟨nd1, d1⟩ := d1
    change x 29 = .int .i64 nd1 at d1
    simp only [d0, d1] at hK ⊢
    go_wp2_with fail
    refine (sKeyFor_any _ _ _).mono ?_
    rintro e v' ⟨rfl, hb⟩
    go_simp
    exact hK _ _ (tX_below (by decide) hb) (hC.below hb (by decide) (by decide)) ⟨_, _, rfl⟩
   | 6, ho =>
    cases ho
    simp only [fillA, Act.put, sA9, sB9, sC9] at hK ⊢
    go_simp
    exact hK _ _ (tX_same (by decide)) (hC.same (by decide) (by decide)) rfl
   | 7, ho =>
    cases ho
    simp only [fillA, Act.put, sA9, sB9, sC9] at hK ⊢
    go_simp
    exact hK _ _ (tX_same (by decide)) (hC.same (by decide) (by decide)) rfl
   | 8, ho =>
    cases ho
    simp only [fillA, Act.put, sA9, sB9, sC9] at hK ⊢
    have d0 := hd 7 ⟨⟨7, .data⟩, by simp, rfl, rfl⟩
    change x 32 = .pointer (some ⟨w.heap.size, 0, none⟩) at d0
    simp only [d0] at hK ⊢
    go_simp
    exact hK _ _ (tX_same (by decide)) (hC.same (by decide) (by decide)) rfl
   | 9, ho =>
    cases ho
    simp only [fillA, Act.put, sA9, sB9, sC9] at hK ⊢
    have d0 := hd 8 ⟨⟨8, .data⟩, by simp, rfl, rfl⟩
    change x 33 = .pointer (some ⟨w.heap.size, 1, none⟩) at d0
    have hx := hC.1.own (b := w.heap.size) (t := 48) (cs := #[.slice A1 m.t.bs.length c1, .slice A2 m.t.fs.length c2, .slice A3 m.c.ls.length c3, .int .i64 m.c.hand, .int .i64 m.g.count, .int .i64 m.g.next, .int .i64 m.g.round, .slice A4 m.g.os.length c4, .int .i64 m.sp]) (by simp)
    have z1 := hx.cell_ 1 (v := .slice A2 m.t.fs.length c2) rfl
    simp only [d0] at hK ⊢
    go_simp
    exact hK _ _ (tX_same (by decide)) (hC.same (by decide) (by decide)) rfl
   | 10, ho =>
    cases ho
    simp only [fillA, Act.put, sA9, sB9, sC9] at hK ⊢
    have d0 := hd 9 ⟨⟨9, .data⟩, by simp, rfl, rfl⟩
    change x 34 = .slice A2 m.t.fs.length c2 at d0
    simp only [d0] at hK ⊢
    go_simp
    exact hK _ _ (tX_same (by decide)) (hC.same (by decide) (by decide)) rfl
   | 11, ho =>
    cases ho
    simp only [fillA, Act.put, sA9, sB9, sC9] at hK ⊢
    have d0 := hd 6 ⟨⟨6, .data⟩, by simp, rfl, rfl⟩
    change x 31 = .pointer (some ⟨g, 0, none⟩) at d0
    have d1 := hd 10 ⟨⟨10, .data⟩, by simp, rfl, rfl⟩
    change x 35 = .int .i64 (m.t.fs.length : Int) at d1
    simp only [d0, d1] at hK ⊢
    have hcn : cn D [2, 4, 11, 14] ≤ 4 := cn_le D _
    go_wp2_with fail
    refine (pick_any B g (q + 1 + cn D [2, 4, 11, 14]) (m.t.fs.length : Int) v hC.1.rd (by omega) (by omega)).mono ?_
    rintro e v' ⟨z, rfl, _, _, hrd, hgr⟩
    go_simp
    exact hK _ _ (tX_oth (by decide) (hC.1.oth hgr)) (hC.read hD (by decide) (by decide) (by decide) hrd hgr) ⟨_, rfl⟩
   | 12, ho =>
    cases ho
    simp only [fillA, Act.put, sA9, sB9, sC9] at hK ⊢
    go_simp
    exact hK _ _ (tX_same (by decide)) (hC.same (by decide) (by decide)) rfl
   | 13, ho =>
    cases ho
    simp only [fillA, Act.put, sA9, sB9, sC9] at hK ⊢
    go_simp
    exact hK _ _ (tX_below (by decide) (bA bR)) (hC.below (bA bR) (by decide) (by decide)) ⟨_, rfl, Own.new_ _ _ _⟩
   | 14, ho =>
    cases ho
    simp only [fillA, Act.put, sA9, sB9, sC9] at hK ⊢
    have d0 := hd 12 ⟨⟨12, .data⟩, by simp, rfl, rfl⟩
    change x 37 = .pointer (some ⟨g, 0, none⟩) at d0
    have d1 := hd 13 ⟨⟨13, .data⟩, by simp, rfl, rfl⟩
    obtain ⟨gd1, d1, od1⟩ := d1
    change x 38 = .slice (some ⟨gd1, 0, none⟩) 3 3 at d1
    simp only [d0, d1] at hK ⊢
    have hcn : cn D [2, 4, 11, 14] ≤ 4 := cn_le D _
    obtain ⟨Ar, nr, cr, hor, _⟩ := hC.1.rd.ok
    go_wp2_with fail
    refine (num_any B g (q + 1 + cn D [2, 4, 11, 14]) gd1 [3, 1, 7] v hC.1.rd od1 (od1.ne hor (by decide)) (by omega) (by simp) (by simp)).mono ?_
    rintro e v' ⟨z, rfl, _, hrd, hgr⟩
    go_simp
    exact hK _ _ (tX_oth (by decide) (hC.1.oth hgr)) (hC.read hD (by decide) (by decide) (by decide) hrd hgr) ⟨_, rfl⟩
   | 15, ho =>
    cases ho
    simp only [fillA, Act.put, sA9, sB9, sC9] at hK ⊢
    have d0 := hd 0 ⟨⟨0, .data⟩, by simp, rfl, rfl⟩
    change x 25 = .agg #[.slice A1 m.t.bs.length c1, .slice A2 m.t.fs.length c2, .slice A3 m.c.ls.length c3, .int .i64 m.c.hand, .int .i64 m.g.count, .int .i64 m.g.next, .int .i64 m.g.round, .slice A4 m.g.os.length c4, .int .i64 m.sp] at d0
    have d1 := hd 5 ⟨⟨5, .data⟩, by simp, rfl, rfl⟩
    obtain ⟨ad1, bd1, d1⟩ := d1
    change x 30 = .agg #[.int .i64 ad1, .int .i64 bd1] at d1
    have d2 := hd 11 ⟨⟨11, .data⟩, by simp, rfl, rfl⟩
    obtain ⟨nd2, d2⟩ := d2
    change x 36 = .int .i64 nd2 at d2
    have d3 := hd 14 ⟨⟨14, .data⟩, by simp, rfl, rfl⟩
    obtain ⟨nd3, d3⟩ := d3
    change x 39 = .int .i64 nd3 at d3
    simp only [d0, d1, d2, d3] at hK ⊢
    have hBv : B ≤ v.heap.size := Nat.le_trans hBw hC.1.gr.size
    go_wp2_with fail
    refine (sPutPage_any _ _ _ _ m _ _ _ _ v hC.1.mm.r).mono ?_
    rintro e v' ⟨_, rfl, e1, e2, e3, e4, rfl, hm, hb⟩
    go_simp
    exact hK _ _ (tX_below (by decide) hb) (hC.below hb (by decide) (by decide)) ⟨_, e1, e2, e3, e4, ⟨_, rfl, fun h => (Sz.of (mav_put h)).up (by omega)⟩, hm.mono hBv⟩
   | 16, ho =>
    cases ho
    simp only [fillA, Act.put, sA9, sB9, sC9] at hK ⊢
    obtain ⟨m', e1, e2, e3, e4, ⟨ok, hx, hsz⟩, hm⟩ := hd 15 ⟨⟨15, .data⟩, by simp, rfl, rfl⟩
    change x 40 = _ at hx
    simp only [hx] at hK ⊢
    go_simp
    exact hK _ _ (tX_same (by decide)) (hC.same (by decide) (by decide)) ⟨m', e1, e2, e3, e4, ⟨ok, rfl, hsz⟩, hm⟩
   | 17, ho =>
    cases ho
    simp only [fillA, Act.put, sA9, sB9, sC9] at hK ⊢
    obtain ⟨m', e1, e2, e3, e4, ⟨ok, hx, hsz⟩, hm⟩ := hd 16 ⟨⟨16, .data⟩, by simp, rfl, rfl⟩
    change x 24 = _ at hx
    have hx' := hx
    simp only [hx'] at hK ⊢
    go_simp
    exact hK _ _ (tX_same (by decide)) (hC.same (by decide) (by decide)) ⟨m', e1, e2, e3, e4, ⟨ok, hx, hsz⟩, rfl, hm⟩
   | 18, ho =>
    cases ho
    simp only [fillA, Act.put, sA9, sB9, sC9] at hK ⊢
    obtain ⟨m', e1, e2, e3, e4, ⟨ok, hx, hsz⟩, hm⟩ := hd 16 ⟨⟨16, .data⟩, by simp, rfl, rfl⟩
    change x 24 = _ at hx
    have hx' := hx
    simp only [hx'] at hK ⊢
    go_simp
    exact hK _ _ (tX_same (by decide)) (hC.same (by decide) (by decide)) ⟨_, hx, rfl⟩
   | 19, ho =>
    cases ho
    simp only [fillA, Act.put, sA9, sB9, sC9] at hK ⊢
    obtain ⟨m', e1, e2, e3, e4, hf, hx, hm⟩ := hd 17 ⟨⟨17, .data⟩, by simp, rfl, rfl⟩
    change x 41 = _ at hx
    obtain ⟨cs, hcs, ho⟩ := hC.2 _ rfl hD
    obtain ⟨E1, n1, rfl, _⟩ := hm.t.b
    obtain ⟨E2, n2, rfl, _⟩ := hm.t.f
    obtain ⟨E3, n3, rfl, _⟩ := hm.l
    obtain ⟨E4, n4, rfl, _⟩ := hm.o
    obtain ⟨cs⟩ := cs
    obtain ⟨k0, k1, k2, k3, k4, k5, k6, k7, k8, rfl⟩ := len_nine hcs
    obtain ⟨z0, z1, z2, z3, z4, z5, z6, z7, z8⟩ := cells9 ho
    obtain ⟨y0, y1, y2, y3, y4, y5, y6, y7, y8⟩ := free9 ho
    have hlo := ho.lt
    simp only [hx] at hK ⊢
    go_simp
    refine hK undef _ (tX_store (stS_set9 ho _ _ _ _ _ _ _ _ _)) (hC.store (by decide) (by omega) hgw (by intro e he; simp at he; rcases he with rfl | rfl <;> first | (show w.heap.size ≠ w.heap.size + 1 + 1; omega) | (show w.heap.size + 1 ≠ w.heap.size + 1 + 1; omega)) ho _ _ _ _ _ _ _ _ _) ⟨rfl, m', _, _, _, _, hf, hm.oth (stS_set9 ho _ _ _ _ _ _ _ _ _).1 (by decide) (by decide) (by decide) (by decide), ho.set9 _ _ _ _ _ _ _ _ _⟩
   | 20, ho =>
    cases ho
    simp only [fillA, Act.put, sA9, sB9, sC9] at hK ⊢
    go_simp
    obtain ⟨vs, h1, h2⟩ := hd 18 ⟨⟨18, .data⟩, by simp, rfl, rfl⟩
    exact hK _ _ (tX_same (by decide)) (hC.same (by decide) (by decide)) ⟨vs, h1, h2⟩
   | _ + 21, ho => simp at ho
  intro D xa w5 hD hC hd
  obtain ⟨hdc, _⟩ := hC
  rw [cn_all (l := [2, 4, 11, 14]) (fun i hi => hD i (by simp at hi; simp; omega))] at hdc
  change DC B w g (q + 1 + 4) _ _ _ _ _ _ _ at hdc
  obtain ⟨_, m', e1, e2, e3, e4, hf, hmm, hob⟩ := hd 19 (by decide)
  obtain ⟨ok, hx, hsz⟩ := hf
  change xa 24 = _ at hx
  obtain ⟨vs, h1, h2⟩ := hd 20 (by decide)
  have dO : xa 6 = .bool ok := tpl_get h1 h2 hx rfl
  simp only [fillA, Act.put, sA9, sB9, sC9, dO]
  clear hd h1 h2 hx hD
  have hwr : w5.heap.size ≥ w.heap.size := hdc.gr.size
  cases ok with
  | false =>
   have HR5 := Hd (hdc.own (b := w.heap.size + 1) (t := 48) (cs := #[.slice none 0 0, .slice none 0 0, .slice none 0 0, .int .i64 0, .int .i64 0, .int .i64 0, .int .i64 0, .slice none 0 0, .int .i64 0]) (by simp))
   have hx5 := hdc.own (b := w.heap.size) (t := 48) (cs := #[.slice A1 m.t.bs.length c1, .slice A2 m.t.fs.length c2, .slice A3 m.c.ls.length c3, .int .i64 m.c.hand, .int .i64 m.g.count, .int .i64 m.g.next, .int .i64 m.g.round, .slice A4 m.g.os.length c4, .int .i64 m.sp]) (by simp)
   have HMM5 := Hd hdc.mm
   have HRD5 := Hd hdc.rd
   have HGR5 := Hd hdc.gr
   have HZZ := Hd hz
   obtain ⟨p0o, p1o, p2o, p3o, p4o, p5o, p6o, p7o, p8o⟩ := cells9 hx5
   have hlx := hx5.lt
   clear hx5 hdc hob hmm
   obtain ⟨r0x, r1x, r2x, r3x, r4x, r5x, r6x, r7x, r8x⟩ := cells9 HR5.out
   obtain ⟨z0x, z1x, z2x, z3x, z4x, z5x, z6x, z7x, z8x⟩ := free9 HR5.out
   have hlr := HR5.out.lt
   go_wp2
   have o3 := HR5.out.set9 (.slice A1 m.t.bs.length c1) (.slice A2 m.t.fs.length c2) (.slice A3 m.c.ls.length c3) (.int .i64 (m).c.hand) (.int .i64 (m).g.count) (.int .i64 (m).g.next) (.int .i64 (m).g.round) (.slice A4 m.g.os.length c4) (.int .i64 (m).sp)
   obtain ⟨p0t, p1t, p2t, p3t, p4t, p5t, p6t, p7t, p8t⟩ := cells9 o3
   refine bodyPost_ret (v := .agg #[.slice A1 m.t.bs.length c1, .slice A2 m.t.fs.length c2, .slice A3 m.c.ls.length c3, .int .i64 m.c.hand, .int .i64 m.g.count, .int .i64 m.g.next, .int .i64 m.g.round, .slice A4 m.g.os.length c4, .int .i64 m.sp]) (by simp [results, Tryz.results171, go_sem, p0t, p1t, p2t, p3t, p4t, p5t, p6t, p7t, p8t]) rfl ⟨_, rfl, m, _, _, _, _, q + 1 + 4, rfl, HMM5.out.far9 HR5.out _ _ _ _ _ _ _ _ _, HZZ.out, ?_, by omega, ?_⟩
   ·repeat (refine rdr_set1 (by omega) ?_)
    exact HRD5.out
   ·repeat (refine g_set (by omega) ?_)
    exact HGR5.out
  | true =>
   have HR5 := Hd (hdc.own (b := w.heap.size + 1) (t := 48) (cs := #[.slice none 0 0, .slice none 0 0, .slice none 0 0, .int .i64 0, .int .i64 0, .int .i64 0, .int .i64 0, .slice none 0 0, .int .i64 0]) (by simp))
   have HMM5 := Hd hmm
   have HRD5 := Hd hdc.rd
   have HGR5 := Hd hdc.gr
   have HZZ := Hd (hsz rfl)
   obtain ⟨G1, j1, rfl, _⟩ := hmm.t.b
   obtain ⟨G2, j2, rfl, _⟩ := hmm.t.f
   obtain ⟨G3, j3, rfl, _⟩ := hmm.l
   obtain ⟨G4, j4, rfl, _⟩ := hmm.o
   obtain ⟨p0o, p1o, p2o, p3o, p4o, p5o, p6o, p7o, p8o⟩ := cells9 hob
   have hlx := hob.lt
   clear hob hdc hmm
   obtain ⟨r0x, r1x, r2x, r3x, r4x, r5x, r6x, r7x, r8x⟩ := cells9 HR5.out
   obtain ⟨z0x, z1x, z2x, z3x, z4x, z5x, z6x, z7x, z8x⟩ := free9 HR5.out
   have hlr := HR5.out.lt
   go_wp2
   have o3 := HR5.out.set9 (.slice G1 m'.t.bs.length j1) (.slice G2 m'.t.fs.length j2) (.slice G3 m'.c.ls.length j3) (.int .i64 (m').c.hand) (.int .i64 (m').g.count) (.int .i64 (m').g.next) (.int .i64 (m').g.round) (.slice G4 m'.g.os.length j4) (.int .i64 (m').sp)
   obtain ⟨p0t, p1t, p2t, p3t, p4t, p5t, p6t, p7t, p8t⟩ := cells9 o3
   refine bodyPost_ret (v := .agg #[.slice G1 m'.t.bs.length j1, .slice G2 m'.t.fs.length j2, .slice G3 m'.c.ls.length j3, .int .i64 m'.c.hand, .int .i64 m'.g.count, .int .i64 m'.g.next, .int .i64 m'.g.round, .slice G4 m'.g.os.length j4, .int .i64 m'.sp]) (by simp [results, Tryz.results171, go_sem, p0t, p1t, p2t, p3t, p4t, p5t, p6t, p7t, p8t]) rfl ⟨_, rfl, m', _, _, _, _, q + 1 + 4, rfl, HMM5.out.far9 HR5.out _ _ _ _ _ _ _ _ _, HZZ.out, ?_, by omega, ?_⟩
   ·repeat (refine rdr_set1 (by omega) ?_)
    exact HRD5.out
   ·repeat (refine g_set (by omega) ?_)
    exact HGR5.out
 ·go_wp2
  refine wp_region_rel2 (by kernel_rfl) [25, 26, 27, 28, 29, 30, 31, 32, 33, 34, 35, 36, 37, 38, 39, 40, 24, 41, 42, 6] [[25], [26], [27], [28], [29], [30], [31], [32], [33], [34], [35], [36], [37], [38], [39], [40], [24], [24, 41], [24, 42], [24], [24, 6]] (CX B w g (q + 1) [(w.heap.size, 48, #[.slice A1 m.t.bs.length c1, .slice A2 m.t.fs.length c2, .slice A3 m.c.ls.length c3, .int .i64 m.c.hand, .int .i64 m.g.count, .int .i64 m.g.next, .int .i64 m.g.round, .slice A4 m.g.os.length c4, .int .i64 m.sp]), (w.heap.size + 1, 48, #[.slice none 0 0, .slice none 0 0, .slice none 0 0, .int .i64 0, .int .i64 0, .int .i64 0, .int .i64 0, .slice none 0 0, .int .i64 0])] (.slice A1 m.t.bs.length c1) (.slice A2 m.t.fs.length c2) (.slice A3 m.c.ls.length c3) (.slice A4 m.g.os.length c4) m [2, 4, 11, 14] 19 (some (w.heap.size + 1 + 1))) (kxs (si := 19) [KX.eq 25 (.agg #[.slice A1 m.t.bs.length c1, .slice A2 m.t.fs.length c2, .slice A3 m.c.ls.length c3, .int .i64 m.c.hand, .int .i64 m.g.count, .int .i64 m.g.next, .int .i64 m.g.round, .slice A4 m.g.os.length c4, .int .i64 m.sp]), KX.eq 26 (.pointer (some ⟨g, 0, none⟩)), KX.sat 27 isN, KX.eq 28 (.pointer (some ⟨g, 0, none⟩)), KX.sat 29 isN, KX.sat 30 isK, KX.eq 31 (.pointer (some ⟨g, 0, none⟩)), KX.eq 32 (.pointer (some ⟨w.heap.size, 0, none⟩)), KX.eq 33 (.pointer (some ⟨w.heap.size, 1, none⟩)), KX.eq 34 (.slice A2 m.t.fs.length c2), KX.eq 35 (.int .i64 (m.t.fs.length : Int)), KX.sat 36 isN, KX.eq 37 (.pointer (some ⟨g, 0, none⟩)), KX.lit 38 #[.int .i64 3, .int .i64 1, .int .i64 7] 3, KX.sat 39 isN, KX.tup 40 B okM, KX.tup 24 B okM, KX.fst 24 41 B okM, KX.part 24 42 1, KX.put 24 (w.heap.size + 1 + 1) B okM, KX.part 24 6 1]) (tX 19) (by kernel_rfl) ?_ (kxs_loc (si := 19) (ks := [KX.eq 25 (.agg #[.slice A1 m.t.bs.length c1, .slice A2 m.t.fs.length c2, .slice A3 m.c.ls.length c3, .int .i64 m.c.hand, .int .i64 m.g.count, .int .i64 m.g.next, .int .i64 m.g.round, .slice A4 m.g.os.length c4, .int .i64 m.sp]), KX.eq 26 (.pointer (some ⟨g, 0, none⟩)), KX.sat 27 isN, KX.eq 28 (.pointer (some ⟨g, 0, none⟩)), KX.sat 29 isN, KX.sat 30 isK, KX.eq 31 (.pointer (some ⟨g, 0, none⟩)), KX.eq 32 (.pointer (some ⟨w.heap.size, 0, none⟩)), KX.eq 33 (.pointer (some ⟨w.heap.size, 1, none⟩)), KX.eq 34 (.slice A2 m.t.fs.length c2), KX.eq 35 (.int .i64 (m.t.fs.length : Int)), KX.sat 36 isN, KX.eq 37 (.pointer (some ⟨g, 0, none⟩)), KX.lit 38 #[.int .i64 3, .int .i64 1, .int .i64 7] 3, KX.sat 39 isN, KX.tup 40 B okM, KX.tup 24 B okM, KX.fst 24 41 B okM, KX.part 24 42 1, KX.put 24 (w.heap.size + 1 + 1) B okM, KX.part 24 6 1])) kxs_keep ?_ ?_
  ·refine ⟨?_, fun b hb _ => ?_⟩
   ·rw [cn_zero]
    exact HD1.out.below (bD bR)
   ·injection hb with hb
    subst hb
    exact ⟨_, rfl, HN.out⟩
  ·intro i o ho D x v hD hC hd K hK
   match i, ho with
   | 0, ho =>
    cases ho
    simp only [fillA, Act.put, sA9, sB9, sC9] at hK ⊢
    have hx := hC.1.own (b := w.heap.size) (t := 48) (cs := #[.slice A1 m.t.bs.length c1, .slice A2 m.t.fs.length c2, .slice A3 m.c.ls.length c3, .int .i64 m.c.hand, .int .i64 m.g.count, .int .i64 m.g.next, .int .i64 m.g.round, .slice A4 m.g.os.length c4, .int .i64 m.sp]) (by simp)
    obtain ⟨z0, z1, z2, z3, z4, z5, z6, z7, z8⟩ := cells9 hx
    go_simp
    exact hK _ _ (tX_same (by decide)) (hC.same (by decide) (by decide)) rfl
   | 1, ho =>
    cases ho
    simp only [fillA, Act.put, sA9, sB9, sC9] at hK ⊢
    go_simp
    exact hK _ _ (tX_same (by decide)) (hC.same (by decide) (by decide)) rfl
   | 2, ho =>
    cases ho
    simp only [fillA, Act.put, sA9, sB9, sC9] at hK ⊢
    have d0 := hd 1 ⟨⟨1, .data⟩, by simp, rfl, rfl⟩
    change x 26 = .pointer (some ⟨g, 0, none⟩) at d0
    simp only [d0] at hK ⊢
    have hcn : cn D [2, 4, 11, 14] ≤ 4 := cn_le D _
    go_wp2_with fail
    refine (pick_any B g (q + 1 + cn D [2, 4, 11, 14]) 3 v hC.1.rd (by omega) (by omega)).mono ?_
    rintro e v' ⟨z, rfl, _, _, hrd, hgr⟩
    go_simp
    exact hK _ _ (tX_oth (by decide) (hC.1.oth hgr)) (hC.read hD (by decide) (by decide) (by decide) hrd hgr) ⟨_, rfl⟩
   | 3, ho =>
    cases ho
    simp only [fillA, Act.put, sA9, sB9, sC9] at hK ⊢
    go_simp
    exact hK _ _ (tX_same (by decide)) (hC.same (by decide) (by decide)) rfl
   | 4, ho =>
    cases ho
    simp only [fillA, Act.put, sA9, sB9, sC9] at hK ⊢
    have d0 := hd 3 ⟨⟨3, .data⟩, by simp, rfl, rfl⟩
    change x 28 = .pointer (some ⟨g, 0, none⟩) at d0
    simp only [d0] at hK ⊢
    have hcn : cn D [2, 4, 11, 14] ≤ 4 := cn_le D _
    go_wp2_with fail
    refine (l6Page_any B g (q + 1 + cn D [2, 4, 11, 14]) v hC.1.rd (by omega)).mono ?_
    rintro e v' ⟨z, rfl, hrd, hgr⟩
    go_simp
    exact hK _ _ (tX_oth (by decide) (hC.1.oth hgr)) (hC.read hD (by decide) (by decide) (by decide) hrd hgr) ⟨_, rfl⟩
   | 5, ho =>
    cases ho
    simp only [fillA, Act.put, sA9, sB9, sC9] at hK ⊢
    have d0 := hd 2 ⟨⟨2, .data⟩, by simp, rfl, rfl⟩
    obtain ⟨nd0, d0⟩ := d0
    change x 27 = .int .i64 nd0 at d0
    have d1 := hd 4 ⟨⟨4, .data⟩, by simp, rfl, rfl⟩
    obtain ⟨nd1, d1⟩ := d1
    change x 29 = .int .i64 nd1 at d1
    simp only [d0, d1] at hK ⊢
    go_wp2_with fail
    refine (sKeyFor_any _ _ _).mono ?_
    rintro e v' ⟨rfl, hb⟩
    go_simp
    exact hK _ _ (tX_below (by decide) hb) (hC.below hb (by decide) (by decide)) ⟨_, _, rfl⟩
   | 6, ho =>
    cases ho
    simp only [fillA, Act.put, sA9, sB9, sC9] at hK ⊢
    go_simp
    exact hK _ _ (tX_same (by decide)) (hC.same (by decide) (by decide)) rfl
   | 7, ho =>
    cases ho
    simp only [fillA, Act.put, sA9, sB9, sC9] at hK ⊢
    go_simp
    exact hK _ _ (tX_same (by decide)) (hC.same (by decide) (by decide)) rfl
   | 8, ho =>
    cases ho
    simp only [fillA, Act.put, sA9, sB9, sC9] at hK ⊢
    have d0 := hd 7 ⟨⟨7, .data⟩, by simp, rfl, rfl⟩
    change x 32 = .pointer (some ⟨w.heap.size, 0, none⟩) at d0
    simp only [d0] at hK ⊢
    go_simp
    exact hK _ _ (tX_same (by decide)) (hC.same (by decide) (by decide)) rfl
   | 9, ho =>
    cases ho
    simp only [fillA, Act.put, sA9, sB9, sC9] at hK ⊢
    have d0 := hd 8 ⟨⟨8, .data⟩, by simp, rfl, rfl⟩
    change x 33 = .pointer (some ⟨w.heap.size, 1, none⟩) at d0
    have hx := hC.1.own (b := w.heap.size) (t := 48) (cs := #[.slice A1 m.t.bs.length c1, .slice A2 m.t.fs.length c2, .slice A3 m.c.ls.length c3, .int .i64 m.c.hand, .int .i64 m.g.count, .int .i64 m.g.next, .int .i64 m.g.round, .slice A4 m.g.os.length c4, .int .i64 m.sp]) (by simp)
    have z1 := hx.cell_ 1 (v := .slice A2 m.t.fs.length c2) rfl
    simp only [d0] at hK ⊢
    go_simp
    exact hK _ _ (tX_same (by decide)) (hC.same (by decide) (by decide)) rfl
   | 10, ho =>
    cases ho
    simp only [fillA, Act.put, sA9, sB9, sC9] at hK ⊢
    have d0 := hd 9 ⟨⟨9, .data⟩, by simp, rfl, rfl⟩
    change x 34 = .slice A2 m.t.fs.length c2 at d0
    simp only [d0] at hK ⊢
    go_simp
    exact hK _ _ (tX_same (by decide)) (hC.same (by decide) (by decide)) rfl
   | 11, ho =>
    cases ho
    simp only [fillA, Act.put, sA9, sB9, sC9] at hK ⊢
    have d0 := hd 6 ⟨⟨6, .data⟩, by simp, rfl, rfl⟩
    change x 31 = .pointer (some ⟨g, 0, none⟩) at d0
    have d1 := hd 10 ⟨⟨10, .data⟩, by simp, rfl, rfl⟩
    change x 35 = .int .i64 (m.t.fs.length : Int) at d1
    simp only [d0, d1] at hK ⊢
    have hcn : cn D [2, 4, 11, 14] ≤ 4 := cn_le D _
    go_wp2_with fail
    refine (pick_any B g (q + 1 + cn D [2, 4, 11, 14]) (m.t.fs.length : Int) v hC.1.rd (by omega) (by omega)).mono ?_
    rintro e v' ⟨z, rfl, _, _, hrd, hgr⟩
    go_simp
    exact hK _ _ (tX_oth (by decide) (hC.1.oth hgr)) (hC.read hD (by decide) (by decide) (by decide) hrd hgr) ⟨_, rfl⟩
   | 12, ho =>
    cases ho
    simp only [fillA, Act.put, sA9, sB9, sC9] at hK ⊢
    go_simp
    exact hK _ _ (tX_same (by decide)) (hC.same (by decide) (by decide)) rfl
   | 13, ho =>
    cases ho
    simp only [fillA, Act.put, sA9, sB9, sC9] at hK ⊢
    go_simp
    exact hK _ _ (tX_below (by decide) (bA bR)) (hC.below (bA bR) (by decide) (by decide)) ⟨_, rfl, Own.new_ _ _ _⟩
   | 14, ho =>
    cases ho
    simp only [fillA, Act.put, sA9, sB9, sC9] at hK ⊢
    have d0 := hd 12 ⟨⟨12, .data⟩, by simp, rfl, rfl⟩
    change x 37 = .pointer (some ⟨g, 0, none⟩) at d0
    have d1 := hd 13 ⟨⟨13, .data⟩, by simp, rfl, rfl⟩
    obtain ⟨gd1, d1, od1⟩ := d1
    change x 38 = .slice (some ⟨gd1, 0, none⟩) 3 3 at d1
    simp only [d0, d1] at hK ⊢
    have hcn : cn D [2, 4, 11, 14] ≤ 4 := cn_le D _
    obtain ⟨Ar, nr, cr, hor, _⟩ := hC.1.rd.ok
    go_wp2_with fail
    refine (num_any B g (q + 1 + cn D [2, 4, 11, 14]) gd1 [3, 1, 7] v hC.1.rd od1 (od1.ne hor (by decide)) (by omega) (by simp) (by simp)).mono ?_
    rintro e v' ⟨z, rfl, _, hrd, hgr⟩
    go_simp
    exact hK _ _ (tX_oth (by decide) (hC.1.oth hgr)) (hC.read hD (by decide) (by decide) (by decide) hrd hgr) ⟨_, rfl⟩
   | 15, ho =>
    cases ho
    simp only [fillA, Act.put, sA9, sB9, sC9] at hK ⊢
    have d0 := hd 0 ⟨⟨0, .data⟩, by simp, rfl, rfl⟩
    change x 25 = .agg #[.slice A1 m.t.bs.length c1, .slice A2 m.t.fs.length c2, .slice A3 m.c.ls.length c3, .int .i64 m.c.hand, .int .i64 m.g.count, .int .i64 m.g.next, .int .i64 m.g.round, .slice A4 m.g.os.length c4, .int .i64 m.sp] at d0
    have d1 := hd 5 ⟨⟨5, .data⟩, by simp, rfl, rfl⟩
    obtain ⟨ad1, bd1, d1⟩ := d1
    change x 30 = .agg #[.int .i64 ad1, .int .i64 bd1] at d1
    have d2 := hd 11 ⟨⟨11, .data⟩, by simp, rfl, rfl⟩
    obtain ⟨nd2, d2⟩ := d2
    change x 36 = .int .i64 nd2 at d2
    have d3 := hd 14 ⟨⟨14, .data⟩, by simp, rfl, rfl⟩
    obtain ⟨nd3, d3⟩ := d3
    change x 39 = .int .i64 nd3 at d3
    simp only [d0, d1, d2, d3] at hK ⊢
    have hBv : B ≤ v.heap.size := Nat.le_trans hBw hC.1.gr.size
    go_wp2_with fail
    refine (sPutPage_any _ _ _ _ m _ _ _ _ v hC.1.mm.r).mono ?_
    rintro e v' ⟨_, rfl, e1, e2, e3, e4, rfl, hm, hb⟩
    go_simp
    exact hK _ _ (tX_below (by decide) hb) (hC.below hb (by decide) (by decide)) ⟨_, e1, e2, e3, e4, ⟨_, rfl, fun h => (Sz.of (mav_put h)).up (by omega)⟩, hm.mono hBv⟩
   | 16, ho =>
    cases ho
    simp only [fillA, Act.put, sA9, sB9, sC9] at hK ⊢
    obtain ⟨m', e1, e2, e3, e4, ⟨ok, hx, hsz⟩, hm⟩ := hd 15 ⟨⟨15, .data⟩, by simp, rfl, rfl⟩
    change x 40 = _ at hx
    simp only [hx] at hK ⊢
    go_simp
    exact hK _ _ (tX_same (by decide)) (hC.same (by decide) (by decide)) ⟨m', e1, e2, e3, e4, ⟨ok, rfl, hsz⟩, hm⟩
   | 17, ho =>
    cases ho
    simp only [fillA, Act.put, sA9, sB9, sC9] at hK ⊢
    obtain ⟨m', e1, e2, e3, e4, ⟨ok, hx, hsz⟩, hm⟩ := hd 16 ⟨⟨16, .data⟩, by simp, rfl, rfl⟩
    change x 24 = _ at hx
    have hx' := hx
    simp only [hx'] at hK ⊢
    go_simp
    exact hK _ _ (tX_same (by decide)) (hC.same (by decide) (by decide)) ⟨m', e1, e2, e3, e4, ⟨ok, hx, hsz⟩, rfl, hm⟩
   | 18, ho =>
    cases ho
    simp only [fillA, Act.put, sA9, sB9, sC9] at hK ⊢
    obtain ⟨m', e1, e2, e3, e4, ⟨ok, hx, hsz⟩, hm⟩ := hd 16 ⟨⟨16, .data⟩, by simp, rfl, rfl⟩
    change x 24 = _ at hx
    have hx' := hx
    simp only [hx'] at hK ⊢
    go_simp
    exact hK _ _ (tX_same (by decide)) (hC.same (by decide) (by decide)) ⟨_, hx, rfl⟩
   | 19, ho =>
    cases ho
    simp only [fillA, Act.put, sA9, sB9, sC9] at hK ⊢
    obtain ⟨m', e1, e2, e3, e4, hf, hx, hm⟩ := hd 17 ⟨⟨17, .data⟩, by simp, rfl, rfl⟩
    change x 41 = _ at hx
    obtain ⟨cs, hcs, ho⟩ := hC.2 _ rfl hD
    obtain ⟨E1, n1, rfl, _⟩ := hm.t.b
    obtain ⟨E2, n2, rfl, _⟩ := hm.t.f
    obtain ⟨E3, n3, rfl, _⟩ := hm.l
    obtain ⟨E4, n4, rfl, _⟩ := hm.o
    obtain ⟨cs⟩ := cs
    obtain ⟨k0, k1, k2, k3, k4, k5, k6, k7, k8, rfl⟩ := len_nine hcs
    obtain ⟨z0, z1, z2, z3, z4, z5, z6, z7, z8⟩ := cells9 ho
    obtain ⟨y0, y1, y2, y3, y4, y5, y6, y7, y8⟩ := free9 ho
    have hlo := ho.lt
    simp only [hx] at hK ⊢
    go_simp
    refine hK undef _ (tX_store (stS_set9 ho _ _ _ _ _ _ _ _ _)) (hC.store (by decide) (by omega) hgw (by intro e he; simp at he; rcases he with rfl | rfl <;> first | (show w.heap.size ≠ w.heap.size + 1 + 1; omega) | (show w.heap.size + 1 ≠ w.heap.size + 1 + 1; omega)) ho _ _ _ _ _ _ _ _ _) ⟨rfl, m', _, _, _, _, hf, hm.oth (stS_set9 ho _ _ _ _ _ _ _ _ _).1 (by decide) (by decide) (by decide) (by decide), ho.set9 _ _ _ _ _ _ _ _ _⟩
   | 20, ho =>
    cases ho
    simp only [fillA, Act.put, sA9, sB9, sC9] at hK ⊢
    go_simp
    obtain ⟨vs, h1, h2⟩ := hd 18 ⟨⟨18, .data⟩, by simp, rfl, rfl⟩
    exact hK _ _ (tX_same (by decide)) (hC.same (by decide) (by decide)) ⟨vs, h1, h2⟩
   | _ + 21, ho => simp at ho
  intro D xa w5 hD hC hd
  obtain ⟨hdc, _⟩ := hC
  rw [cn_all (l := [2, 4, 11, 14]) (fun i hi => hD i (by simp at hi; simp; omega))] at hdc
  change DC B w g (q + 1 + 4) _ _ _ _ _ _ _ at hdc
  obtain ⟨_, m', e1, e2, e3, e4, hf, hmm, hob⟩ := hd 19 (by decide)
  obtain ⟨ok, hx, hsz⟩ := hf
  change xa 24 = _ at hx
  obtain ⟨vs, h1, h2⟩ := hd 20 (by decide)
  have dO : xa 6 = .bool ok := tpl_get h1 h2 hx rfl
  simp only [fillA, Act.put, sA9, sB9, sC9, dO]
  clear hd h1 h2 hx hD
  have hwr : w5.heap.size ≥ w.heap.size := hdc.gr.size
  cases ok with
  | false =>
   have HR5 := Hd (hdc.own (b := w.heap.size + 1) (t := 48) (cs := #[.slice none 0 0, .slice none 0 0, .slice none 0 0, .int .i64 0, .int .i64 0, .int .i64 0, .int .i64 0, .slice none 0 0, .int .i64 0]) (by simp))
   have hx5 := hdc.own (b := w.heap.size) (t := 48) (cs := #[.slice A1 m.t.bs.length c1, .slice A2 m.t.fs.length c2, .slice A3 m.c.ls.length c3, .int .i64 m.c.hand, .int .i64 m.g.count, .int .i64 m.g.next, .int .i64 m.g.round, .slice A4 m.g.os.length c4, .int .i64 m.sp]) (by simp)
   have HMM5 := Hd hdc.mm
   have HRD5 := Hd hdc.rd
   have HGR5 := Hd hdc.gr
   have HZZ := Hd hz
   obtain ⟨p0o, p1o, p2o, p3o, p4o, p5o, p6o, p7o, p8o⟩ := cells9 hx5
   have hlx := hx5.lt
   clear hx5 hdc hob hmm
   obtain ⟨r0x, r1x, r2x, r3x, r4x, r5x, r6x, r7x, r8x⟩ := cells9 HR5.out
   obtain ⟨z0x, z1x, z2x, z3x, z4x, z5x, z6x, z7x, z8x⟩ := free9 HR5.out
   have hlr := HR5.out.lt
   go_wp2
   have o3 := HR5.out.set9 (.slice A1 m.t.bs.length c1) (.slice A2 m.t.fs.length c2) (.slice A3 m.c.ls.length c3) (.int .i64 (m).c.hand) (.int .i64 (m).g.count) (.int .i64 (m).g.next) (.int .i64 (m).g.round) (.slice A4 m.g.os.length c4) (.int .i64 (m).sp)
   obtain ⟨p0t, p1t, p2t, p3t, p4t, p5t, p6t, p7t, p8t⟩ := cells9 o3
   refine bodyPost_ret (v := .agg #[.slice A1 m.t.bs.length c1, .slice A2 m.t.fs.length c2, .slice A3 m.c.ls.length c3, .int .i64 m.c.hand, .int .i64 m.g.count, .int .i64 m.g.next, .int .i64 m.g.round, .slice A4 m.g.os.length c4, .int .i64 m.sp]) (by simp [results, Tryz.results171, go_sem, p0t, p1t, p2t, p3t, p4t, p5t, p6t, p7t, p8t]) rfl ⟨_, rfl, m, _, _, _, _, q + 1 + 4, rfl, HMM5.out.far9 HR5.out _ _ _ _ _ _ _ _ _, HZZ.out, ?_, by omega, ?_⟩
   ·repeat (refine rdr_set1 (by omega) ?_)
    exact HRD5.out
   ·repeat (refine g_set (by omega) ?_)
    exact HGR5.out
  | true =>
   have HR5 := Hd (hdc.own (b := w.heap.size + 1) (t := 48) (cs := #[.slice none 0 0, .slice none 0 0, .slice none 0 0, .int .i64 0, .int .i64 0, .int .i64 0, .int .i64 0, .slice none 0 0, .int .i64 0]) (by simp))
   have HMM5 := Hd hmm
   have HRD5 := Hd hdc.rd
   have HGR5 := Hd hdc.gr
   have HZZ := Hd (hsz rfl)
   obtain ⟨G1, j1, rfl, _⟩ := hmm.t.b
   obtain ⟨G2, j2, rfl, _⟩ := hmm.t.f
   obtain ⟨G3, j3, rfl, _⟩ := hmm.l
   obtain ⟨G4, j4, rfl, _⟩ := hmm.o
   obtain ⟨p0o, p1o, p2o, p3o, p4o, p5o, p6o, p7o, p8o⟩ := cells9 hob
   have hlx := hob.lt
   clear hob hdc hmm
   obtain ⟨r0x, r1x, r2x, r3x, r4x, r5x, r6x, r7x, r8x⟩ := cells9 HR5.out
   obtain ⟨z0x, z1x, z2x, z3x, z4x, z5x, z6x, z7x, z8x⟩ := free9 HR5.out
   have hlr := HR5.out.lt
   go_wp2
   have o3 := HR5.out.set9 (.slice G1 m'.t.bs.length j1) (.slice G2 m'.t.fs.length j2) (.slice G3 m'.c.ls.length j3) (.int .i64 (m').c.hand) (.int .i64 (m').g.count) (.int .i64 (m').g.next) (.int .i64 (m').g.round) (.slice G4 m'.g.os.length j4) (.int .i64 (m').sp)
   obtain ⟨p0t, p1t, p2t, p3t, p4t, p5t, p6t, p7t, p8t⟩ := cells9 o3
   refine bodyPost_ret (v := .agg #[.slice G1 m'.t.bs.length j1, .slice G2 m'.t.fs.length j2, .slice G3 m'.c.ls.length j3, .int .i64 m'.c.hand, .int .i64 m'.g.count, .int .i64 m'.g.next, .int .i64 m'.g.round, .slice G4 m'.g.os.length j4, .int .i64 m'.sp]) (by simp [results, Tryz.results171, go_sem, p0t, p1t, p2t, p3t, p4t, p5t, p6t, p7t, p8t]) rfl ⟨_, rfl, m', _, _, _, _, q + 1 + 4, rfl, HMM5.out.far9 HR5.out _ _ _ _ _ _ _ _ _, HZZ.out, ?_, by omega, ?_⟩
   ·repeat (refine rdr_set1 (by omega) ?_)
    exact HRD5.out
   ·repeat (refine g_set (by omega) ?_)
    exact HGR5.out
 ·go_wp2
  refine wp_region_rel2 (by kernel_rfl) [47, 48, 49, 50, 51, 52, 53, 46, 54, 55, 56, 57, 6] [[47], [48], [49], [50], [51], [52], [53], [46], [46, 54], [46, 55], [46, 56], [46, 57], [46], [46, 6]] (CX B w g (q + 1) [(w.heap.size, 48, #[.slice A1 m.t.bs.length c1, .slice A2 m.t.fs.length c2, .slice A3 m.c.ls.length c3, .int .i64 m.c.hand, .int .i64 m.g.count, .int .i64 m.g.next, .int .i64 m.g.round, .slice A4 m.g.os.length c4, .int .i64 m.sp]), (w.heap.size + 1, 48, #[.slice none 0 0, .slice none 0 0, .slice none 0 0, .int .i64 0, .int .i64 0, .int .i64 0, .int .i64 0, .slice none 0 0, .int .i64 0])] (.slice A1 m.t.bs.length c1) (.slice A2 m.t.fs.length c2) (.slice A3 m.c.ls.length c3) (.slice A4 m.g.os.length c4) m [2, 5] 12 (some (w.heap.size + 1 + 1))) (kxs (si := 12) [KX.eq 47 (.agg #[.slice A1 m.t.bs.length c1, .slice A2 m.t.fs.length c2, .slice A3 m.c.ls.length c3, .int .i64 m.c.hand, .int .i64 m.g.count, .int .i64 m.g.next, .int .i64 m.g.round, .slice A4 m.g.os.length c4, .int .i64 m.sp]), KX.eq 48 (.pointer (some ⟨g, 0, none⟩)), KX.sat 49 isN, KX.eq 50 (.pointer (some ⟨g, 0, none⟩)), KX.lit 51 #[.int .i64 1, .int .i64 0, .int .i64 2] 3, KX.sat 52 isN, KX.tup 53 B okM4, KX.tup 46 B okM4, KX.fst 46 54 B okM4, KX.part 46 55 1, KX.part 46 56 2, KX.part 46 57 3, KX.put 46 (w.heap.size + 1 + 1) B okM4, KX.part 46 6 3]) (tX 12) (by kernel_rfl) ?_ (kxs_loc (si := 12) (ks := [KX.eq 47 (.agg #[.slice A1 m.t.bs.length c1, .slice A2 m.t.fs.length c2, .slice A3 m.c.ls.length c3, .int .i64 m.c.hand, .int .i64 m.g.count, .int .i64 m.g.next, .int .i64 m.g.round, .slice A4 m.g.os.length c4, .int .i64 m.sp]), KX.eq 48 (.pointer (some ⟨g, 0, none⟩)), KX.sat 49 isN, KX.eq 50 (.pointer (some ⟨g, 0, none⟩)), KX.lit 51 #[.int .i64 1, .int .i64 0, .int .i64 2] 3, KX.sat 52 isN, KX.tup 53 B okM4, KX.tup 46 B okM4, KX.fst 46 54 B okM4, KX.part 46 55 1, KX.part 46 56 2, KX.part 46 57 3, KX.put 46 (w.heap.size + 1 + 1) B okM4, KX.part 46 6 3])) kxs_keep ?_ ?_
  ·refine ⟨?_, fun b hb _ => ?_⟩
   ·rw [cn_zero]
    exact HD1.out.below (bD bR)
   ·injection hb with hb
    subst hb
    exact ⟨_, rfl, HN.out⟩
  ·intro i o ho D x v hD hC hd K hK
   match i, ho with
   | 0, ho =>
    cases ho
    simp only [fillA, Act.put, sA9, sB9, sC9] at hK ⊢
    have hx := hC.1.own (b := w.heap.size) (t := 48) (cs := #[.slice A1 m.t.bs.length c1, .slice A2 m.t.fs.length c2, .slice A3 m.c.ls.length c3, .int .i64 m.c.hand, .int .i64 m.g.count, .int .i64 m.g.next, .int .i64 m.g.round, .slice A4 m.g.os.length c4, .int .i64 m.sp]) (by simp)
    obtain ⟨z0, z1, z2, z3, z4, z5, z6, z7, z8⟩ := cells9 hx
    go_simp
    exact hK _ _ (tX_same (by decide)) (hC.same (by decide) (by decide)) rfl
   | 1, ho =>
    cases ho
    simp only [fillA, Act.put, sA9, sB9, sC9] at hK ⊢
    go_simp
    exact hK _ _ (tX_same (by decide)) (hC.same (by decide) (by decide)) rfl
   | 2, ho =>
    cases ho
    simp only [fillA, Act.put, sA9, sB9, sC9] at hK ⊢
    have d0 := hd 1 ⟨⟨1, .data⟩, by simp, rfl, rfl⟩
    change x 48 = .pointer (some ⟨g, 0, none⟩) at d0
    simp only [d0] at hK ⊢
    have hcn : cn D [2, 5] ≤ 2 := cn_le D _
    go_wp2_with fail
    refine (l6Page_any B g (q + 1 + cn D [2, 5]) v hC.1.rd (by omega)).mono ?_
    rintro e v' ⟨z, rfl, hrd, hgr⟩
    go_simp
    exact hK _ _ (tX_oth (by decide) (hC.1.oth hgr)) (hC.read hD (by decide) (by decide) (by decide) hrd hgr) ⟨_, rfl⟩
   | 3, ho =>
    cases ho
    simp only [fillA, Act.put, sA9, sB9, sC9] at hK ⊢
    go_simp
    exact hK _ _ (tX_same (by decide)) (hC.same (by decide) (by decide)) rfl
   | 4, ho =>
    cases ho
    simp only [fillA, Act.put, sA9, sB9, sC9] at hK ⊢
    go_simp
    exact hK _ _ (tX_below (by decide) (bA bR)) (hC.below (bA bR) (by decide) (by decide)) ⟨_, rfl, Own.new_ _ _ _⟩
   | 5, ho =>
    cases ho
    simp only [fillA, Act.put, sA9, sB9, sC9] at hK ⊢
    have d0 := hd 3 ⟨⟨3, .data⟩, by simp, rfl, rfl⟩
    change x 50 = .pointer (some ⟨g, 0, none⟩) at d0
    have d1 := hd 4 ⟨⟨4, .data⟩, by simp, rfl, rfl⟩
    obtain ⟨gd1, d1, od1⟩ := d1
    change x 51 = .slice (some ⟨gd1, 0, none⟩) 3 3 at d1
    simp only [d0, d1] at hK ⊢
    have hcn : cn D [2, 5] ≤ 2 := cn_le D _
    obtain ⟨Ar, nr, cr, hor, _⟩ := hC.1.rd.ok
    go_wp2_with fail
    refine (num_any B g (q + 1 + cn D [2, 5]) gd1 [1, 0, 2] v hC.1.rd od1 (od1.ne hor (by decide)) (by omega) (by simp) (by simp)).mono ?_
    rintro e v' ⟨z, rfl, _, hrd, hgr⟩
    go_simp
    exact hK _ _ (tX_oth (by decide) (hC.1.oth hgr)) (hC.read hD (by decide) (by decide) (by decide) hrd hgr) ⟨_, rfl⟩
   | 6, ho =>
    cases ho
    simp only [fillA, Act.put, sA9, sB9, sC9] at hK ⊢
    have d0 := hd 0 ⟨⟨0, .data⟩, by simp, rfl, rfl⟩
    change x 47 = .agg #[.slice A1 m.t.bs.length c1, .slice A2 m.t.fs.length c2, .slice A3 m.c.ls.length c3, .int .i64 m.c.hand, .int .i64 m.g.count, .int .i64 m.g.next, .int .i64 m.g.round, .slice A4 m.g.os.length c4, .int .i64 m.sp] at d0
    have d1 := hd 2 ⟨⟨2, .data⟩, by simp, rfl, rfl⟩
    obtain ⟨nd1, d1⟩ := d1
    change x 49 = .int .i64 nd1 at d1
    have d2 := hd 5 ⟨⟨5, .data⟩, by simp, rfl, rfl⟩
    obtain ⟨nd2, d2⟩ := d2
    change x 52 = .int .i64 nd2 at d2
    simp only [d0, d1, d2] at hK ⊢
    have hBv : B ≤ v.heap.size := Nat.le_trans hBw hC.1.gr.size
    go_wp2_with fail
    refine (sTouchPage_any _ _ _ _ m _ _ v hC.1.mm.r).mono ?_
    rintro e v' ⟨_, rfl, e1, e2, e3, e4, rfl, hm, hb⟩
    go_simp
    exact hK _ _ (tX_below (by decide) hb) (hC.below hb (by decide) (by decide)) ⟨_, e1, e2, e3, e4, ⟨_, _, _, rfl, fun h => (Sz.of (mav_tch h)).up (by omega)⟩, hm.mono hBv⟩
   | 7, ho =>
    cases ho
    simp only [fillA, Act.put, sA9, sB9, sC9] at hK ⊢
    obtain ⟨m', e1, e2, e3, e4, ⟨ka, kb, ok, hx, hsz⟩, hm⟩ := hd 6 ⟨⟨6, .data⟩, by simp, rfl, rfl⟩
    change x 53 = _ at hx
    simp only [hx] at hK ⊢
    go_simp
    exact hK _ _ (tX_same (by decide)) (hC.same (by decide) (by decide)) ⟨m', e1, e2, e3, e4, ⟨ka, kb, ok, rfl, hsz⟩, hm⟩
   | 8, ho =>
    cases ho
    simp only [fillA, Act.put, sA9, sB9, sC9] at hK ⊢
    obtain ⟨m', e1, e2, e3, e4, ⟨ka, kb, ok, hx, hsz⟩, hm⟩ := hd 7 ⟨⟨7, .data⟩, by simp, rfl, rfl⟩
    change x 46 = _ at hx
    have hx' := hx
    simp only [hx'] at hK ⊢
    go_simp
    exact hK _ _ (tX_same (by decide)) (hC.same (by decide) (by decide)) ⟨m', e1, e2, e3, e4, ⟨ka, kb, ok, hx, hsz⟩, rfl, hm⟩
   | 9, ho =>
    cases ho
    simp only [fillA, Act.put, sA9, sB9, sC9] at hK ⊢
    obtain ⟨m', e1, e2, e3, e4, ⟨ka, kb, ok, hx, hsz⟩, hm⟩ := hd 7 ⟨⟨7, .data⟩, by simp, rfl, rfl⟩
    change x 46 = _ at hx
    have hx' := hx
    simp only [hx'] at hK ⊢
    go_simp
    exact hK _ _ (tX_same (by decide)) (hC.same (by decide) (by decide)) ⟨_, hx, rfl⟩
   | 10, ho =>
    cases ho
    simp only [fillA, Act.put, sA9, sB9, sC9] at hK ⊢
    obtain ⟨m', e1, e2, e3, e4, ⟨ka, kb, ok, hx, hsz⟩, hm⟩ := hd 7 ⟨⟨7, .data⟩, by simp, rfl, rfl⟩
    change x 46 = _ at hx
    have hx' := hx
    simp only [hx'] at hK ⊢
    go_simp
    exact hK _ _ (tX_same (by decide)) (hC.same (by decide) (by decide)) ⟨_, hx, rfl⟩
   | 11, ho =>
    cases ho
    simp only [fillA, Act.put, sA9, sB9, sC9] at hK ⊢
    obtain ⟨m', e1, e2, e3, e4, ⟨ka, kb, ok, hx, hsz⟩, hm⟩ := hd 7 ⟨⟨7, .data⟩, by simp, rfl, rfl⟩
    change x 46 = _ at hx
    have hx' := hx
    simp only [hx'] at hK ⊢
    go_simp
    exact hK _ _ (tX_same (by decide)) (hC.same (by decide) (by decide)) ⟨_, hx, rfl⟩
   | 12, ho =>
    cases ho
    simp only [fillA, Act.put, sA9, sB9, sC9] at hK ⊢
    obtain ⟨m', e1, e2, e3, e4, hf, hx, hm⟩ := hd 8 ⟨⟨8, .data⟩, by simp, rfl, rfl⟩
    change x 54 = _ at hx
    obtain ⟨cs, hcs, ho⟩ := hC.2 _ rfl hD
    obtain ⟨E1, n1, rfl, _⟩ := hm.t.b
    obtain ⟨E2, n2, rfl, _⟩ := hm.t.f
    obtain ⟨E3, n3, rfl, _⟩ := hm.l
    obtain ⟨E4, n4, rfl, _⟩ := hm.o
    obtain ⟨cs⟩ := cs
    obtain ⟨k0, k1, k2, k3, k4, k5, k6, k7, k8, rfl⟩ := len_nine hcs
    obtain ⟨z0, z1, z2, z3, z4, z5, z6, z7, z8⟩ := cells9 ho
    obtain ⟨y0, y1, y2, y3, y4, y5, y6, y7, y8⟩ := free9 ho
    have hlo := ho.lt
    simp only [hx] at hK ⊢
    go_simp
    refine hK undef _ (tX_store (stS_set9 ho _ _ _ _ _ _ _ _ _)) (hC.store (by decide) (by omega) hgw (by intro e he; simp at he; rcases he with rfl | rfl <;> first | (show w.heap.size ≠ w.heap.size + 1 + 1; omega) | (show w.heap.size + 1 ≠ w.heap.size + 1 + 1; omega)) ho _ _ _ _ _ _ _ _ _) ⟨rfl, m', _, _, _, _, hf, hm.oth (stS_set9 ho _ _ _ _ _ _ _ _ _).1 (by decide) (by decide) (by decide) (by decide), ho.set9 _ _ _ _ _ _ _ _ _⟩
   | 13, ho =>
    cases ho
    simp only [fillA, Act.put, sA9, sB9, sC9] at hK ⊢
    go_simp
    obtain ⟨vs, h1, h2⟩ := hd 11 ⟨⟨11, .data⟩, by simp, rfl, rfl⟩
    exact hK _ _ (tX_same (by decide)) (hC.same (by decide) (by decide)) ⟨vs, h1, h2⟩
   | _ + 14, ho => simp at ho
  intro D xa w5 hD hC hd
  obtain ⟨hdc, _⟩ := hC
  rw [cn_all (l := [2, 5]) (fun i hi => hD i (by simp at hi; simp; omega))] at hdc
  change DC B w g (q + 1 + 2) _ _ _ _ _ _ _ at hdc
  obtain ⟨_, m', e1, e2, e3, e4, hf, hmm, hob⟩ := hd 12 (by decide)
  obtain ⟨ka, kb, ok, hx, hsz⟩ := hf
  change xa 46 = _ at hx
  obtain ⟨vs, h1, h2⟩ := hd 13 (by decide)
  have dO : xa 6 = .bool ok := tpl_get h1 h2 hx rfl
  simp only [fillA, Act.put, sA9, sB9, sC9, dO]
  clear hd h1 h2 hx hD
  have hwr : w5.heap.size ≥ w.heap.size := hdc.gr.size
  cases ok with
  | false =>
   have HR5 := Hd (hdc.own (b := w.heap.size + 1) (t := 48) (cs := #[.slice none 0 0, .slice none 0 0, .slice none 0 0, .int .i64 0, .int .i64 0, .int .i64 0, .int .i64 0, .slice none 0 0, .int .i64 0]) (by simp))
   have hx5 := hdc.own (b := w.heap.size) (t := 48) (cs := #[.slice A1 m.t.bs.length c1, .slice A2 m.t.fs.length c2, .slice A3 m.c.ls.length c3, .int .i64 m.c.hand, .int .i64 m.g.count, .int .i64 m.g.next, .int .i64 m.g.round, .slice A4 m.g.os.length c4, .int .i64 m.sp]) (by simp)
   have HMM5 := Hd hdc.mm
   have HRD5 := Hd hdc.rd
   have HGR5 := Hd hdc.gr
   have HZZ := Hd hz
   obtain ⟨p0o, p1o, p2o, p3o, p4o, p5o, p6o, p7o, p8o⟩ := cells9 hx5
   have hlx := hx5.lt
   clear hx5 hdc hob hmm
   obtain ⟨r0x, r1x, r2x, r3x, r4x, r5x, r6x, r7x, r8x⟩ := cells9 HR5.out
   obtain ⟨z0x, z1x, z2x, z3x, z4x, z5x, z6x, z7x, z8x⟩ := free9 HR5.out
   have hlr := HR5.out.lt
   go_wp2
   have o3 := HR5.out.set9 (.slice A1 m.t.bs.length c1) (.slice A2 m.t.fs.length c2) (.slice A3 m.c.ls.length c3) (.int .i64 (m).c.hand) (.int .i64 (m).g.count) (.int .i64 (m).g.next) (.int .i64 (m).g.round) (.slice A4 m.g.os.length c4) (.int .i64 (m).sp)
   obtain ⟨p0t, p1t, p2t, p3t, p4t, p5t, p6t, p7t, p8t⟩ := cells9 o3
   refine bodyPost_ret (v := .agg #[.slice A1 m.t.bs.length c1, .slice A2 m.t.fs.length c2, .slice A3 m.c.ls.length c3, .int .i64 m.c.hand, .int .i64 m.g.count, .int .i64 m.g.next, .int .i64 m.g.round, .slice A4 m.g.os.length c4, .int .i64 m.sp]) (by simp [results, Tryz.results171, go_sem, p0t, p1t, p2t, p3t, p4t, p5t, p6t, p7t, p8t]) rfl ⟨_, rfl, m, _, _, _, _, q + 1 + 2, rfl, HMM5.out.far9 HR5.out _ _ _ _ _ _ _ _ _, HZZ.out, ?_, by omega, ?_⟩
   ·repeat (refine rdr_set1 (by omega) ?_)
    exact HRD5.out
   ·repeat (refine g_set (by omega) ?_)
    exact HGR5.out
  | true =>
   have HR5 := Hd (hdc.own (b := w.heap.size + 1) (t := 48) (cs := #[.slice none 0 0, .slice none 0 0, .slice none 0 0, .int .i64 0, .int .i64 0, .int .i64 0, .int .i64 0, .slice none 0 0, .int .i64 0]) (by simp))
   have HMM5 := Hd hmm
   have HRD5 := Hd hdc.rd
   have HGR5 := Hd hdc.gr
   have HZZ := Hd (hsz rfl)
   obtain ⟨G1, j1, rfl, _⟩ := hmm.t.b
   obtain ⟨G2, j2, rfl, _⟩ := hmm.t.f
   obtain ⟨G3, j3, rfl, _⟩ := hmm.l
   obtain ⟨G4, j4, rfl, _⟩ := hmm.o
   obtain ⟨p0o, p1o, p2o, p3o, p4o, p5o, p6o, p7o, p8o⟩ := cells9 hob
   have hlx := hob.lt
   clear hob hdc hmm
   obtain ⟨r0x, r1x, r2x, r3x, r4x, r5x, r6x, r7x, r8x⟩ := cells9 HR5.out
   obtain ⟨z0x, z1x, z2x, z3x, z4x, z5x, z6x, z7x, z8x⟩ := free9 HR5.out
   have hlr := HR5.out.lt
   go_wp2
   have o3 := HR5.out.set9 (.slice G1 m'.t.bs.length j1) (.slice G2 m'.t.fs.length j2) (.slice G3 m'.c.ls.length j3) (.int .i64 (m').c.hand) (.int .i64 (m').g.count) (.int .i64 (m').g.next) (.int .i64 (m').g.round) (.slice G4 m'.g.os.length j4) (.int .i64 (m').sp)
   obtain ⟨p0t, p1t, p2t, p3t, p4t, p5t, p6t, p7t, p8t⟩ := cells9 o3
   refine bodyPost_ret (v := .agg #[.slice G1 m'.t.bs.length j1, .slice G2 m'.t.fs.length j2, .slice G3 m'.c.ls.length j3, .int .i64 m'.c.hand, .int .i64 m'.g.count, .int .i64 m'.g.next, .int .i64 m'.g.round, .slice G4 m'.g.os.length j4, .int .i64 m'.sp]) (by simp [results, Tryz.results171, go_sem, p0t, p1t, p2t, p3t, p4t, p5t, p6t, p7t, p8t]) rfl ⟨_, rfl, m', _, _, _, _, q + 1 + 2, rfl, HMM5.out.far9 HR5.out _ _ _ _ _ _ _ _ _, HZZ.out, ?_, by omega, ?_⟩
   ·repeat (refine rdr_set1 (by omega) ?_)
    exact HRD5.out
   ·repeat (refine g_set (by omega) ?_)
    exact HGR5.out
 ·go_wp2
  refine wp_region_rel2 (by kernel_rfl) [47, 48, 49, 50, 51, 52, 53, 46, 54, 55, 56, 57, 6] [[47], [48], [49], [50], [51], [52], [53], [46], [46, 54], [46, 55], [46, 56], [46, 57], [46], [46, 6]] (CX B w g (q + 1) [(w.heap.size, 48, #[.slice A1 m.t.bs.length c1, .slice A2 m.t.fs.length c2, .slice A3 m.c.ls.length c3, .int .i64 m.c.hand, .int .i64 m.g.count, .int .i64 m.g.next, .int .i64 m.g.round, .slice A4 m.g.os.length c4, .int .i64 m.sp]), (w.heap.size + 1, 48, #[.slice none 0 0, .slice none 0 0, .slice none 0 0, .int .i64 0, .int .i64 0, .int .i64 0, .int .i64 0, .slice none 0 0, .int .i64 0])] (.slice A1 m.t.bs.length c1) (.slice A2 m.t.fs.length c2) (.slice A3 m.c.ls.length c3) (.slice A4 m.g.os.length c4) m [2, 5] 12 (some (w.heap.size + 1 + 1))) (kxs (si := 12) [KX.eq 47 (.agg #[.slice A1 m.t.bs.length c1, .slice A2 m.t.fs.length c2, .slice A3 m.c.ls.length c3, .int .i64 m.c.hand, .int .i64 m.g.count, .int .i64 m.g.next, .int .i64 m.g.round, .slice A4 m.g.os.length c4, .int .i64 m.sp]), KX.eq 48 (.pointer (some ⟨g, 0, none⟩)), KX.sat 49 isN, KX.eq 50 (.pointer (some ⟨g, 0, none⟩)), KX.lit 51 #[.int .i64 1, .int .i64 0, .int .i64 2] 3, KX.sat 52 isN, KX.tup 53 B okM4, KX.tup 46 B okM4, KX.fst 46 54 B okM4, KX.part 46 55 1, KX.part 46 56 2, KX.part 46 57 3, KX.put 46 (w.heap.size + 1 + 1) B okM4, KX.part 46 6 3]) (tX 12) (by kernel_rfl) ?_ (kxs_loc (si := 12) (ks := [KX.eq 47 (.agg #[.slice A1 m.t.bs.length c1, .slice A2 m.t.fs.length c2, .slice A3 m.c.ls.length c3, .int .i64 m.c.hand, .int .i64 m.g.count, .int .i64 m.g.next, .int .i64 m.g.round, .slice A4 m.g.os.length c4, .int .i64 m.sp]), KX.eq 48 (.pointer (some ⟨g, 0, none⟩)), KX.sat 49 isN, KX.eq 50 (.pointer (some ⟨g, 0, none⟩)), KX.lit 51 #[.int .i64 1, .int .i64 0, .int .i64 2] 3, KX.sat 52 isN, KX.tup 53 B okM4, KX.tup 46 B okM4, KX.fst 46 54 B okM4, KX.part 46 55 1, KX.part 46 56 2, KX.part 46 57 3, KX.put 46 (w.heap.size + 1 + 1) B okM4, KX.part 46 6 3])) kxs_keep ?_ ?_
  ·refine ⟨?_, fun b hb _ => ?_⟩
   ·rw [cn_zero]
    exact HD1.out.below (bD bR)
   ·injection hb with hb
    subst hb
    exact ⟨_, rfl, HN.out⟩
  ·intro i o ho D x v hD hC hd K hK
   match i, ho with
   | 0, ho =>
    cases ho
    simp only [fillA, Act.put, sA9, sB9, sC9] at hK ⊢
    have hx := hC.1.own (b := w.heap.size) (t := 48) (cs := #[.slice A1 m.t.bs.length c1, .slice A2 m.t.fs.length c2, .slice A3 m.c.ls.length c3, .int .i64 m.c.hand, .int .i64 m.g.count, .int .i64 m.g.next, .int .i64 m.g.round, .slice A4 m.g.os.length c4, .int .i64 m.sp]) (by simp)
    obtain ⟨z0, z1, z2, z3, z4, z5, z6, z7, z8⟩ := cells9 hx
    go_simp
    exact hK _ _ (tX_same (by decide)) (hC.same (by decide) (by decide)) rfl
   | 1, ho =>
    cases ho
    simp only [fillA, Act.put, sA9, sB9, sC9] at hK ⊢
    go_simp
    exact hK _ _ (tX_same (by decide)) (hC.same (by decide) (by decide)) rfl
   | 2, ho =>
    cases ho
    simp only [fillA, Act.put, sA9, sB9, sC9] at hK ⊢
    have d0 := hd 1 ⟨⟨1, .data⟩, by simp, rfl, rfl⟩
    change x 48 = .pointer (some ⟨g, 0, none⟩) at d0
    simp only [d0] at hK ⊢
    have hcn : cn D [2, 5] ≤ 2 := cn_le D _
    go_wp2_with fail
    refine (l6Page_any B g (q + 1 + cn D [2, 5]) v hC.1.rd (by omega)).mono ?_
    rintro e v' ⟨z, rfl, hrd, hgr⟩
    go_simp
    exact hK _ _ (tX_oth (by decide) (hC.1.oth hgr)) (hC.read hD (by decide) (by decide) (by decide) hrd hgr) ⟨_, rfl⟩
   | 3, ho =>
    cases ho
    simp only [fillA, Act.put, sA9, sB9, sC9] at hK ⊢
    go_simp
    exact hK _ _ (tX_same (by decide)) (hC.same (by decide) (by decide)) rfl
   | 4, ho =>
    cases ho
    simp only [fillA, Act.put, sA9, sB9, sC9] at hK ⊢
    go_simp
    exact hK _ _ (tX_below (by decide) (bA bR)) (hC.below (bA bR) (by decide) (by decide)) ⟨_, rfl, Own.new_ _ _ _⟩
   | 5, ho =>
    cases ho
    simp only [fillA, Act.put, sA9, sB9, sC9] at hK ⊢
    have d0 := hd 3 ⟨⟨3, .data⟩, by simp, rfl, rfl⟩
    change x 50 = .pointer (some ⟨g, 0, none⟩) at d0
    have d1 := hd 4 ⟨⟨4, .data⟩, by simp, rfl, rfl⟩
    obtain ⟨gd1, d1, od1⟩ := d1
    change x 51 = .slice (some ⟨gd1, 0, none⟩) 3 3 at d1
    simp only [d0, d1] at hK ⊢
    have hcn : cn D [2, 5] ≤ 2 := cn_le D _
    obtain ⟨Ar, nr, cr, hor, _⟩ := hC.1.rd.ok
    go_wp2_with fail
    refine (num_any B g (q + 1 + cn D [2, 5]) gd1 [1, 0, 2] v hC.1.rd od1 (od1.ne hor (by decide)) (by omega) (by simp) (by simp)).mono ?_
    rintro e v' ⟨z, rfl, _, hrd, hgr⟩
    go_simp
    exact hK _ _ (tX_oth (by decide) (hC.1.oth hgr)) (hC.read hD (by decide) (by decide) (by decide) hrd hgr) ⟨_, rfl⟩
   | 6, ho =>
    cases ho
    simp only [fillA, Act.put, sA9, sB9, sC9] at hK ⊢
    have d0 := hd 0 ⟨⟨0, .data⟩, by simp, rfl, rfl⟩
    change x 47 = .agg #[.slice A1 m.t.bs.length c1, .slice A2 m.t.fs.length c2, .slice A3 m.c.ls.length c3, .int .i64 m.c.hand, .int .i64 m.g.count, .int .i64 m.g.next, .int .i64 m.g.round, .slice A4 m.g.os.length c4, .int .i64 m.sp] at d0
    have d1 := hd 2 ⟨⟨2, .data⟩, by simp, rfl, rfl⟩
    obtain ⟨nd1, d1⟩ := d1
    change x 49 = .int .i64 nd1 at d1
    have d2 := hd 5 ⟨⟨5, .data⟩, by simp, rfl, rfl⟩
    obtain ⟨nd2, d2⟩ := d2
    change x 52 = .int .i64 nd2 at d2
    simp only [d0, d1, d2] at hK ⊢
    have hBv : B ≤ v.heap.size := Nat.le_trans hBw hC.1.gr.size
    go_wp2_with fail
    refine (sTouchPage_any _ _ _ _ m _ _ v hC.1.mm.r).mono ?_
    rintro e v' ⟨_, rfl, e1, e2, e3, e4, rfl, hm, hb⟩
    go_simp
    exact hK _ _ (tX_below (by decide) hb) (hC.below hb (by decide) (by decide)) ⟨_, e1, e2, e3, e4, ⟨_, _, _, rfl, fun h => (Sz.of (mav_tch h)).up (by omega)⟩, hm.mono hBv⟩
   | 7, ho =>
    cases ho
    simp only [fillA, Act.put, sA9, sB9, sC9] at hK ⊢
    obtain ⟨m', e1, e2, e3, e4, ⟨ka, kb, ok, hx, hsz⟩, hm⟩ := hd 6 ⟨⟨6, .data⟩, by simp, rfl, rfl⟩
    change x 53 = _ at hx
    simp only [hx] at hK ⊢
    go_simp
    exact hK _ _ (tX_same (by decide)) (hC.same (by decide) (by decide)) ⟨m', e1, e2, e3, e4, ⟨ka, kb, ok, rfl, hsz⟩, hm⟩
   | 8, ho =>
    cases ho
    simp only [fillA, Act.put, sA9, sB9, sC9] at hK ⊢
    obtain ⟨m', e1, e2, e3, e4, ⟨ka, kb, ok, hx, hsz⟩, hm⟩ := hd 7 ⟨⟨7, .data⟩, by simp, rfl, rfl⟩
    change x 46 = _ at hx
    have hx' := hx
    simp only [hx'] at hK ⊢
    go_simp
    exact hK _ _ (tX_same (by decide)) (hC.same (by decide) (by decide)) ⟨m', e1, e2, e3, e4, ⟨ka, kb, ok, hx, hsz⟩, rfl, hm⟩
   | 9, ho =>
    cases ho
    simp only [fillA, Act.put, sA9, sB9, sC9] at hK ⊢
    obtain ⟨m', e1, e2, e3, e4, ⟨ka, kb, ok, hx, hsz⟩, hm⟩ := hd 7 ⟨⟨7, .data⟩, by simp, rfl, rfl⟩
    change x 46 = _ at hx
    have hx' := hx
    simp only [hx'] at hK ⊢
    go_simp
    exact hK _ _ (tX_same (by decide)) (hC.same (by decide) (by decide)) ⟨_, hx, rfl⟩
   | 10, ho =>
    cases ho
    simp only [fillA, Act.put, sA9, sB9, sC9] at hK ⊢
    obtain ⟨m', e1, e2, e3, e4, ⟨ka, kb, ok, hx, hsz⟩, hm⟩ := hd 7 ⟨⟨7, .data⟩, by simp, rfl, rfl⟩
    change x 46 = _ at hx
    have hx' := hx
    simp only [hx'] at hK ⊢
    go_simp
    exact hK _ _ (tX_same (by decide)) (hC.same (by decide) (by decide)) ⟨_, hx, rfl⟩
   | 11, ho =>
    cases ho
    simp only [fillA, Act.put, sA9, sB9, sC9] at hK ⊢
    obtain ⟨m', e1, e2, e3, e4, ⟨ka, kb, ok, hx, hsz⟩, hm⟩ := hd 7 ⟨⟨7, .data⟩, by simp, rfl, rfl⟩
    change x 46 = _ at hx
    have hx' := hx
    simp only [hx'] at hK ⊢
    go_simp
    exact hK _ _ (tX_same (by decide)) (hC.same (by decide) (by decide)) ⟨_, hx, rfl⟩
   | 12, ho =>
    cases ho
    simp only [fillA, Act.put, sA9, sB9, sC9] at hK ⊢
    obtain ⟨m', e1, e2, e3, e4, hf, hx, hm⟩ := hd 8 ⟨⟨8, .data⟩, by simp, rfl, rfl⟩
    change x 54 = _ at hx
    obtain ⟨cs, hcs, ho⟩ := hC.2 _ rfl hD
    obtain ⟨E1, n1, rfl, _⟩ := hm.t.b
    obtain ⟨E2, n2, rfl, _⟩ := hm.t.f
    obtain ⟨E3, n3, rfl, _⟩ := hm.l
    obtain ⟨E4, n4, rfl, _⟩ := hm.o
    obtain ⟨cs⟩ := cs
    obtain ⟨k0, k1, k2, k3, k4, k5, k6, k7, k8, rfl⟩ := len_nine hcs
    obtain ⟨z0, z1, z2, z3, z4, z5, z6, z7, z8⟩ := cells9 ho
    obtain ⟨y0, y1, y2, y3, y4, y5, y6, y7, y8⟩ := free9 ho
    have hlo := ho.lt
    simp only [hx] at hK ⊢
    go_simp
    refine hK undef _ (tX_store (stS_set9 ho _ _ _ _ _ _ _ _ _)) (hC.store (by decide) (by omega) hgw (by intro e he; simp at he; rcases he with rfl | rfl <;> first | (show w.heap.size ≠ w.heap.size + 1 + 1; omega) | (show w.heap.size + 1 ≠ w.heap.size + 1 + 1; omega)) ho _ _ _ _ _ _ _ _ _) ⟨rfl, m', _, _, _, _, hf, hm.oth (stS_set9 ho _ _ _ _ _ _ _ _ _).1 (by decide) (by decide) (by decide) (by decide), ho.set9 _ _ _ _ _ _ _ _ _⟩
   | 13, ho =>
    cases ho
    simp only [fillA, Act.put, sA9, sB9, sC9] at hK ⊢
    go_simp
    obtain ⟨vs, h1, h2⟩ := hd 11 ⟨⟨11, .data⟩, by simp, rfl, rfl⟩
    exact hK _ _ (tX_same (by decide)) (hC.same (by decide) (by decide)) ⟨vs, h1, h2⟩
   | _ + 14, ho => simp at ho
  intro D xa w5 hD hC hd
  obtain ⟨hdc, _⟩ := hC
  rw [cn_all (l := [2, 5]) (fun i hi => hD i (by simp at hi; simp; omega))] at hdc
  change DC B w g (q + 1 + 2) _ _ _ _ _ _ _ at hdc
  obtain ⟨_, m', e1, e2, e3, e4, hf, hmm, hob⟩ := hd 12 (by decide)
  obtain ⟨ka, kb, ok, hx, hsz⟩ := hf
  change xa 46 = _ at hx
  obtain ⟨vs, h1, h2⟩ := hd 13 (by decide)
  have dO : xa 6 = .bool ok := tpl_get h1 h2 hx rfl
  simp only [fillA, Act.put, sA9, sB9, sC9, dO]
  clear hd h1 h2 hx hD
  have hwr : w5.heap.size ≥ w.heap.size := hdc.gr.size
  cases ok with
  | false =>
   have HR5 := Hd (hdc.own (b := w.heap.size + 1) (t := 48) (cs := #[.slice none 0 0, .slice none 0 0, .slice none 0 0, .int .i64 0, .int .i64 0, .int .i64 0, .int .i64 0, .slice none 0 0, .int .i64 0]) (by simp))
   have hx5 := hdc.own (b := w.heap.size) (t := 48) (cs := #[.slice A1 m.t.bs.length c1, .slice A2 m.t.fs.length c2, .slice A3 m.c.ls.length c3, .int .i64 m.c.hand, .int .i64 m.g.count, .int .i64 m.g.next, .int .i64 m.g.round, .slice A4 m.g.os.length c4, .int .i64 m.sp]) (by simp)
   have HMM5 := Hd hdc.mm
   have HRD5 := Hd hdc.rd
   have HGR5 := Hd hdc.gr
   have HZZ := Hd hz
   obtain ⟨p0o, p1o, p2o, p3o, p4o, p5o, p6o, p7o, p8o⟩ := cells9 hx5
   have hlx := hx5.lt
   clear hx5 hdc hob hmm
   obtain ⟨r0x, r1x, r2x, r3x, r4x, r5x, r6x, r7x, r8x⟩ := cells9 HR5.out
   obtain ⟨z0x, z1x, z2x, z3x, z4x, z5x, z6x, z7x, z8x⟩ := free9 HR5.out
   have hlr := HR5.out.lt
   go_wp2
   have o3 := HR5.out.set9 (.slice A1 m.t.bs.length c1) (.slice A2 m.t.fs.length c2) (.slice A3 m.c.ls.length c3) (.int .i64 (m).c.hand) (.int .i64 (m).g.count) (.int .i64 (m).g.next) (.int .i64 (m).g.round) (.slice A4 m.g.os.length c4) (.int .i64 (m).sp)
   obtain ⟨p0t, p1t, p2t, p3t, p4t, p5t, p6t, p7t, p8t⟩ := cells9 o3
   refine bodyPost_ret (v := .agg #[.slice A1 m.t.bs.length c1, .slice A2 m.t.fs.length c2, .slice A3 m.c.ls.length c3, .int .i64 m.c.hand, .int .i64 m.g.count, .int .i64 m.g.next, .int .i64 m.g.round, .slice A4 m.g.os.length c4, .int .i64 m.sp]) (by simp [results, Tryz.results171, go_sem, p0t, p1t, p2t, p3t, p4t, p5t, p6t, p7t, p8t]) rfl ⟨_, rfl, m, _, _, _, _, q + 1 + 2, rfl, HMM5.out.far9 HR5.out _ _ _ _ _ _ _ _ _, HZZ.out, ?_, by omega, ?_⟩
   ·repeat (refine rdr_set1 (by omega) ?_)
    exact HRD5.out
   ·repeat (refine g_set (by omega) ?_)
    exact HGR5.out
  | true =>
   have HR5 := Hd (hdc.own (b := w.heap.size + 1) (t := 48) (cs := #[.slice none 0 0, .slice none 0 0, .slice none 0 0, .int .i64 0, .int .i64 0, .int .i64 0, .int .i64 0, .slice none 0 0, .int .i64 0]) (by simp))
   have HMM5 := Hd hmm
   have HRD5 := Hd hdc.rd
   have HGR5 := Hd hdc.gr
   have HZZ := Hd (hsz rfl)
   obtain ⟨G1, j1, rfl, _⟩ := hmm.t.b
   obtain ⟨G2, j2, rfl, _⟩ := hmm.t.f
   obtain ⟨G3, j3, rfl, _⟩ := hmm.l
   obtain ⟨G4, j4, rfl, _⟩ := hmm.o
   obtain ⟨p0o, p1o, p2o, p3o, p4o, p5o, p6o, p7o, p8o⟩ := cells9 hob
   have hlx := hob.lt
   clear hob hdc hmm
   obtain ⟨r0x, r1x, r2x, r3x, r4x, r5x, r6x, r7x, r8x⟩ := cells9 HR5.out
   obtain ⟨z0x, z1x, z2x, z3x, z4x, z5x, z6x, z7x, z8x⟩ := free9 HR5.out
   have hlr := HR5.out.lt
   go_wp2
   have o3 := HR5.out.set9 (.slice G1 m'.t.bs.length j1) (.slice G2 m'.t.fs.length j2) (.slice G3 m'.c.ls.length j3) (.int .i64 (m').c.hand) (.int .i64 (m').g.count) (.int .i64 (m').g.next) (.int .i64 (m').g.round) (.slice G4 m'.g.os.length j4) (.int .i64 (m').sp)
   obtain ⟨p0t, p1t, p2t, p3t, p4t, p5t, p6t, p7t, p8t⟩ := cells9 o3
   refine bodyPost_ret (v := .agg #[.slice G1 m'.t.bs.length j1, .slice G2 m'.t.fs.length j2, .slice G3 m'.c.ls.length j3, .int .i64 m'.c.hand, .int .i64 m'.g.count, .int .i64 m'.g.next, .int .i64 m'.g.round, .slice G4 m'.g.os.length j4, .int .i64 m'.sp]) (by simp [results, Tryz.results171, go_sem, p0t, p1t, p2t, p3t, p4t, p5t, p6t, p7t, p8t]) rfl ⟨_, rfl, m', _, _, _, _, q + 1 + 2, rfl, HMM5.out.far9 HR5.out _ _ _ _ _ _ _ _ _, HZZ.out, ?_, by omega, ?_⟩
   ·repeat (refine rdr_set1 (by omega) ?_)
    exact HRD5.out
   ·repeat (refine g_set (by omega) ?_)
    exact HGR5.out
 ·go_wp2
  refine wp_region_rel2 (by kernel_rfl) [61, 62, 63, 64, 65, 60, 66, 67, 6] [[61], [62], [63], [64], [65], [60], [60, 66], [60, 67], [60], [60, 6]] (CX B w g (q + 1) [(w.heap.size, 48, #[.slice A1 m.t.bs.length c1, .slice A2 m.t.fs.length c2, .slice A3 m.c.ls.length c3, .int .i64 m.c.hand, .int .i64 m.g.count, .int .i64 m.g.next, .int .i64 m.g.round, .slice A4 m.g.os.length c4, .int .i64 m.sp]), (w.heap.size + 1, 48, #[.slice none 0 0, .slice none 0 0, .slice none 0 0, .int .i64 0, .int .i64 0, .int .i64 0, .int .i64 0, .slice none 0 0, .int .i64 0])] (.slice A1 m.t.bs.length c1) (.slice A2 m.t.fs.length c2) (.slice A3 m.c.ls.length c3) (.slice A4 m.g.os.length c4) m [3] 8 (some (w.heap.size + 1 + 1))) (kxs (si := 8) [KX.eq 61 (.agg #[.slice A1 m.t.bs.length c1, .slice A2 m.t.fs.length c2, .slice A3 m.c.ls.length c3, .int .i64 m.c.hand, .int .i64 m.g.count, .int .i64 m.g.next, .int .i64 m.g.round, .slice A4 m.g.os.length c4, .int .i64 m.sp]), KX.eq 62 (.pointer (some ⟨g, 0, none⟩)), KX.lit 63 #[.int .i64 200, .int .i64 201] 2, KX.sat 64 isN, KX.tup 65 B okM, KX.tup 60 B okM, KX.fst 60 66 B okM, KX.part 60 67 1, KX.put 60 (w.heap.size + 1 + 1) B okM, KX.part 60 6 1]) (tX 8) (by kernel_rfl) ?_ (kxs_loc (si := 8) (ks := [KX.eq 61 (.agg #[.slice A1 m.t.bs.length c1, .slice A2 m.t.fs.length c2, .slice A3 m.c.ls.length c3, .int .i64 m.c.hand, .int .i64 m.g.count, .int .i64 m.g.next, .int .i64 m.g.round, .slice A4 m.g.os.length c4, .int .i64 m.sp]), KX.eq 62 (.pointer (some ⟨g, 0, none⟩)), KX.lit 63 #[.int .i64 200, .int .i64 201] 2, KX.sat 64 isN, KX.tup 65 B okM, KX.tup 60 B okM, KX.fst 60 66 B okM, KX.part 60 67 1, KX.put 60 (w.heap.size + 1 + 1) B okM, KX.part 60 6 1])) kxs_keep ?_ ?_
  ·refine ⟨?_, fun b hb _ => ?_⟩
   ·rw [cn_zero]
    exact HD1.out.below (bD bR)
   ·injection hb with hb
    subst hb
    exact ⟨_, rfl, HN.out⟩
  ·intro i o ho D x v hD hC hd K hK
   match i, ho with
   | 0, ho =>
    cases ho
    simp only [fillA, Act.put, sA9, sB9, sC9] at hK ⊢
    have hx := hC.1.own (b := w.heap.size) (t := 48) (cs := #[.slice A1 m.t.bs.length c1, .slice A2 m.t.fs.length c2, .slice A3 m.c.ls.length c3, .int .i64 m.c.hand, .int .i64 m.g.count, .int .i64 m.g.next, .int .i64 m.g.round, .slice A4 m.g.os.length c4, .int .i64 m.sp]) (by simp)
    obtain ⟨z0, z1, z2, z3, z4, z5, z6, z7, z8⟩ := cells9 hx
    go_simp
    exact hK _ _ (tX_same (by decide)) (hC.same (by decide) (by decide)) rfl
   | 1, ho =>
    cases ho
    simp only [fillA, Act.put, sA9, sB9, sC9] at hK ⊢
    go_simp
    exact hK _ _ (tX_same (by decide)) (hC.same (by decide) (by decide)) rfl
   | 2, ho =>
    cases ho
    simp only [fillA, Act.put, sA9, sB9, sC9] at hK ⊢
    go_simp
    exact hK _ _ (tX_below (by decide) (bA bR)) (hC.below (bA bR) (by decide) (by decide)) ⟨_, rfl, Own.new_ _ _ _⟩
   | 3, ho =>
    cases ho
    simp only [fillA, Act.put, sA9, sB9, sC9] at hK ⊢
    have d0 := hd 1 ⟨⟨1, .data⟩, by simp, rfl, rfl⟩
    change x 62 = .pointer (some ⟨g, 0, none⟩) at d0
    have d1 := hd 2 ⟨⟨2, .data⟩, by simp, rfl, rfl⟩
    obtain ⟨gd1, d1, od1⟩ := d1
    change x 63 = .slice (some ⟨gd1, 0, none⟩) 2 2 at d1
    simp only [d0, d1] at hK ⊢
    have hcn : cn D [3] ≤ 1 := cn_le D _
    obtain ⟨Ar, nr, cr, hor, _⟩ := hC.1.rd.ok
    go_wp2_with fail
    refine (num_any B g (q + 1 + cn D [3]) gd1 [200, 201] v hC.1.rd od1 (od1.ne hor (by decide)) (by omega) (by simp) (by simp)).mono ?_
    rintro e v' ⟨z, rfl, _, hrd, hgr⟩
    go_simp
    exact hK _ _ (tX_oth (by decide) (hC.1.oth hgr)) (hC.read hD (by decide) (by decide) (by decide) hrd hgr) ⟨_, rfl⟩
   | 4, ho =>
    cases ho
    simp only [fillA, Act.put, sA9, sB9, sC9] at hK ⊢
    have d0 := hd 0 ⟨⟨0, .data⟩, by simp, rfl, rfl⟩
    change x 61 = .agg #[.slice A1 m.t.bs.length c1, .slice A2 m.t.fs.length c2, .slice A3 m.c.ls.length c3, .int .i64 m.c.hand, .int .i64 m.g.count, .int .i64 m.g.next, .int .i64 m.g.round, .slice A4 m.g.os.length c4, .int .i64 m.sp] at d0
    have d1 := hd 3 ⟨⟨3, .data⟩, by simp, rfl, rfl⟩
    obtain ⟨nd1, d1⟩ := d1
    change x 64 = .int .i64 nd1 at d1
    simp only [d0, d1] at hK ⊢
    have hBv : B ≤ v.heap.size := Nat.le_trans hBw hC.1.gr.size
    go_wp2_with fail
    refine (sWirePage_any _ _ _ _ m _ v hC.1.mm.r).mono ?_
    rintro e v' ⟨_, rfl, e1, e2, e3, e4, rfl, hm, hb⟩
    go_simp
    exact hK _ _ (tX_below (by decide) hb) (hC.below hb (by decide) (by decide)) ⟨_, e1, e2, e3, e4, ⟨_, rfl, fun h => (Sz.of (mav_wire h)).up (by omega)⟩, hm.mono hBv⟩
   | 5, ho =>
    cases ho
    simp only [fillA, Act.put, sA9, sB9, sC9] at hK ⊢
    obtain ⟨m', e1, e2, e3, e4, ⟨ok, hx, hsz⟩, hm⟩ := hd 4 ⟨⟨4, .data⟩, by simp, rfl, rfl⟩
    change x 65 = _ at hx
    simp only [hx] at hK ⊢
    go_simp
    exact hK _ _ (tX_same (by decide)) (hC.same (by decide) (by decide)) ⟨m', e1, e2, e3, e4, ⟨ok, rfl, hsz⟩, hm⟩
   | 6, ho =>
    cases ho
    simp only [fillA, Act.put, sA9, sB9, sC9] at hK ⊢
    obtain ⟨m', e1, e2, e3, e4, ⟨ok, hx, hsz⟩, hm⟩ := hd 5 ⟨⟨5, .data⟩, by simp, rfl, rfl⟩
    change x 60 = _ at hx
    have hx' := hx
    simp only [hx'] at hK ⊢
    go_simp
    exact hK _ _ (tX_same (by decide)) (hC.same (by decide) (by decide)) ⟨m', e1, e2, e3, e4, ⟨ok, hx, hsz⟩, rfl, hm⟩
   | 7, ho =>
    cases ho
    simp only [fillA, Act.put, sA9, sB9, sC9] at hK ⊢
    obtain ⟨m', e1, e2, e3, e4, ⟨ok, hx, hsz⟩, hm⟩ := hd 5 ⟨⟨5, .data⟩, by simp, rfl, rfl⟩
    change x 60 = _ at hx
    have hx' := hx
    simp only [hx'] at hK ⊢
    go_simp
    exact hK _ _ (tX_same (by decide)) (hC.same (by decide) (by decide)) ⟨_, hx, rfl⟩
   | 8, ho =>
    cases ho
    simp only [fillA, Act.put, sA9, sB9, sC9] at hK ⊢
    obtain ⟨m', e1, e2, e3, e4, hf, hx, hm⟩ := hd 6 ⟨⟨6, .data⟩, by simp, rfl, rfl⟩
    change x 66 = _ at hx
    obtain ⟨cs, hcs, ho⟩ := hC.2 _ rfl hD
    obtain ⟨E1, n1, rfl, _⟩ := hm.t.b
    obtain ⟨E2, n2, rfl, _⟩ := hm.t.f
    obtain ⟨E3, n3, rfl, _⟩ := hm.l
    obtain ⟨E4, n4, rfl, _⟩ := hm.o
    obtain ⟨cs⟩ := cs
    obtain ⟨k0, k1, k2, k3, k4, k5, k6, k7, k8, rfl⟩ := len_nine hcs
    obtain ⟨z0, z1, z2, z3, z4, z5, z6, z7, z8⟩ := cells9 ho
    obtain ⟨y0, y1, y2, y3, y4, y5, y6, y7, y8⟩ := free9 ho
    have hlo := ho.lt
    simp only [hx] at hK ⊢
    go_simp
    refine hK undef _ (tX_store (stS_set9 ho _ _ _ _ _ _ _ _ _)) (hC.store (by decide) (by omega) hgw (by intro e he; simp at he; rcases he with rfl | rfl <;> first | (show w.heap.size ≠ w.heap.size + 1 + 1; omega) | (show w.heap.size + 1 ≠ w.heap.size + 1 + 1; omega)) ho _ _ _ _ _ _ _ _ _) ⟨rfl, m', _, _, _, _, hf, hm.oth (stS_set9 ho _ _ _ _ _ _ _ _ _).1 (by decide) (by decide) (by decide) (by decide), ho.set9 _ _ _ _ _ _ _ _ _⟩
   | 9, ho =>
    cases ho
    simp only [fillA, Act.put, sA9, sB9, sC9] at hK ⊢
    go_simp
    obtain ⟨vs, h1, h2⟩ := hd 7 ⟨⟨7, .data⟩, by simp, rfl, rfl⟩
    exact hK _ _ (tX_same (by decide)) (hC.same (by decide) (by decide)) ⟨vs, h1, h2⟩
   | _ + 10, ho => simp at ho
  intro D xa w5 hD hC hd
  obtain ⟨hdc, _⟩ := hC
  rw [cn_all (l := [3]) (fun i hi => hD i (by simp at hi; simp; omega))] at hdc
  change DC B w g (q + 1 + 1) _ _ _ _ _ _ _ at hdc
  obtain ⟨_, m', e1, e2, e3, e4, hf, hmm, hob⟩ := hd 8 (by decide)
  obtain ⟨ok, hx, hsz⟩ := hf
  change xa 60 = _ at hx
  obtain ⟨vs, h1, h2⟩ := hd 9 (by decide)
  have dO : xa 6 = .bool ok := tpl_get h1 h2 hx rfl
  simp only [fillA, Act.put, sA9, sB9, sC9, dO]
  clear hd h1 h2 hx hD
  have hwr : w5.heap.size ≥ w.heap.size := hdc.gr.size
  cases ok with
  | false =>
   have HR5 := Hd (hdc.own (b := w.heap.size + 1) (t := 48) (cs := #[.slice none 0 0, .slice none 0 0, .slice none 0 0, .int .i64 0, .int .i64 0, .int .i64 0, .int .i64 0, .slice none 0 0, .int .i64 0]) (by simp))
   have hx5 := hdc.own (b := w.heap.size) (t := 48) (cs := #[.slice A1 m.t.bs.length c1, .slice A2 m.t.fs.length c2, .slice A3 m.c.ls.length c3, .int .i64 m.c.hand, .int .i64 m.g.count, .int .i64 m.g.next, .int .i64 m.g.round, .slice A4 m.g.os.length c4, .int .i64 m.sp]) (by simp)
   have HMM5 := Hd hdc.mm
   have HRD5 := Hd hdc.rd
   have HGR5 := Hd hdc.gr
   have HZZ := Hd hz
   obtain ⟨p0o, p1o, p2o, p3o, p4o, p5o, p6o, p7o, p8o⟩ := cells9 hx5
   have hlx := hx5.lt
   clear hx5 hdc hob hmm
   obtain ⟨r0x, r1x, r2x, r3x, r4x, r5x, r6x, r7x, r8x⟩ := cells9 HR5.out
   obtain ⟨z0x, z1x, z2x, z3x, z4x, z5x, z6x, z7x, z8x⟩ := free9 HR5.out
   have hlr := HR5.out.lt
   go_wp2
   have o3 := HR5.out.set9 (.slice A1 m.t.bs.length c1) (.slice A2 m.t.fs.length c2) (.slice A3 m.c.ls.length c3) (.int .i64 (m).c.hand) (.int .i64 (m).g.count) (.int .i64 (m).g.next) (.int .i64 (m).g.round) (.slice A4 m.g.os.length c4) (.int .i64 (m).sp)
   obtain ⟨p0t, p1t, p2t, p3t, p4t, p5t, p6t, p7t, p8t⟩ := cells9 o3
   refine bodyPost_ret (v := .agg #[.slice A1 m.t.bs.length c1, .slice A2 m.t.fs.length c2, .slice A3 m.c.ls.length c3, .int .i64 m.c.hand, .int .i64 m.g.count, .int .i64 m.g.next, .int .i64 m.g.round, .slice A4 m.g.os.length c4, .int .i64 m.sp]) (by simp [results, Tryz.results171, go_sem, p0t, p1t, p2t, p3t, p4t, p5t, p6t, p7t, p8t]) rfl ⟨_, rfl, m, _, _, _, _, q + 1 + 1, rfl, HMM5.out.far9 HR5.out _ _ _ _ _ _ _ _ _, HZZ.out, ?_, by omega, ?_⟩
   ·repeat (refine rdr_set1 (by omega) ?_)
    exact HRD5.out
   ·repeat (refine g_set (by omega) ?_)
    exact HGR5.out
  | true =>
   have HR5 := Hd (hdc.own (b := w.heap.size + 1) (t := 48) (cs := #[.slice none 0 0, .slice none 0 0, .slice none 0 0, .int .i64 0, .int .i64 0, .int .i64 0, .int .i64 0, .slice none 0 0, .int .i64 0]) (by simp))
   have HMM5 := Hd hmm
   have HRD5 := Hd hdc.rd
   have HGR5 := Hd hdc.gr
   have HZZ := Hd (hsz rfl)
   obtain ⟨G1, j1, rfl, _⟩ := hmm.t.b
   obtain ⟨G2, j2, rfl, _⟩ := hmm.t.f
   obtain ⟨G3, j3, rfl, _⟩ := hmm.l
   obtain ⟨G4, j4, rfl, _⟩ := hmm.o
   obtain ⟨p0o, p1o, p2o, p3o, p4o, p5o, p6o, p7o, p8o⟩ := cells9 hob
   have hlx := hob.lt
   clear hob hdc hmm
   obtain ⟨r0x, r1x, r2x, r3x, r4x, r5x, r6x, r7x, r8x⟩ := cells9 HR5.out
   obtain ⟨z0x, z1x, z2x, z3x, z4x, z5x, z6x, z7x, z8x⟩ := free9 HR5.out
   have hlr := HR5.out.lt
   go_wp2
   have o3 := HR5.out.set9 (.slice G1 m'.t.bs.length j1) (.slice G2 m'.t.fs.length j2) (.slice G3 m'.c.ls.length j3) (.int .i64 (m').c.hand) (.int .i64 (m').g.count) (.int .i64 (m').g.next) (.int .i64 (m').g.round) (.slice G4 m'.g.os.length j4) (.int .i64 (m').sp)
   obtain ⟨p0t, p1t, p2t, p3t, p4t, p5t, p6t, p7t, p8t⟩ := cells9 o3
   refine bodyPost_ret (v := .agg #[.slice G1 m'.t.bs.length j1, .slice G2 m'.t.fs.length j2, .slice G3 m'.c.ls.length j3, .int .i64 m'.c.hand, .int .i64 m'.g.count, .int .i64 m'.g.next, .int .i64 m'.g.round, .slice G4 m'.g.os.length j4, .int .i64 m'.sp]) (by simp [results, Tryz.results171, go_sem, p0t, p1t, p2t, p3t, p4t, p5t, p6t, p7t, p8t]) rfl ⟨_, rfl, m', _, _, _, _, q + 1 + 1, rfl, HMM5.out.far9 HR5.out _ _ _ _ _ _ _ _ _, HZZ.out, ?_, by omega, ?_⟩
   ·repeat (refine rdr_set1 (by omega) ?_)
    exact HRD5.out
   ·repeat (refine g_set (by omega) ?_)
    exact HGR5.out
 ·go_wp2
  refine wp_region_rel2 (by kernel_rfl) [71, 72, 73, 74, 75, 76, 77, 70, 78, 79, 6] [[71], [72], [73], [74], [75], [76], [77], [70], [70, 78], [70, 79], [70], [70, 6]] (CX B w g (q + 1) [(w.heap.size, 48, #[.slice A1 m.t.bs.length c1, .slice A2 m.t.fs.length c2, .slice A3 m.c.ls.length c3, .int .i64 m.c.hand, .int .i64 m.g.count, .int .i64 m.g.next, .int .i64 m.g.round, .slice A4 m.g.os.length c4, .int .i64 m.sp]), (w.heap.size + 1, 48, #[.slice none 0 0, .slice none 0 0, .slice none 0 0, .int .i64 0, .int .i64 0, .int .i64 0, .int .i64 0, .slice none 0 0, .int .i64 0])] (.slice A1 m.t.bs.length c1) (.slice A2 m.t.fs.length c2) (.slice A3 m.c.ls.length c3) (.slice A4 m.g.os.length c4) m [2, 4] 10 (some (w.heap.size + 1 + 1))) (kxs (si := 10) [KX.eq 71 (.agg #[.slice A1 m.t.bs.length c1, .slice A2 m.t.fs.length c2, .slice A3 m.c.ls.length c3, .int .i64 m.c.hand, .int .i64 m.g.count, .int .i64 m.g.next, .int .i64 m.g.round, .slice A4 m.g.os.length c4, .int .i64 m.sp]), KX.eq 72 (.pointer (some ⟨g, 0, none⟩)), KX.sat 73 isN, KX.eq 74 (.pointer (some ⟨g, 0, none⟩)), KX.sat 75 isN, KX.sat 76 isK, KX.tup 77 B okM, KX.tup 70 B okM, KX.fst 70 78 B okM, KX.part 70 79 1, KX.put 70 (w.heap.size + 1 + 1) B okM, KX.part 70 6 1]) (tX 10) (by kernel_rfl) ?_ (kxs_loc (si := 10) (ks := [KX.eq 71 (.agg #[.slice A1 m.t.bs.length c1, .slice A2 m.t.fs.length c2, .slice A3 m.c.ls.length c3, .int .i64 m.c.hand, .int .i64 m.g.count, .int .i64 m.g.next, .int .i64 m.g.round, .slice A4 m.g.os.length c4, .int .i64 m.sp]), KX.eq 72 (.pointer (some ⟨g, 0, none⟩)), KX.sat 73 isN, KX.eq 74 (.pointer (some ⟨g, 0, none⟩)), KX.sat 75 isN, KX.sat 76 isK, KX.tup 77 B okM, KX.tup 70 B okM, KX.fst 70 78 B okM, KX.part 70 79 1, KX.put 70 (w.heap.size + 1 + 1) B okM, KX.part 70 6 1])) kxs_keep ?_ ?_
  ·refine ⟨?_, fun b hb _ => ?_⟩
   ·rw [cn_zero]
    exact HD1.out.below (bD bR)
   ·injection hb with hb
    subst hb
    exact ⟨_, rfl, HN.out⟩
  ·intro i o ho D x v hD hC hd K hK
   match i, ho with
   | 0, ho =>
    cases ho
    simp only [fillA, Act.put, sA9, sB9, sC9] at hK ⊢
    have hx := hC.1.own (b := w.heap.size) (t := 48) (cs := #[.slice A1 m.t.bs.length c1, .slice A2 m.t.fs.length c2, .slice A3 m.c.ls.length c3, .int .i64 m.c.hand, .int .i64 m.g.count, .int .i64 m.g.next, .int .i64 m.g.round, .slice A4 m.g.os.length c4, .int .i64 m.sp]) (by simp)
    obtain ⟨z0, z1, z2, z3, z4, z5, z6, z7, z8⟩ := cells9 hx
    go_simp
    exact hK _ _ (tX_same (by decide)) (hC.same (by decide) (by decide)) rfl
   | 1, ho =>
    cases ho
    simp only [fillA, Act.put, sA9, sB9, sC9] at hK ⊢
    go_simp
    exact hK _ _ (tX_same (by decide)) (hC.same (by decide) (by decide)) rfl
   | 2, ho =>
    cases ho
    simp only [fillA, Act.put, sA9, sB9, sC9] at hK ⊢
    have d0 := hd 1 ⟨⟨1, .data⟩, by simp, rfl, rfl⟩
    change x 72 = .pointer (some ⟨g, 0, none⟩) at d0
    simp only [d0] at hK ⊢
    have hcn : cn D [2, 4] ≤ 2 := cn_le D _
    go_wp2_with fail
    refine (pick_any B g (q + 1 + cn D [2, 4]) 3 v hC.1.rd (by omega) (by omega)).mono ?_
    rintro e v' ⟨z, rfl, _, _, hrd, hgr⟩
    go_simp
    exact hK _ _ (tX_oth (by decide) (hC.1.oth hgr)) (hC.read hD (by decide) (by decide) (by decide) hrd hgr) ⟨_, rfl⟩
   | 3, ho =>
    cases ho
    simp only [fillA, Act.put, sA9, sB9, sC9] at hK ⊢
    go_simp
    exact hK _ _ (tX_same (by decide)) (hC.same (by decide) (by decide)) rfl
   | 4, ho =>
    cases ho
    simp only [fillA, Act.put, sA9, sB9, sC9] at hK ⊢
    have d0 := hd 3 ⟨⟨3, .data⟩, by simp, rfl, rfl⟩
    change x 74 = .pointer (some ⟨g, 0, none⟩) at d0
    simp only [d0] at hK ⊢
    have hcn : cn D [2, 4] ≤ 2 := cn_le D _
    go_wp2_with fail
    refine (l6Page_any B g (q + 1 + cn D [2, 4]) v hC.1.rd (by omega)).mono ?_
    rintro e v' ⟨z, rfl, hrd, hgr⟩
    go_simp
    exact hK _ _ (tX_oth (by decide) (hC.1.oth hgr)) (hC.read hD (by decide) (by decide) (by decide) hrd hgr) ⟨_, rfl⟩
   | 5, ho =>
    cases ho
    simp only [fillA, Act.put, sA9, sB9, sC9] at hK ⊢
    have d0 := hd 2 ⟨⟨2, .data⟩, by simp, rfl, rfl⟩
    obtain ⟨nd0, d0⟩ := d0
    change x 73 = .int .i64 nd0 at d0
    have d1 := hd 4 ⟨⟨4, .data⟩, by simp, rfl, rfl⟩
    obtain ⟨nd1, d1⟩ := d1
    change x 75 = .int .i64 nd1 at d1
    simp only [d0, d1] at hK ⊢
    go_wp2_with fail
    refine (sKeyFor_any _ _ _).mono ?_
    rintro e v' ⟨rfl, hb⟩
    go_simp
    exact hK _ _ (tX_below (by decide) hb) (hC.below hb (by decide) (by decide)) ⟨_, _, rfl⟩
   | 6, ho =>
    cases ho
    simp only [fillA, Act.put, sA9, sB9, sC9] at hK ⊢
    have d0 := hd 0 ⟨⟨0, .data⟩, by simp, rfl, rfl⟩
    change x 71 = .agg #[.slice A1 m.t.bs.length c1, .slice A2 m.t.fs.length c2, .slice A3 m.c.ls.length c3, .int .i64 m.c.hand, .int .i64 m.g.count, .int .i64 m.g.next, .int .i64 m.g.round, .slice A4 m.g.os.length c4, .int .i64 m.sp] at d0
    have d1 := hd 5 ⟨⟨5, .data⟩, by simp, rfl, rfl⟩
    obtain ⟨ad1, bd1, d1⟩ := d1
    change x 76 = .agg #[.int .i64 ad1, .int .i64 bd1] at d1
    simp only [d0, d1] at hK ⊢
    have hBv : B ≤ v.heap.size := Nat.le_trans hBw hC.1.gr.size
    go_wp2_with fail
    refine (sTakePage_any _ _ _ _ m _ _ v hC.1.mm.r).mono ?_
    rintro e v' ⟨_, rfl, e1, e2, e3, e4, rfl, hm, hb⟩
    go_simp
    exact hK _ _ (tX_below (by decide) hb) (hC.below hb (by decide) (by decide)) ⟨_, e1, e2, e3, e4, ⟨_, rfl, fun h => (Sz.of (mav_tak h)).up (by omega)⟩, hm.mono hBv⟩
   | 7, ho =>
    cases ho
    simp only [fillA, Act.put, sA9, sB9, sC9] at hK ⊢
    obtain ⟨m', e1, e2, e3, e4, ⟨ok, hx, hsz⟩, hm⟩ := hd 6 ⟨⟨6, .data⟩, by simp, rfl, rfl⟩
    change x 77 = _ at hx
    simp only [hx] at hK ⊢
    go_simp
    exact hK _ _ (tX_same (by decide)) (hC.same (by decide) (by decide)) ⟨m', e1, e2, e3, e4, ⟨ok, rfl, hsz⟩, hm⟩
   | 8, ho =>
    cases ho
    simp only [fillA, Act.put, sA9, sB9, sC9] at hK ⊢
    obtain ⟨m', e1, e2, e3, e4, ⟨ok, hx, hsz⟩, hm⟩ := hd 7 ⟨⟨7, .data⟩, by simp, rfl, rfl⟩
    change x 70 = _ at hx
    have hx' := hx
    simp only [hx'] at hK ⊢
    go_simp
    exact hK _ _ (tX_same (by decide)) (hC.same (by decide) (by decide)) ⟨m', e1, e2, e3, e4, ⟨ok, hx, hsz⟩, rfl, hm⟩
   | 9, ho =>
    cases ho
    simp only [fillA, Act.put, sA9, sB9, sC9] at hK ⊢
    obtain ⟨m', e1, e2, e3, e4, ⟨ok, hx, hsz⟩, hm⟩ := hd 7 ⟨⟨7, .data⟩, by simp, rfl, rfl⟩
    change x 70 = _ at hx
    have hx' := hx
    simp only [hx'] at hK ⊢
    go_simp
    exact hK _ _ (tX_same (by decide)) (hC.same (by decide) (by decide)) ⟨_, hx, rfl⟩
   | 10, ho =>
    cases ho
    simp only [fillA, Act.put, sA9, sB9, sC9] at hK ⊢
    obtain ⟨m', e1, e2, e3, e4, hf, hx, hm⟩ := hd 8 ⟨⟨8, .data⟩, by simp, rfl, rfl⟩
    change x 78 = _ at hx
    obtain ⟨cs, hcs, ho⟩ := hC.2 _ rfl hD
    obtain ⟨E1, n1, rfl, _⟩ := hm.t.b
    obtain ⟨E2, n2, rfl, _⟩ := hm.t.f
    obtain ⟨E3, n3, rfl, _⟩ := hm.l
    obtain ⟨E4, n4, rfl, _⟩ := hm.o
    obtain ⟨cs⟩ := cs
    obtain ⟨k0, k1, k2, k3, k4, k5, k6, k7, k8, rfl⟩ := len_nine hcs
    obtain ⟨z0, z1, z2, z3, z4, z5, z6, z7, z8⟩ := cells9 ho
    obtain ⟨y0, y1, y2, y3, y4, y5, y6, y7, y8⟩ := free9 ho
    have hlo := ho.lt
    simp only [hx] at hK ⊢
    go_simp
    refine hK undef _ (tX_store (stS_set9 ho _ _ _ _ _ _ _ _ _)) (hC.store (by decide) (by omega) hgw (by intro e he; simp at he; rcases he with rfl | rfl <;> first | (show w.heap.size ≠ w.heap.size + 1 + 1; omega) | (show w.heap.size + 1 ≠ w.heap.size + 1 + 1; omega)) ho _ _ _ _ _ _ _ _ _) ⟨rfl, m', _, _, _, _, hf, hm.oth (stS_set9 ho _ _ _ _ _ _ _ _ _).1 (by decide) (by decide) (by decide) (by decide), ho.set9 _ _ _ _ _ _ _ _ _⟩
   | 11, ho =>
    cases ho
    simp only [fillA, Act.put, sA9, sB9, sC9] at hK ⊢
    go_simp
    obtain ⟨vs, h1, h2⟩ := hd 9 ⟨⟨9, .data⟩, by simp, rfl, rfl⟩
    exact hK _ _ (tX_same (by decide)) (hC.same (by decide) (by decide)) ⟨vs, h1, h2⟩
   | _ + 12, ho => simp at ho
  intro D xa w5 hD hC hd
  obtain ⟨hdc, _⟩ := hC
  rw [cn_all (l := [2, 4]) (fun i hi => hD i (by simp at hi; simp; omega))] at hdc
  change DC B w g (q + 1 + 2) _ _ _ _ _ _ _ at hdc
  obtain ⟨_, m', e1, e2, e3, e4, hf, hmm, hob⟩ := hd 10 (by decide)
  obtain ⟨ok, hx, hsz⟩ := hf
  change xa 70 = _ at hx
  obtain ⟨vs, h1, h2⟩ := hd 11 (by decide)
  have dO : xa 6 = .bool ok := tpl_get h1 h2 hx rfl
  simp only [fillA, Act.put, sA9, sB9, sC9, dO]
  clear hd h1 h2 hx hD
  have hwr : w5.heap.size ≥ w.heap.size := hdc.gr.size
  cases ok with
  | false =>
   have HR5 := Hd (hdc.own (b := w.heap.size + 1) (t := 48) (cs := #[.slice none 0 0, .slice none 0 0, .slice none 0 0, .int .i64 0, .int .i64 0, .int .i64 0, .int .i64 0, .slice none 0 0, .int .i64 0]) (by simp))
   have hx5 := hdc.own (b := w.heap.size) (t := 48) (cs := #[.slice A1 m.t.bs.length c1, .slice A2 m.t.fs.length c2, .slice A3 m.c.ls.length c3, .int .i64 m.c.hand, .int .i64 m.g.count, .int .i64 m.g.next, .int .i64 m.g.round, .slice A4 m.g.os.length c4, .int .i64 m.sp]) (by simp)
   have HMM5 := Hd hdc.mm
   have HRD5 := Hd hdc.rd
   have HGR5 := Hd hdc.gr
   have HZZ := Hd hz
   obtain ⟨p0o, p1o, p2o, p3o, p4o, p5o, p6o, p7o, p8o⟩ := cells9 hx5
   have hlx := hx5.lt
   clear hx5 hdc hob hmm
   obtain ⟨r0x, r1x, r2x, r3x, r4x, r5x, r6x, r7x, r8x⟩ := cells9 HR5.out
   obtain ⟨z0x, z1x, z2x, z3x, z4x, z5x, z6x, z7x, z8x⟩ := free9 HR5.out
   have hlr := HR5.out.lt
   go_wp2
   have o3 := HR5.out.set9 (.slice A1 m.t.bs.length c1) (.slice A2 m.t.fs.length c2) (.slice A3 m.c.ls.length c3) (.int .i64 (m).c.hand) (.int .i64 (m).g.count) (.int .i64 (m).g.next) (.int .i64 (m).g.round) (.slice A4 m.g.os.length c4) (.int .i64 (m).sp)
   obtain ⟨p0t, p1t, p2t, p3t, p4t, p5t, p6t, p7t, p8t⟩ := cells9 o3
   refine bodyPost_ret (v := .agg #[.slice A1 m.t.bs.length c1, .slice A2 m.t.fs.length c2, .slice A3 m.c.ls.length c3, .int .i64 m.c.hand, .int .i64 m.g.count, .int .i64 m.g.next, .int .i64 m.g.round, .slice A4 m.g.os.length c4, .int .i64 m.sp]) (by simp [results, Tryz.results171, go_sem, p0t, p1t, p2t, p3t, p4t, p5t, p6t, p7t, p8t]) rfl ⟨_, rfl, m, _, _, _, _, q + 1 + 2, rfl, HMM5.out.far9 HR5.out _ _ _ _ _ _ _ _ _, HZZ.out, ?_, by omega, ?_⟩
   ·repeat (refine rdr_set1 (by omega) ?_)
    exact HRD5.out
   ·repeat (refine g_set (by omega) ?_)
    exact HGR5.out
  | true =>
   have HR5 := Hd (hdc.own (b := w.heap.size + 1) (t := 48) (cs := #[.slice none 0 0, .slice none 0 0, .slice none 0 0, .int .i64 0, .int .i64 0, .int .i64 0, .int .i64 0, .slice none 0 0, .int .i64 0]) (by simp))
   have HMM5 := Hd hmm
   have HRD5 := Hd hdc.rd
   have HGR5 := Hd hdc.gr
   have HZZ := Hd (hsz rfl)
   obtain ⟨G1, j1, rfl, _⟩ := hmm.t.b
   obtain ⟨G2, j2, rfl, _⟩ := hmm.t.f
   obtain ⟨G3, j3, rfl, _⟩ := hmm.l
   obtain ⟨G4, j4, rfl, _⟩ := hmm.o
   obtain ⟨p0o, p1o, p2o, p3o, p4o, p5o, p6o, p7o, p8o⟩ := cells9 hob
   have hlx := hob.lt
   clear hob hdc hmm
   obtain ⟨r0x, r1x, r2x, r3x, r4x, r5x, r6x, r7x, r8x⟩ := cells9 HR5.out
   obtain ⟨z0x, z1x, z2x, z3x, z4x, z5x, z6x, z7x, z8x⟩ := free9 HR5.out
   have hlr := HR5.out.lt
   go_wp2
   have o3 := HR5.out.set9 (.slice G1 m'.t.bs.length j1) (.slice G2 m'.t.fs.length j2) (.slice G3 m'.c.ls.length j3) (.int .i64 (m').c.hand) (.int .i64 (m').g.count) (.int .i64 (m').g.next) (.int .i64 (m').g.round) (.slice G4 m'.g.os.length j4) (.int .i64 (m').sp)
   obtain ⟨p0t, p1t, p2t, p3t, p4t, p5t, p6t, p7t, p8t⟩ := cells9 o3
   refine bodyPost_ret (v := .agg #[.slice G1 m'.t.bs.length j1, .slice G2 m'.t.fs.length j2, .slice G3 m'.c.ls.length j3, .int .i64 m'.c.hand, .int .i64 m'.g.count, .int .i64 m'.g.next, .int .i64 m'.g.round, .slice G4 m'.g.os.length j4, .int .i64 m'.sp]) (by simp [results, Tryz.results171, go_sem, p0t, p1t, p2t, p3t, p4t, p5t, p6t, p7t, p8t]) rfl ⟨_, rfl, m', _, _, _, _, q + 1 + 2, rfl, HMM5.out.far9 HR5.out _ _ _ _ _ _ _ _ _, HZZ.out, ?_, by omega, ?_⟩
   ·repeat (refine rdr_set1 (by omega) ?_)
    exact HRD5.out
   ·repeat (refine g_set (by omega) ?_)
    exact HGR5.out
end Go.Proofs.YtibpnlojlfcpmaaGreatDoor
