/- A part of the proofs of this seat: L10c. -/
import Derived.Test.YtibpnlojlfcpmaaGreatDoorRDpr
set_option linter.unusedVariables false
set_option linter.unusedSimpArgs false
set_option maxRecDepth 1000000
namespace Go.Proofs.YtibpnlojlfcpmaaGreatDoor
open Go.RowKit
def L10P (w : World) (v : Value) (w' : World) : Prop := ∃ (m : Ma) (v1 v2 v3 v4 : Value), v = .agg #[v1, v2, v3, .int .i64 m.c.hand, .int .i64 m.g.count, .int .i64 m.g.next, .int .i64 m.g.round, v4, .int .i64 m.sp] ∧ MaM w.heap.size w' v1 v2 v3 v4 m ∧ Sz 19 m ∧ Below w.heap.size w w'
set_option maxHeartbeats 4000000 in
theorem l10Case_any (A : Option Addr) (n c : Nat) (w : World) (hb : Bytes w.heap.size w A n) (hc : n ≤ c) (hn : n ≤ 1048576) :
  Calls Tryz.prog 70 #[.slice A n c] w (Post2 fun v w' => L10P w v w') := by
 have ho := Own.new_ w 48 #[.slice none 0 0, .slice none 0 0, .slice none 0 0, .int .i64 0, .int .i64 0, .int .i64 0, .int .i64 0, .slice none 0 0, .int .i64 0]
 have hb0 : Below w.heap.size w (w.alloc (.cells #[.slice none 0 0, .slice none 0 0, .slice none 0 0, .int .i64 0, .int .i64 0, .int .i64 0, .int .i64 0, .slice none 0 0, .int .i64 0] 48)) := bA bR
 have hs0 : (w.alloc (.cells #[.slice none 0 0, .slice none 0 0, .slice none 0 0, .int .i64 0, .int .i64 0, .int .i64 0, .int .i64 0, .slice none 0 0, .int .i64 0] 48)).heap.size = w.heap.size + 1 := by simp
 generalize hW : w.alloc (.cells #[.slice none 0 0, .slice none 0 0, .slice none 0 0, .int .i64 0, .int .i64 0, .int .i64 0, .int .i64 0, .slice none 0 0, .int .i64 0] 48) = W0 at ho hb0 hs0
 have KO := Hd (l12Open_low w.heap.size A n c W0 (hb.keep fun q hq => hb0.cell hq) (by omega) hc hn)
 have HN := Hd ho
 have HB := Hd hb0
 clear ho hb0 hb
 go_enter Tryz.func70, Tryz.ntmps70
 go_wp2_with fail
 refine KO.out.mono ?_
 rintro e w1 ⟨rfl, hrd, hb1⟩
 have hn := HN.out.below hb1
 have hbl := bT HB.out hb1
 rw [hs0] at hrd ⊢
 clear HN HB KO hb1
 have HRD := Hd hrd
 have HN := Hd hn
 have HB := Hd hbl
 clear hrd hn hbl
 have hs1 := HB.out.size
 clear hW
 have hgB : w.heap.size < w.heap.size + 1 := by omega
 generalize hg : w.heap.size + 1 = g at *
 go_wp2_with fail
 refine (l6Draw_any w.heap.size g 0 w1 HRD.out (by omega) hs1).mono ?_
 rintro e w2 ⟨_, rfl, m0, q1, q2, q3, q4, p2, rfl, hM2, hz2, hrd, hp2, hgr⟩
 obtain ⟨Z1, y1, rfl, _⟩ := hM2.t.b
 obtain ⟨Z2, y2, rfl, _⟩ := hM2.t.f
 obtain ⟨Z3, y3, rfl, _⟩ := hM2.l
 obtain ⟨Z4, y4, rfl, _⟩ := hM2.o
 have hn := own_gr HN.out hgr (by omega)
 have hb2 := bG HB.out hgr (by intro k hk; injection hk with hk; omega)
 have hgw : g < w2.heap.size := rdr_lt hrd
 have hBw : w.heap.size ≤ w2.heap.size := hb2.size
 have ho4 := Own.new_ w2 48 #[.slice Z1 m0.t.bs.length y1, .slice Z2 m0.t.fs.length y2, .slice Z3 m0.c.ls.length y3, .int .i64 m0.c.hand, .int .i64 m0.g.count, .int .i64 m0.g.next, .int .i64 m0.g.round, .slice Z4 m0.g.os.length y4, .int .i64 m0.sp]
 have hb4 : Below w2.heap.size w2 (w2.alloc (.cells #[.slice Z1 m0.t.bs.length y1, .slice Z2 m0.t.fs.length y2, .slice Z3 m0.c.ls.length y3, .int .i64 m0.c.hand, .int .i64 m0.g.count, .int .i64 m0.g.next, .int .i64 m0.g.round, .slice Z4 m0.g.os.length y4, .int .i64 m0.sp] 48)) := bA bR
 generalize hW4 : w2.alloc (.cells #[.slice Z1 m0.t.bs.length y1, .slice Z2 m0.t.fs.length y2, .slice Z3 m0.c.ls.length y3, .int .i64 m0.c.hand, .int .i64 m0.g.count, .int .i64 m0.g.next, .int .i64 m0.g.round, .slice Z4 m0.g.os.length y4, .int .i64 m0.sp] 48) = w4 at ho4 hb4
 have HN2 := Hd hn
 have HB2 := Hd hb2
 have HO4 := Hd ho4
 have HM4 := Hd (hM2.now hb4)
 have HRD4 := Hd (rdr_below hrd hb4)
 have HGR4 := Hd (gr_below (g := g) hb4)
 have HZ4 := Hd hz2
 clear HRD HN HB hn hb2 hrd hgr ho4 hb4 hM2 hz2 hs1
 have hmb2 : w2.heap.size ≤ w2.heap.size := Nat.le_refl _
 generalize hmb : w2.heap.size = mb at hmb2 HO4 hW4 ⊢
 have hgm : g < mb := by omega
 go_wp2
 go_loopw [5] (fun u wr => ∃ (k : Nat) (m : Ma) (v1 v2 v3 v4 : Value) (p : Nat), 1 ≤ k ∧ k ≤ 5 ∧ u = .int .i64 k ∧ p ≤ 110 + 2 * k ∧ Own wr mb 48 #[v1, v2, v3, .int .i64 m.c.hand, .int .i64 m.g.count, .int .i64 m.g.next, .int .i64 m.g.round, v4, .int .i64 m.sp] ∧ MaM w.heap.size wr v1 v2 v3 v4 m ∧ Sz 17 m ∧ Rdr w.heap.size wr g p ∧ w2.grownBy wr (some g)) (fun u _ => 5 - (intOf u).toNat)
 case atStart => exact ⟨1, m0, _, _, _, _, p2, by omega, by omega, by simp, by omega, HO4.out, HM4.out, HZ4.out, HRD4.out, HGR4.out⟩
 case round =>
  obtain ⟨k, m, v1, v2, v3, v4, p, hk1, hk, rfl, hp, ho, hm, hz, hrd, hgr⟩ := hrel
  obtain ⟨A1, c1, rfl, _⟩ := hm.t.b
  obtain ⟨A2, c2, rfl, _⟩ := hm.t.f
  obtain ⟨A3, c3, rfl, _⟩ := hm.l
  obtain ⟨A4, c4, rfl, _⟩ := hm.o
  have hzf : m.t.fs.length ≤ 17 := hz.f
  have HZ := Hd hz
  have HDC : Hid (DC w.heap.size w2 g p [(mb, 48, #[.slice A1 m.t.bs.length c1, .slice A2 m.t.fs.length c2, .slice A3 m.c.ls.length c3, .int .i64 m.c.hand, .int .i64 m.g.count, .int .i64 m.g.next, .int .i64 m.g.round, .slice A4 m.g.os.length c4, .int .i64 m.sp])] (.slice A1 m.t.bs.length c1) (.slice A2 m.t.fs.length c2) (.slice A3 m.c.ls.length c3) (.slice A4 m.g.os.length c4) m wr) := ⟨hrd, hgr, hm, by intro e he; simp at he; subst he; exact ho, by intro e he; simp at he; subst he; exact (by decide : 48 ≠ 172)⟩
  clear hz HO4 HM4 HZ4 HRD4 HGR4 ho hm hrd hgr
  by_cases hlt : k ≤ 4
  ·have hki : (k : Int) ≤ 4 := by omega
   go_wp2
   refine wp_region_rel2 (by kernel_rfl) [17, 18, 19, 20, 21, 22, 23, 24, 25, 26, 27, 28, 29, 30, 31, 16, 32, 33, 6, 7] [[17], [18], [19], [20], [21], [22], [23], [24], [25], [26], [27], [28], [29], [30], [31], [16], [16, 32], [16, 33], [6], [16, 6], [16, 7]] (CX w.heap.size w2 g (p) [(mb, 48, #[.slice A1 m.t.bs.length c1, .slice A2 m.t.fs.length c2, .slice A3 m.c.ls.length c3, .int .i64 m.c.hand, .int .i64 m.g.count, .int .i64 m.g.next, .int .i64 m.g.round, .slice A4 m.g.os.length c4, .int .i64 m.sp])] (.slice A1 m.t.bs.length c1) (.slice A2 m.t.fs.length c2) (.slice A3 m.c.ls.length c3) (.slice A4 m.g.os.length c4) m [10, 13] 19 none) (kxs (si := 19) [KX.eq 17 (.agg #[.slice A1 m.t.bs.length c1, .slice A2 m.t.fs.length c2, .slice A3 m.c.ls.length c3, .int .i64 m.c.hand, .int .i64 m.g.count, .int .i64 m.g.next, .int .i64 m.g.round, .slice A4 m.g.os.length c4, .int .i64 m.sp]), KX.eq 18 (.pointer (some ⟨mb, 8, none⟩)), KX.eq 19 (.int .i64 m.sp), KX.eq 20 (.int .i64 (k : Int)), KX.eq 21 (.agg #[.int .i64 m.sp, .int .i64 (k : Int)]), KX.eq 22 (.pointer (some ⟨g, 0, none⟩)), KX.eq 23 (.pointer (some ⟨mb, 0, none⟩)), KX.eq 24 (.pointer (some ⟨mb, 1, none⟩)), KX.eq 25 (.slice A2 m.t.fs.length c2), KX.eq 26 (.int .i64 (m.t.fs.length : Int)), KX.sat 27 isN, KX.eq 28 (.pointer (some ⟨g, 0, none⟩)), KX.lit 29 #[.int .i64 3, .int .i64 3, .int .i64 1] 3, KX.sat 30 isN, KX.tup 31 w.heap.size okM, KX.tup 16 w.heap.size okM, KX.fst 16 32 w.heap.size okM, KX.part 16 33 1, KX.box 6 (mb + 1), KX.stored 16 6 (mb + 1) w.heap.size okM, KX.part 16 7 1]) (tX 19) (by kernel_rfl) ?_ (kxs_loc (si := 19) (ks := [KX.eq 17 (.agg #[.slice A1 m.t.bs.length c1, .slice A2 m.t.fs.length c2, .slice A3 m.c.ls.length c3, .int .i64 m.c.hand, .int .i64 m.g.count, .int .i64 m.g.next, .int .i64 m.g.round, .slice A4 m.g.os.length c4, .int .i64 m.sp]), KX.eq 18 (.pointer (some ⟨mb, 8, none⟩)), KX.eq 19 (.int .i64 m.sp), KX.eq 20 (.int .i64 (k : Int)), KX.eq 21 (.agg #[.int .i64 m.sp, .int .i64 (k : Int)]), KX.eq 22 (.pointer (some ⟨g, 0, none⟩)), KX.eq 23 (.pointer (some ⟨mb, 0, none⟩)), KX.eq 24 (.pointer (some ⟨mb, 1, none⟩)), KX.eq 25 (.slice A2 m.t.fs.length c2), KX.eq 26 (.int .i64 (m.t.fs.length : Int)), KX.sat 27 isN, KX.eq 28 (.pointer (some ⟨g, 0, none⟩)), KX.lit 29 #[.int .i64 3, .int .i64 3, .int .i64 1] 3, KX.sat 30 isN, KX.tup 31 w.heap.size okM, KX.tup 16 w.heap.size okM, KX.fst 16 32 w.heap.size okM, KX.part 16 33 1, KX.box 6 (mb + 1), KX.stored 16 6 (mb + 1) w.heap.size okM, KX.part 16 7 1])) kxs_keep ?_ ?_
   ·refine ⟨?_, fun b hb _ => ?_⟩
    ·rw [cn_zero]
     exact HDC.out.below (bD bR)
    ·cases hb
   ·intro i o ho D x v hD hC hd K hK
    match i, ho with
    | 0, ho =>
     cases ho
     simp only [fillA, Act.put, sA9, sB9, sC9] at hK ⊢
     have hx := hC.1.own (b := mb) (t := 48) (cs := #[.slice A1 m.t.bs.length c1, .slice A2 m.t.fs.length c2, .slice A3 m.c.ls.length c3, .int .i64 m.c.hand, .int .i64 m.g.count, .int .i64 m.g.next, .int .i64 m.g.round, .slice A4 m.g.os.length c4, .int .i64 m.sp]) (by simp)
     obtain ⟨z0, z1, z2, z3, z4, z5, z6, z7, z8⟩ := cells9 hx
     go_simp
     exact hK _ _ (tX_same (by decide)) (hC.same (by decide) (by decide)) rfl
    | 1, ho =>
     cases ho
     simp only [fillA, Act.put, sA9, sB9, sC9] at hK ⊢
     go_simp
     exact hK _ _ (tX_same (by decide)) (hC.same (by decide) (by decide)) rfl
    | 2, ho =>
     cases ho
     simp only [fillA, Act.put, sA9, sB9, sC9] at hK ⊢
     have d0 := hd 1 ⟨⟨1, .data⟩, by simp, rfl, rfl⟩
     change x 18 = .pointer (some ⟨mb, 8, none⟩) at d0
     have hx := hC.1.own (b := mb) (t := 48) (cs := #[.slice A1 m.t.bs.length c1, .slice A2 m.t.fs.length c2, .slice A3 m.c.ls.length c3, .int .i64 m.c.hand, .int .i64 m.g.count, .int .i64 m.g.next, .int .i64 m.g.round, .slice A4 m.g.os.length c4, .int .i64 m.sp]) (by simp)
     have z8 := hx.cell_ 8 (v := .int .i64 m.sp) rfl
     simp only [d0] at hK ⊢
     go_simp
     exact hK _ _ (tX_same (by decide)) (hC.same (by decide) (by decide)) rfl
    | 3, ho =>
     cases ho
     simp only [fillA, Act.put, sA9, sB9, sC9] at hK ⊢
     go_simp
     exact hK _ _ (tX_same (by decide)) (hC.same (by decide) (by decide)) rfl
    | 4, ho =>
     cases ho
     simp only [fillA, Act.put, sA9, sB9, sC9] at hK ⊢
     have d0 := hd 2 ⟨⟨2, .data⟩, by simp, rfl, rfl⟩
     change x 19 = .int .i64 m.sp at d0
     have d1 := hd 3 ⟨⟨3, .data⟩, by simp, rfl, rfl⟩
     change x 20 = .int .i64 (k : Int) at d1
     simp only [d0, d1] at hK ⊢
     go_simp
     exact hK _ _ (tX_same (by decide)) (hC.same (by decide) (by decide)) rfl
    | 5, ho =>
     cases ho
     simp only [fillA, Act.put, sA9, sB9, sC9] at hK ⊢
     go_simp
     exact hK _ _ (tX_same (by decide)) (hC.same (by decide) (by decide)) rfl
    | 6, ho =>
     cases ho
     simp only [fillA, Act.put, sA9, sB9, sC9] at hK ⊢
     go_simp
     exact hK _ _ (tX_same (by decide)) (hC.same (by decide) (by decide)) rfl
    | 7, ho =>
     cases ho
     simp only [fillA, Act.put, sA9, sB9, sC9] at hK ⊢
     have d0 := hd 6 ⟨⟨6, .data⟩, by simp, rfl, rfl⟩
     change x 23 = .pointer (some ⟨mb, 0, none⟩) at d0
     simp only [d0] at hK ⊢
     go_simp
     exact hK _ _ (tX_same (by decide)) (hC.same (by decide) (by decide)) rfl
    | 8, ho =>
     cases ho
     simp only [fillA, Act.put, sA9, sB9, sC9] at hK ⊢
     have d0 := hd 7 ⟨⟨7, .data⟩, by simp, rfl, rfl⟩
     change x 24 = .pointer (some ⟨mb, 1, none⟩) at d0
     have hx := hC.1.own (b := mb) (t := 48) (cs := #[.slice A1 m.t.bs.length c1, .slice A2 m.t.fs.length c2, .slice A3 m.c.ls.length c3, .int .i64 m.c.hand, .int .i64 m.g.count, .int .i64 m.g.next, .int .i64 m.g.round, .slice A4 m.g.os.length c4, .int .i64 m.sp]) (by simp)
     have z1 := hx.cell_ 1 (v := .slice A2 m.t.fs.length c2) rfl
     simp only [d0] at hK ⊢
     go_simp
     exact hK _ _ (tX_same (by decide)) (hC.same (by decide) (by decide)) rfl
    | 9, ho =>
     cases ho
     simp only [fillA, Act.put, sA9, sB9, sC9] at hK ⊢
     have d0 := hd 8 ⟨⟨8, .data⟩, by simp, rfl, rfl⟩
     change x 25 = .slice A2 m.t.fs.length c2 at d0
     simp only [d0] at hK ⊢
     go_simp
     exact hK _ _ (tX_same (by decide)) (hC.same (by decide) (by decide)) rfl
    | 10, ho =>
     cases ho
     simp only [fillA, Act.put, sA9, sB9, sC9] at hK ⊢
     have d0 := hd 5 ⟨⟨5, .data⟩, by simp, rfl, rfl⟩
     change x 22 = .pointer (some ⟨g, 0, none⟩) at d0
     have d1 := hd 9 ⟨⟨9, .data⟩, by simp, rfl, rfl⟩
     change x 26 = .int .i64 (m.t.fs.length : Int) at d1
     simp only [d0, d1] at hK ⊢
     have hcn : cn D [10, 13] ≤ 2 := cn_le D _
     go_wp2_with fail
     refine (pick_any w.heap.size g (p + cn D [10, 13]) (m.t.fs.length : Int) v hC.1.rd (by omega) (by omega)).mono ?_
     rintro e v' ⟨z, rfl, _, _, hrd, hgr⟩
     go_simp
     exact hK _ _ (tX_oth (by decide) (hC.1.oth hgr)) (hC.read hD (by decide) (by decide) (by decide) hrd hgr) ⟨_, rfl⟩
    | 11, ho =>
     cases ho
     simp only [fillA, Act.put, sA9, sB9, sC9] at hK ⊢
     go_simp
     exact hK _ _ (tX_same (by decide)) (hC.same (by decide) (by decide)) rfl
    | 12, ho =>
     cases ho
     simp only [fillA, Act.put, sA9, sB9, sC9] at hK ⊢
     go_simp
     exact hK _ _ (tX_below (by decide) (bA bR)) (hC.below (bA bR) (by decide) (by decide)) ⟨_, rfl, Own.new_ _ _ _⟩
    | 13, ho =>
     cases ho
     simp only [fillA, Act.put, sA9, sB9, sC9] at hK ⊢
     have d0 := hd 11 ⟨⟨11, .data⟩, by simp, rfl, rfl⟩
     change x 28 = .pointer (some ⟨g, 0, none⟩) at d0
     have d1 := hd 12 ⟨⟨12, .data⟩, by simp, rfl, rfl⟩
     obtain ⟨gd1, d1, od1⟩ := d1
     change x 29 = .slice (some ⟨gd1, 0, none⟩) 3 3 at d1
     simp only [d0, d1] at hK ⊢
     have hcn : cn D [10, 13] ≤ 2 := cn_le D _
     obtain ⟨Ar, nr, cr, hor, _⟩ := hC.1.rd.ok
     go_wp2_with fail
     refine (num_any w.heap.size g (p + cn D [10, 13]) gd1 [3, 3, 1] v hC.1.rd od1 (od1.ne hor (by decide)) (by omega) (by simp) (by simp)).mono ?_
     rintro e v' ⟨z, rfl, _, hrd, hgr⟩
     go_simp
     exact hK _ _ (tX_oth (by decide) (hC.1.oth hgr)) (hC.read hD (by decide) (by decide) (by decide) hrd hgr) ⟨_, rfl⟩
    | 14, ho =>
     cases ho
     simp only [fillA, Act.put, sA9, sB9, sC9] at hK ⊢
     have d0 := hd 0 ⟨⟨0, .data⟩, by simp, rfl, rfl⟩
     change x 17 = .agg #[.slice A1 m.t.bs.length c1, .slice A2 m.t.fs.length c2, .slice A3 m.c.ls.length c3, .int .i64 m.c.hand, .int .i64 m.g.count, .int .i64 m.g.next, .int .i64 m.g.round, .slice A4 m.g.os.length c4, .int .i64 m.sp] at d0
     have d1 := hd 4 ⟨⟨4, .data⟩, by simp, rfl, rfl⟩
     change x 21 = .agg #[.int .i64 m.sp, .int .i64 (k : Int)] at d1
     have d2 := hd 10 ⟨⟨10, .data⟩, by simp, rfl, rfl⟩
     obtain ⟨nd2, d2⟩ := d2
     change x 27 = .int .i64 nd2 at d2
     have d3 := hd 13 ⟨⟨13, .data⟩, by simp, rfl, rfl⟩
     obtain ⟨nd3, d3⟩ := d3
     change x 30 = .int .i64 nd3 at d3
     simp only [d0, d1, d2, d3] at hK ⊢
     have hBv : w.heap.size ≤ v.heap.size := Nat.le_trans hBw hC.1.gr.size
     go_wp2_with fail
     refine (sPutPage_any _ _ _ _ m _ _ _ _ v hC.1.mm.r).mono ?_
     rintro e v' ⟨_, rfl, e1, e2, e3, e4, rfl, hm, hb⟩
     go_simp
     exact hK _ _ (tX_below (by decide) hb) (hC.below hb (by decide) (by decide)) ⟨_, e1, e2, e3, e4, ⟨_, rfl, fun h => (Sz.of (mav_put h)).up (by omega)⟩, hm.mono hBv⟩
    | 15, ho =>
     cases ho
     simp only [fillA, Act.put, sA9, sB9, sC9] at hK ⊢
     obtain ⟨m', e1, e2, e3, e4, ⟨ok, hx, hsz⟩, hm⟩ := hd 14 ⟨⟨14, .data⟩, by simp, rfl, rfl⟩
     change x 31 = _ at hx
     simp only [hx] at hK ⊢
     go_simp
     exact hK _ _ (tX_same (by decide)) (hC.same (by decide) (by decide)) ⟨m', e1, e2, e3, e4, ⟨ok, rfl, hsz⟩, hm⟩
    | 16, ho =>
     cases ho
     simp only [fillA, Act.put, sA9, sB9, sC9] at hK ⊢
     obtain ⟨m', e1, e2, e3, e4, ⟨ok, hx, hsz⟩, hm⟩ := hd 15 ⟨⟨15, .data⟩, by simp, rfl, rfl⟩
     change x 16 = _ at hx
     have hx' := hx
     simp only [hx'] at hK ⊢
     go_simp
     exact hK _ _ (tX_same (by decide)) (hC.same (by decide) (by decide)) ⟨m', e1, e2, e3, e4, ⟨ok, hx, hsz⟩, rfl, hm⟩
    | 17, ho =>
     cases ho
     simp only [fillA, Act.put, sA9, sB9, sC9] at hK ⊢
     obtain ⟨m', e1, e2, e3, e4, ⟨ok, hx, hsz⟩, hm⟩ := hd 15 ⟨⟨15, .data⟩, by simp, rfl, rfl⟩
     change x 16 = _ at hx
     have hx' := hx
     simp only [hx'] at hK ⊢
     go_simp
     exact hK _ _ (tX_same (by decide)) (hC.same (by decide) (by decide)) ⟨_, hx, rfl⟩
    | 18, ho =>
     cases ho
     simp only [fillA, Act.put, sA9, sB9, sC9] at hK ⊢
     go_simp
     exact hK _ _ (tX_below (by decide) (bA bR)) (hC.below (bA bR) (by decide) (by decide)) ⟨_, _, rfl, (hC.1.own (b := mb) (t := 48) (cs := #[.slice A1 m.t.bs.length c1, .slice A2 m.t.fs.length c2, .slice A3 m.c.ls.length c3, .int .i64 m.c.hand, .int .i64 m.g.count, .int .i64 m.g.next, .int .i64 m.g.round, .slice A4 m.g.os.length c4, .int .i64 m.sp]) (by simp)).lt, rfl, Own.new_ _ _ _⟩
    | 19, ho =>
     cases ho
     simp only [fillA, Act.put, sA9, sB9, sC9] at hK ⊢
     obtain ⟨m', e1, e2, e3, e4, hf, hx, hm⟩ := hd 16 ⟨⟨16, .data⟩, by simp, rfl, rfl⟩
     change x 32 = _ at hx
     obtain ⟨gb, cs, db, hgb, hcs, ho⟩ := hd 18 ⟨⟨18, .data⟩, by simp, rfl, rfl⟩
     change x 6 = _ at db
     obtain ⟨E1, n1, rfl, _⟩ := hm.t.b
     obtain ⟨E2, n2, rfl, _⟩ := hm.t.f
     obtain ⟨E3, n3, rfl, _⟩ := hm.l
     obtain ⟨E4, n4, rfl, _⟩ := hm.o
     obtain ⟨cs⟩ := cs
     obtain ⟨k0, k1, k2, k3, k4, k5, k6, k7, k8, rfl⟩ := len_nine hcs
     obtain ⟨z0, z1, z2, z3, z4, z5, z6, z7, z8⟩ := cells9 ho
     obtain ⟨y0, y1, y2, y3, y4, y5, y6, y7, y8⟩ := free9 ho
     have hlo := ho.lt
     simp only [hx, db] at hK ⊢
     go_simp
     refine hK undef _ (tX_store (stS_set9 ho _ _ _ _ _ _ _ _ _)) (hC.store (by decide) (by omega) hgw (by intro e he; simp at he; subst he; show mb ≠ gb; omega) ho _ _ _ _ _ _ _ _ _) ⟨rfl, gb, m', _, _, _, _, db, hgb, hf, hm.oth (stS_set9 ho _ _ _ _ _ _ _ _ _).1 (by decide) (by decide) (by decide) (by decide), ho.set9 _ _ _ _ _ _ _ _ _⟩
    | 20, ho =>
     cases ho
     simp only [fillA, Act.put, sA9, sB9, sC9] at hK ⊢
     go_simp
     obtain ⟨vs, h1, h2⟩ := hd 17 ⟨⟨17, .data⟩, by simp, rfl, rfl⟩
     exact hK _ _ (tX_same (by decide)) (hC.same (by decide) (by decide)) ⟨vs, h1, h2⟩
    | _ + 21, ho => simp at ho
   intro D xa w5 hD hC hd
   obtain ⟨hdc, _⟩ := hC
   rw [cn_all (l := [10, 13]) (fun i hi => hD i (by simp at hi; simp; omega))] at hdc
   change DC w.heap.size w2 g (p + 2) _ _ _ _ _ _ _ at hdc
   obtain ⟨_, gb, m', e1, e2, e3, e4, db, hgb, hf, hmm, hob⟩ := hd 19 (by decide)
   change xa 6 = _ at db
   obtain ⟨ok, hx, hsz⟩ := hf
   change xa 16 = _ at hx
   obtain ⟨vs, h1, h2⟩ := hd 20 (by decide)
   have dO : xa 7 = .bool ok := tpl_get h1 h2 hx rfl
   simp only [fillA, Act.put, sA9, sB9, sC9, db, dO]
   clear hd h1 h2 hx hD
   have hn5 := own_gr HN2.out hdc.gr (by omega)
   have hox := hdc.own (b := mb) (t := 48) (cs := #[.slice A1 m.t.bs.length c1, .slice A2 m.t.fs.length c2, .slice A3 m.c.ls.length c3, .int .i64 m.c.hand, .int .i64 m.g.count, .int .i64 m.g.next, .int .i64 m.g.round, .slice A4 m.g.os.length c4, .int .i64 m.sp]) (by simp)
   have HB5 := Hd (hdc)
   cases ok with
   | false =>
    have HO := Hd hox
    clear hob hmm
    go_wp2
    go_roundw
    case rel => exact ⟨k + 1, m, _, _, _, _, p + 2, by omega, by omega, by simp, by omega, HO.out, HB5.out.mm, HZ.out, HB5.out.rd, HB5.out.gr⟩
    case measure => simp [intOf]; omega
   | true =>
    obtain ⟨E1, n1, rfl, _⟩ := hmm.t.b
    obtain ⟨E2, n2, rfl, _⟩ := hmm.t.f
    obtain ⟨E3, n3, rfl, _⟩ := hmm.l
    obtain ⟨E4, n4, rfl, _⟩ := hmm.o
    obtain ⟨p0b, p1b, p2b, p3b, p4b, p5b, p6b, p7b, p8b⟩ := cells9 hob
    obtain ⟨p0o, p1o, p2o, p3o, p4o, p5o, p6o, p7o, p8o⟩ := cells9 hox
    obtain ⟨w0o, w1o, w2o, w3o, w4o, w5o, w6o, w7o, w8o⟩ := free9 hox
    have hlo := hox.lt
    have hlb := hob.lt
    have HO := Hd (hox.set9 (.slice E1 m'.t.bs.length n1) (.slice E2 m'.t.fs.length n2) (.slice E3 m'.c.ls.length n3) (.int .i64 m'.c.hand) (.int .i64 m'.g.count) (.int .i64 m'.g.next) (.int .i64 m'.g.round) (.slice E4 m'.g.os.length n4) (.int .i64 m'.sp))
    have HM := Hd (hmm.far9 hox (.slice E1 m'.t.bs.length n1) (.slice E2 m'.t.fs.length n2) (.slice E3 m'.c.ls.length n3) (.int .i64 m'.c.hand) (.int .i64 m'.g.count) (.int .i64 m'.g.next) (.int .i64 m'.g.round) (.slice E4 m'.g.os.length n4) (.int .i64 m'.sp))
    have HZ5 := Hd (hsz rfl)
    clear hob hmm hsz hox
    go_wp2
    go_roundw
    case rel =>
     refine ⟨k + 1, m', _, _, _, _, p + 2, by omega, by omega, by simp, by omega, HO.out, HM.out, HZ5.out, ?_, ?_⟩
     ·repeat (refine rdr_set1 (by omega) ?_)
      exact HB5.out.rd
     ·repeat (refine g_set (by omega) ?_)
      exact HB5.out.gr
    case measure => simp [intOf]; omega
  ·obtain rfl : k = 5 := by omega
   have hn5 := own_gr HN2.out HDC.out.gr (by omega)
   have hox := HDC.out.own (b := mb) (t := 48) (cs := #[.slice A1 m.t.bs.length c1, .slice A2 m.t.fs.length c2, .slice A3 m.c.ls.length c3, .int .i64 m.c.hand, .int .i64 m.g.count, .int .i64 m.g.next, .int .i64 m.g.round, .slice A4 m.g.os.length c4, .int .i64 m.sp]) (by simp)
   obtain ⟨p0o, p1o, p2o, p3o, p4o, p5o, p6o, p7o, p8o⟩ := cells9 hox
   have hbr := bG HB2.out HDC.out.gr (by intro k hk; injection hk with hk; omega)
   have hBr := hbr.size
   go_wp2_with fail
   refine (l6Wrong_any w.heap.size g p 17 _ _ _ _ m wr HDC.out.rd (by omega) HDC.out.mm HZ.out (by omega) hBr).mono ?_
   rintro e w6 ⟨_, rfl, m', q1, q2, q3, q4, p6, rfl, hM6, hz6, hrd6, hp6, hgr6⟩
   clear p0o p1o p2o p3o p4o p5o p6o p7o p8o hox
   have ho6 := own_gr hn5 hgr6 (by omega)
   have hb6 := bG hbr hgr6 (by intro k hk; injection hk with hk; omega)
   clear hn5
   obtain ⟨E1, n1, rfl, _⟩ := hM6.t.b
   obtain ⟨E2, n2, rfl, _⟩ := hM6.t.f
   obtain ⟨E3, n3, rfl, _⟩ := hM6.l
   obtain ⟨E4, n4, rfl, _⟩ := hM6.o
   obtain ⟨r0x, r1x, r2x, r3x, r4x, r5x, r6x, r7x, r8x⟩ := cells9 ho6
   obtain ⟨z0x, z1x, z2x, z3x, z4x, z5x, z6x, z7x, z8x⟩ := free9 ho6
   have hlr := ho6.lt
   have o3 := ho6.set9 (.slice E1 m'.t.bs.length n1) (.slice E2 m'.t.fs.length n2) (.slice E3 m'.c.ls.length n3) (.int .i64 m'.c.hand) (.int .i64 m'.g.count) (.int .i64 m'.g.next) (.int .i64 m'.g.round) (.slice E4 m'.g.os.length n4) (.int .i64 m'.sp)
   have HM6 := Hd (hM6.far9 ho6 (.slice E1 m'.t.bs.length n1) (.slice E2 m'.t.fs.length n2) (.slice E3 m'.c.ls.length n3) (.int .i64 m'.c.hand) (.int .i64 m'.g.count) (.int .i64 m'.g.next) (.int .i64 m'.g.round) (.slice E4 m'.g.os.length n4) (.int .i64 m'.sp))
   have HO6 := Hd o3
   have HB6 := Hd hb6
   have HZ6 := Hd hz6
   clear hM6 hrd6 hgr6 ho6 hb6 o3 HDC hbr hz6
   go_wp2
   obtain ⟨p0t, p1t, p2t, p3t, p4t, p5t, p6t, p7t, p8t⟩ := cells9 HO6.out
   refine bodyPost_ret (v := .agg #[.slice E1 m'.t.bs.length n1, .slice E2 m'.t.fs.length n2, .slice E3 m'.c.ls.length n3, .int .i64 m'.c.hand, .int .i64 m'.g.count, .int .i64 m'.g.next, .int .i64 m'.g.round, .slice E4 m'.g.os.length n4, .int .i64 m'.sp]) (by simp [results, Tryz.results70, go_sem, p0t, p1t, p2t, p3t, p4t, p5t, p6t, p7t, p8t]) rfl ⟨_, rfl, m', _, _, _, _, rfl, HM6.out, HZ6.out, ?_⟩
   repeat (refine bS ?_ (by exact Nat.le_refl _))
   exact HB6.out
end Go.Proofs.YtibpnlojlfcpmaaGreatDoor
