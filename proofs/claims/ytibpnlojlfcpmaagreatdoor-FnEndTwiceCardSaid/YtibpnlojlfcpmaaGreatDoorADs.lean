/- A part of the proofs of this seat: Ds. -/
import Derived.Deep.CutRange
import Derived.Test.YtibpnlojlfcpmaaGreatDoorAMemv1
import Derived.Test.YtibpnlojlfcpmaaGreatDoorAL10c
import Derived.Test.YtibpnlojlfcpmaaGreatDoorAK6
set_option linter.unusedVariables false
set_option linter.unusedSimpArgs false
set_option maxRecDepth 1000000
namespace Go.Proofs.YtibpnlojlfcpmaaGreatDoor
open Go.RowKit
set_option maxHeartbeats 4000000 in
theorem l6Case_any (A : Option Addr) (n c : Nat) (w : World) (hb : Bytes w.heap.size w A n) (hc : n ≤ c) (hn : n ≤ 1048576) :
  Calls Tryz.prog 82 #[.slice A n c] w (Post2 fun v w' => L10P w v w') := by
 have ho := Own.new_ w 48 #[.slice none 0 0, .slice none 0 0, .slice none 0 0, .int .i64 0, .int .i64 0, .int .i64 0, .int .i64 0, .slice none 0 0, .int .i64 0]
 have hb0 : Below w.heap.size w (w.alloc (.cells #[.slice none 0 0, .slice none 0 0, .slice none 0 0, .int .i64 0, .int .i64 0, .int .i64 0, .int .i64 0, .slice none 0 0, .int .i64 0] 48)) := bA bR
 have hs0 : (w.alloc (.cells #[.slice none 0 0, .slice none 0 0, .slice none 0 0, .int .i64 0, .int .i64 0, .int .i64 0, .int .i64 0, .slice none 0 0, .int .i64 0] 48)).heap.size = w.heap.size + 1 := by simp
 generalize hW : w.alloc (.cells #[.slice none 0 0, .slice none 0 0, .slice none 0 0, .int .i64 0, .int .i64 0, .int .i64 0, .int .i64 0, .slice none 0 0, .int .i64 0] 48) = W0 at ho hb0 hs0
 have KO := Hd (l12Open_low w.heap.size A n c W0 (hb.keep fun q hq => hb0.cell hq) (by omega) hc hn)
 have HN := Hd ho
 have HB := Hd hb0
 clear ho hb0 hb
 go_enter Tryz.func82, Tryz.ntmps82
 go_wp2_with fail
 refine KO.out.mono ?_
 rintro e w1 ⟨rfl, hrd, hb1⟩
 have hn := HN.out.below hb1
 have hbl := bT HB.out hb1
 rw [hs0] at hrd ⊢
 clear HN HB KO hb1
 have HRD := Hd hrd
 have HN := Hd hn
 have HB := Hd hbl
 clear hrd hn hbl
 have hs1 := HB.out.size
 clear hW
 have hgB : w.heap.size < w.heap.size + 1 := by omega
 generalize hg : w.heap.size + 1 = g at *
 go_wp2_with fail
 refine (l6Draw_any w.heap.size g 0 w1 HRD.out (by omega) hs1).mono ?_
 rintro e w2 ⟨_, rfl, m, q1, q2, q3, q4, p, rfl, hM2, hz2, hrd, hp2, hgr⟩
 have hn := own_gr HN.out hgr (by omega)
 have hb2 := bG HB.out hgr (by intro k hk; injection hk with hk; omega)
 have hBw : w.heap.size ≤ w2.heap.size := hb2.size
 have HM2 := Hd hM2
 have HZ2 := Hd hz2
 have HRD2 := Hd hrd
 have HN2 := Hd hn
 have HB2 := Hd hb2
 clear HRD HN HB hn hb2 hrd hgr hM2 hz2 hs1
 go_wp2_with fail
 refine (l6Wrong_any w.heap.size g p 17 _ _ _ _ m w2 HRD2.out (by omega) HM2.out HZ2.out (by omega) hBw).mono ?_
 rintro e w6 ⟨_, rfl, m', q1, q2, q3, q4, p6, rfl, hM6, hz6, hrd6, hp6, hgr6⟩
 have ho6 := own_gr HN2.out hgr6 (by omega)
 have hb6 := bG HB2.out hgr6 (by intro k hk; injection hk with hk; omega)
 obtain ⟨E1, n1, rfl, _⟩ := hM6.t.b
 obtain ⟨E2, n2, rfl, _⟩ := hM6.t.f
 obtain ⟨E3, n3, rfl, _⟩ := hM6.l
 obtain ⟨E4, n4, rfl, _⟩ := hM6.o
 obtain ⟨r0x, r1x, r2x, r3x, r4x, r5x, r6x, r7x, r8x⟩ := cells9 ho6
 obtain ⟨z0x, z1x, z2x, z3x, z4x, z5x, z6x, z7x, z8x⟩ := free9 ho6
 have hlr := ho6.lt
 have o3 := ho6.set9 (.slice E1 m'.t.bs.length n1) (.slice E2 m'.t.fs.length n2) (.slice E3 m'.c.ls.length n3) (.int .i64 m'.c.hand) (.int .i64 m'.g.count) (.int .i64 m'.g.next) (.int .i64 m'.g.round) (.slice E4 m'.g.os.length n4) (.int .i64 m'.sp)
 have HM6 := Hd (hM6.far9 ho6 (.slice E1 m'.t.bs.length n1) (.slice E2 m'.t.fs.length n2) (.slice E3 m'.c.ls.length n3) (.int .i64 m'.c.hand) (.int .i64 m'.g.count) (.int .i64 m'.g.next) (.int .i64 m'.g.round) (.slice E4 m'.g.os.length n4) (.int .i64 m'.sp))
 have HO6 := Hd o3
 have HB6 := Hd hb6
 have HZ6 := Hd hz6
 clear hM6 hrd6 hgr6 ho6 hb6 o3 hz6 HM2 HZ2 HRD2 HN2 HB2
 go_wp2
 obtain ⟨p0t, p1t, p2t, p3t, p4t, p5t, p6t, p7t, p8t⟩ := cells9 HO6.out
 refine bodyPost_ret (v := .agg #[.slice E1 m'.t.bs.length n1, .slice E2 m'.t.fs.length n2, .slice E3 m'.c.ls.length n3, .int .i64 m'.c.hand, .int .i64 m'.g.count, .int .i64 m'.g.next, .int .i64 m'.g.round, .slice E4 m'.g.os.length n4, .int .i64 m'.sp]) (by simp [results, Tryz.results82, go_sem, p0t, p1t, p2t, p3t, p4t, p5t, p6t, p7t, p8t]) rfl ⟨_, rfl, m', _, _, _, _, rfl, HM6.out, HZ6.out, ?_⟩
 repeat (refine bS ?_ (by exact Nat.le_refl _))
 exact HB6.out
def MNP (w : World) (v : Value) (w' : World) : Prop := ∃ (m : Ma) (v1 v2 v3 v4 : Value) (a : Int), v = .tuple #[.agg #[v1, v2, v3, .int .i64 m.c.hand, .int .i64 m.g.count, .int .i64 m.g.next, .int .i64 m.g.round, v4, .int .i64 m.sp], .int .i64 a] ∧ MaM w.heap.size w' v1 v2 v3 v4 m ∧ Sz 19 m ∧ small a ∧ Below w.heap.size w w'
set_option maxHeartbeats 4000000 in
theorem DrawEndSpace_any (A : Option Addr) (n c : Nat) (w : World) (hb : Bytes w.heap.size w A n) (hc : n ≤ c) (hn : n ≤ 1048576) :
  Calls Tryz.prog 26 #[.slice A n c] w (Post2 fun v w' => MNP w v w') := by
 have ho := Own.new_ w 48 #[.slice none 0 0, .slice none 0 0, .slice none 0 0, .int .i64 0, .int .i64 0, .int .i64 0, .int .i64 0, .slice none 0 0, .int .i64 0]
 have hb0 : Below w.heap.size w (w.alloc (.cells #[.slice none 0 0, .slice none 0 0, .slice none 0 0, .int .i64 0, .int .i64 0, .int .i64 0, .int .i64 0, .slice none 0 0, .int .i64 0] 48)) := bA bR
 have hs0 : (w.alloc (.cells #[.slice none 0 0, .slice none 0 0, .slice none 0 0, .int .i64 0, .int .i64 0, .int .i64 0, .int .i64 0, .slice none 0 0, .int .i64 0] 48)).heap.size = w.heap.size + 1 := by simp
 generalize hW : w.alloc (.cells #[.slice none 0 0, .slice none 0 0, .slice none 0 0, .int .i64 0, .int .i64 0, .int .i64 0, .int .i64 0, .slice none 0 0, .int .i64 0] 48) = W0 at ho hb0 hs0
 have HBY := Hd hb
 have HN := Hd ho
 have HB := Hd hb0
 have KC := Hd (l6Case_any A n c W0 ((hb.keep fun q hq => hb0.cell hq).up (by omega)) hc hn)
 clear ho hb0 hb
 go_enter Tryz.func26, Tryz.ntmps26
 go_wp2_with fail
 refine KC.out.mono ?_
 rintro e w1 ⟨_, rfl, m, v1, v2, v3, v4, rfl, hM, hz, hb1⟩
 obtain ⟨A1, c1, rfl, _⟩ := hM.t.b
 obtain ⟨A2, c2, rfl, _⟩ := hM.t.f
 obtain ⟨A3, c3, rfl, _⟩ := hM.l
 obtain ⟨A4, c4, rfl, _⟩ := hM.o
 have HN1 := Hd (HN.out.below hb1)
 have HB1 := Hd (bT HB.out hb1)
 have HM1 := Hd (hM.mono (show w.heap.size ≤ W0.heap.size by omega))
 have HZ := Hd hz
 have hs1 := hb1.size
 clear HN HB KC hM hz hb1 hW
 have KO := Hd (l12Open_low w.heap.size A n c w1 (HBY.out.keep fun q hq => HB1.out.cell hq) (by omega) hc hn)
 go_wp2_with fail
 refine KO.out.mono ?_
 rintro e w2 ⟨rfl, hrd, hb2⟩
 have HN2 := Hd (HN1.out.below hb2)
 have HB2 := Hd (bT HB1.out hb2)
 have HM2 := Hd (HM1.out.now hb2)
 have HRD2 := Hd hrd
 have hs2 := hb2.size
 clear HN1 HB1 HM1 KO hrd hb2
 have hgB : w.heap.size < w1.heap.size := by omega
 generalize hg : w1.heap.size = g at *
 have hd := Own.new_ w2 3 #[.int .i64 1, .int .i64 2, .int .i64 3, .int .i64 0, .int .i64 16, .int .i64 1]
 have hb3 : Below w2.heap.size w2 (w2.alloc (.cells #[.int .i64 1, .int .i64 2, .int .i64 3, .int .i64 0, .int .i64 16, .int .i64 1] 3)) := bA bR
 have hgw : g < w2.heap.size := rdr_lt HRD2.out
 generalize hW3 : w2.alloc (.cells #[.int .i64 1, .int .i64 2, .int .i64 3, .int .i64 0, .int .i64 16, .int .i64 1] 3) = w3 at hd hb3
 have HN3 := Hd (HN2.out.below hb3)
 have HB3 := Hd (bT HB2.out hb3)
 have HM3 := Hd (HM2.out.now hb3)
 have HRD3 := Hd (rdr_below HRD2.out hb3)
 have HD3 := Hd hd
 clear HN2 HB2 HM2 HRD2 hd hb3
 go_wp2_with fail
 try rw [hW3]
 refine (num_any w.heap.size g 0 w2.heap.size [1, 2, 3, 0, 16, 1] w3 HRD3.out HD3.out (by omega) (by omega) (by simp) (by simp)).mono ?_
 rintro e w4 ⟨z, rfl, hr, hrd4, hgr⟩
 clear hW3
 have hsz : small z := by
  simp at hr
  unfold small
  omega
 have ho4 := own_gr HN3.out hgr (by omega)
 have HB4 := Hd (bG HB3.out hgr (by intro k hk; injection hk with hk; omega))
 have HM4 := Hd (HM3.out.gr HRD3.out hgr)
 have HO4 := Hd ho4
 clear ho4 hrd4 hgr hr HN3 HB3 HM3 HRD3 HD3
 obtain ⟨r0x, r1x, r2x, r3x, r4x, r5x, r6x, r7x, r8x⟩ := cells9 HO4.out
 obtain ⟨z0x, z1x, z2x, z3x, z4x, z5x, z6x, z7x, z8x⟩ := free9 HO4.out
 have hlr := HO4.out.lt
 go_wp2
 have o3 := HO4.out.set9 (.slice A1 m.t.bs.length c1) (.slice A2 m.t.fs.length c2) (.slice A3 m.c.ls.length c3) (.int .i64 m.c.hand) (.int .i64 m.g.count) (.int .i64 m.g.next) (.int .i64 m.g.round) (.slice A4 m.g.os.length c4) (.int .i64 m.sp)
 obtain ⟨p0t, p1t, p2t, p3t, p4t, p5t, p6t, p7t, p8t⟩ := cells9 o3
 refine bodyPost_ret (v := .tuple #[.agg #[.slice A1 m.t.bs.length c1, .slice A2 m.t.fs.length c2, .slice A3 m.c.ls.length c3, .int .i64 m.c.hand, .int .i64 m.g.count, .int .i64 m.g.next, .int .i64 m.g.round, .slice A4 m.g.os.length c4, .int .i64 m.sp], .int .i64 z]) (by simp [results, Tryz.results26, go_sem, p0t, p1t, p2t, p3t, p4t, p5t, p6t, p7t, p8t]) rfl ⟨_, rfl, m, _, _, _, _, z, rfl, HM4.out.far9 HO4.out _ _ _ _ _ _ _ _ _, HZ.out, hsz, ?_⟩
 repeat (refine bS ?_ (by exact Nat.le_refl _))
 exact HB4.out
end Go.Proofs.YtibpnlojlfcpmaaGreatDoor
