/- A part of the proofs of this seat: LUpW, LXuE. -/
import Derived.Deep.CutRange
import Derived.ChangeSame
import Derived.Test.YtfbnokjdkhcgoaaGreatDoorEMeL
import Derived.Test.YtfbnokjdkhcgoaaGreatDoorEUpS
set_option linter.unusedVariables false
set_option linter.unusedSimpArgs false
set_option maxRecDepth 1000000
namespace Go.Proofs.YtfbnokjdkhcgoaaGreatDoor
open Go.RowKit
def smallE (V : Me) : Prop := V.m.t.bs.length ≤ 1048576 ∧ V.m.t.fs.length ≤ 1048576 ∧ V.m.c.ls.length ≤ 1048576 ∧ V.m.g.os.length ≤ 1048576 ∧ V.mk.length ≤ 1048576
theorem MeM.tch {lo hi B : Nat} {w w' : World} {v1 v2 v3 v4 v5 : Value} {M : Me} (h : MeM B w v1 v2 v3 v4 v5 M) (ht : Tch lo hi w w') (hB : hi ≤ B) : MeM B w' v1 v2 v3 v4 v5 M := ⟨h.m.tch ht hB, h.k.tch ht hB⟩
end Go.Proofs.YtfbnokjdkhcgoaaGreatDoor
namespace Go.Proofs.YtfbnokjdkhcgoaaGreatDoor.lExactUsePage
open Go.RowKit
set_option maxHeartbeats 8000000 in
theorem walk0 (vb vf vl vo vk : Value) (M V : Me) (a0 a1 a2 X0 X1 : Int) (X2 : Bool) (w : World) (hM : MeR w vb vf vl vo vk M) (hfree : Free w) (hV : smallE V)
  (hS : ∀ (e1 e2 e3 e4 e5 : Value) (W : World), MeR W e1 e2 e3 e4 e5 M → Calls Tryz.prog 14 #[.agg #[e1, e2, e3, .int .i64 M.m.c.hand, .int .i64 M.m.g.count, .int .i64 M.m.g.next, .int .i64 M.m.g.round, e4, .int .i64 M.m.sp, e5, .int .i64 M.h], .int .i64 a0, .int .i64 a1, .int .i64 a2] W (Post2 fun v w' => ∃ v1 v2 v3 v4 v5, v = .tuple #[.agg #[v1, v2, v3, .int .i64 V.m.c.hand, .int .i64 V.m.g.count, .int .i64 V.m.g.next, .int .i64 V.m.g.round, v4, .int .i64 V.m.sp, v5, .int .i64 V.h], .int .i64 X0, .int .i64 X1, .bool X2] ∧ MeM W.heap.size w' v1 v2 v3 v4 v5 V ∧ Below W.heap.size W w'))
  (hI : ∀ (e1 e2 e3 e4 e5 : Value) (W : World), MeR W e1 e2 e3 e4 e5 M → Free W → Calls Tryz.prog 12 #[.agg #[e1, e2, e3, .int .i64 M.m.c.hand, .int .i64 M.m.g.count, .int .i64 M.m.g.next, .int .i64 M.m.g.round, e4, .int .i64 M.m.sp, e5, .int .i64 M.h], .int .i64 a0, .int .i64 a1, .int .i64 a2] W (Post2 fun v w' => ∃ v1 v2 v3 v4 v5, v = .tuple #[.agg #[v1, v2, v3, .int .i64 V.m.c.hand, .int .i64 V.m.g.count, .int .i64 V.m.g.next, .int .i64 V.m.g.round, v4, .int .i64 V.m.sp, v5, .int .i64 V.h], .int .i64 X0, .int .i64 X1, .bool X2] ∧ MeM W.heap.size w' v1 v2 v3 v4 v5 V ∧ Below W.heap.size W w')) :
  Calls Tryz.prog 6 #[.agg #[vb, vf, vl, .int .i64 M.m.c.hand, .int .i64 M.m.g.count, .int .i64 M.m.g.next, .int .i64 M.m.g.round, vo, .int .i64 M.m.sp, vk, .int .i64 M.h], .int .i64 a0, .int .i64 a1, .int .i64 a2] w fun e w' => e = .returned (.bool true) ∧ Below w.heap.size w w' := by
 obtain ⟨A1, c1, rfl, l1, l1', q1⟩ := id hM.m.t.b
 have n1 : M.m.t.bs.length ≤ 9223372036854775807 := by simp only [maxLen] at l1'; omega
 obtain ⟨A2, c2, rfl, l2, l2', q2⟩ := id hM.m.t.f
 have n2 : M.m.t.fs.length ≤ 9223372036854775807 := by simp only [maxLen] at l2'; omega
 obtain ⟨A3, c3, rfl, l3, l3', q3⟩ := id hM.m.l
 have n3 : M.m.c.ls.length ≤ 9223372036854775807 := by simp only [maxLen] at l3'; omega
 obtain ⟨A4, c4, rfl, l4, l4', q4⟩ := id hM.m.o
 have n4 : M.m.g.os.length ≤ 9223372036854775807 := by simp only [maxLen] at l4'; omega
 obtain ⟨A5, c5, rfl, l5, l5', q5⟩ := id hM.k
 have n5 : M.mk.length ≤ 9223372036854775807 := by simp only [maxLen] at l5'; omega
 have HM := Hd hM
 have HF := Hd hfree
 have HSP := Hd hS
 have HIM := Hd hI
 clear hM hfree hS hI l1 l1' q1 l2 l2' q2 l3 l3' q3 l4 l4' q4 l5 l5' q5
 obtain ⟨W0, hW, hbx, hbz, _⟩ := box1 w #[.slice A1 M.m.t.bs.length c1, .slice A2 M.m.t.fs.length c2, .slice A3 M.m.c.ls.length c3, .int .i64 M.m.c.hand, .int .i64 M.m.g.count, .int .i64 M.m.g.next, .int .i64 M.m.g.round, .slice A4 M.m.g.os.length c4, .int .i64 M.m.sp, .slice A5 M.mk.length c5, .int .i64 M.h] 67
 have HX0 := Hd hbx
 have HB0 := Hd hbz
 clear hbx hbz
 obtain ⟨x0, x1, x2, x3, x4, x5, x6, x7, x8, x9, x10⟩ := c11 HX0.out
 by_cases hsz : (1048576 : Int) < (M.m.t.bs.length : Int) + M.m.t.fs.length + M.m.c.ls.length + M.m.g.os.length + M.mk.length
 ·have HS : Hid (szO5 M.m.t.bs.length M.m.t.fs.length M.m.c.ls.length M.m.g.os.length M.mk.length = -1) := if_pos hsz
  go_enter Tryz.func6, Tryz.ntmps6
  go_wp2_with fail
  refine (szMemory_any _ _ _ _ _ _ _ _ _ _ _ _ _ _ _ _ _ _ _ _ _ _ n1 n2 n3 n4 n5).mono ?_
  rintro e w1 ⟨rfl, hb1⟩
  rw [HS.out]
  have HB1 := Hd (bT HB0.out hb1)
  clear hb1
  go_wp2
  go_ret
  exact ⟨rfl, HB1.out⟩
 have HS : Hid (szO5 M.m.t.bs.length M.m.t.fs.length M.m.c.ls.length M.m.g.os.length M.mk.length = 1048576 - M.m.t.bs.length - M.m.t.fs.length - M.m.c.ls.length - M.m.g.os.length - M.mk.length) := if_neg hsz
 have hnn : ¬ (1048576 : Int) - M.m.t.bs.length - M.m.t.fs.length - M.m.c.ls.length - M.m.g.os.length - M.mk.length < 0 := by omega
 go_enter Tryz.func6, Tryz.ntmps6
 go_wp2_with fail
 refine (szMemory_any _ _ _ _ _ _ _ _ _ _ _ _ _ _ _ _ _ _ _ _ _ _ n1 n2 n3 n4 n5).mono ?_
 rintro e w1 ⟨rfl, hb1⟩
 rw [HS.out]
 have HB1 := Hd (bT HB0.out hb1)
 have HX1 := Hd (HX0.out.below hb1)
 clear hb1 hW
 clear x0 x1 x2 x3 x4 x5 x6 x7 x8 x9 x10
 obtain ⟨x0, x1, x2, x3, x4, x5, x6, x7, x8, x9, x10⟩ := c11 HX1.out
 go_wp2_with fail
 refine (toMemory_any _ _ _ _ _ M _ (HM.out.now HB1.out) (by omega) (by omega) (by omega) (by omega) (by omega)).mono ?_
 rintro e wp1 ⟨_, rfl, f1, f2, f3, f4, f5, rfl, hmp, hbp⟩
 clear x0 x1 x2 x3 x4 x5 x6 x7 x8 x9 x10
 go_wp2_with fail
 refine (HSP.out _ _ _ _ _ _ hmp.r).mono ?_
 rintro e wq1 ⟨_, rfl, f1, f2, f3, f4, f5, rfl, hmq, hbq⟩
 clear hnn
 obtain ⟨S1, r1, rfl, _⟩ := id hmq.m.t.b
 obtain ⟨S2, r2, rfl, _⟩ := id hmq.m.t.f
 obtain ⟨S3, r3, rfl, _⟩ := id hmq.m.l
 obtain ⟨S4, r4, rfl, _⟩ := id hmq.m.o
 obtain ⟨S5, r5, rfl, _⟩ := id hmq.k
 obtain ⟨w2, hWa, hoa, hba, hsa⟩ := box1 wq1 #[.slice S1 V.m.t.bs.length r1, .slice S2 V.m.t.fs.length r2, .slice S3 V.m.c.ls.length r3, .int .i64 V.m.c.hand, .int .i64 V.m.g.count, .int .i64 V.m.g.next, .int .i64 V.m.g.round, .slice S4 V.m.g.os.length r4, .int .i64 V.m.sp, .slice S5 V.mk.length r5, .int .i64 V.h] 37
 go_upto_region 6 with fail
 try rw [hWa]
 clear hWa
 have HCa : Hid (Below w1.heap.size w1 w2) := bT (bT hbp hbq) hba
 have HOa := Hd hoa
 have HMa := Hd ((hmq.now hba).mono hbp.size)
 have HB2 := Hd (bT HB1.out HCa.out)
 have HX2 := Hd (HX1.out.below HCa.out)
 clear hmp hbp hmq hbq hoa hba hsa
 obtain ⟨x0, x1, x2, x3, x4, x5, x6, x7, x8, x9, x10⟩ := c11 HX2.out
 go_wp2_with fail
 refine (toMemory_any _ _ _ _ _ M _ (HM.out.now HB2.out) (by omega) (by omega) (by omega) (by omega) (by omega)).mono ?_
 rintro e w3 ⟨_, rfl, f1, f2, f3, f4, f5, rfl, hm3, hb3⟩
 clear x0 x1 x2 x3 x4 x5 x6 x7 x8 x9 x10
 obtain ⟨F1, k1, rfl, _⟩ := id hm3.m.t.b
 obtain ⟨F2, k2, rfl, _⟩ := id hm3.m.t.f
 obtain ⟨F3, k3, rfl, _⟩ := id hm3.m.l
 obtain ⟨F4, k4, rfl, _⟩ := id hm3.m.o
 obtain ⟨F5, k5, rfl, _⟩ := id hm3.k
 obtain ⟨w5, hWx, hox, hbx, hsx⟩ := box1 w3 #[.slice F1 M.m.t.bs.length k1, .slice F2 M.m.t.fs.length k2, .slice F3 M.m.c.ls.length k3, .int .i64 M.m.c.hand, .int .i64 M.m.g.count, .int .i64 M.m.g.next, .int .i64 M.m.g.round, .slice F4 M.m.g.os.length k4, .int .i64 M.m.sp, .slice F5 M.mk.length k5, .int .i64 M.h] 37
 go_upto_region 7 with fail
 try rw [hWx]
 clear hWx
 have HO5 := Hd hox
 have hm5 := hm3.now hbx
 have HM5 := Hd hm5
 have HD5 := Hd (bT hb3 hbx)
 have HS3 := Hd hb3.size
 have HS4 : Hid (w3.heap.size < w5.heap.size) := by show _ < _; omega
 have HB5 := Hd (bT HB2.out HD5.out)
 have I1 := Hd hm5.m.t.b.mine
 have I2 := Hd hm5.m.t.f.mine
 have I3 := Hd hm5.m.l.mine
 have I4 := Hd hm5.m.o.mine
 have I5 := Hd hm5.k.mine
 clear hm3 hb3 hox hbx hsx hm5
 obtain ⟨x0, x1, x2, x3, x4, x5, x6, x7, x8, x9, x10⟩ := c11 HO5.out
 go_wp2_with fail
 refine (HIM.out _ _ _ _ _ _ HM5.out.r (HF.out.now HB5.out)).mono ?_
 rintro e wq5 ⟨_, rfl, f1, f2, f3, f4, f5, rfl, hmq, hbq⟩
 clear x0 x1 x2 x3 x4 x5 x6 x7 x8 x9 x10
 obtain ⟨G1, j1, rfl, _⟩ := id hmq.m.t.b
 obtain ⟨G2, j2, rfl, _⟩ := id hmq.m.t.f
 obtain ⟨G3, j3, rfl, _⟩ := id hmq.m.l
 obtain ⟨G4, j4, rfl, _⟩ := id hmq.m.o
 obtain ⟨G5, j5, rfl, _⟩ := id hmq.k
 obtain ⟨w6, hWb, hob, hbb, hsb⟩ := box1 wq5 #[.slice G1 V.m.t.bs.length j1, .slice G2 V.m.t.fs.length j2, .slice G3 V.m.c.ls.length j3, .int .i64 V.m.c.hand, .int .i64 V.m.g.count, .int .i64 V.m.g.next, .int .i64 V.m.g.round, .slice G4 V.m.g.os.length j4, .int .i64 V.m.sp, .slice G5 V.mk.length j5, .int .i64 V.h] 37
 go_upto_region 8 with fail
 try rw [hWb]
 clear hWb
 have HCb : Hid (Below w5.heap.size w5 w6) := bT hbq hbb
 have HOb := Hd hob
 have HMb := Hd (hmq.now hbb)
 have HGb : Hid (w5.heap.size ≤ wq5.heap.size) := hbq.size
 have HD6 := Hd (bT HD5.out HCb.out)
 have hqo0 : (X0 != X0) = false := by simp
 have hqo1 : (X1 != X1) = false := by simp
 have hqo2 := xne X2
 clear hmq hbq hob hbb hsb
 obtain ⟨y0, y1, y2, y3, y4, y5, y6, y7, y8, y9, y10⟩ := c11 HOb.out
 obtain ⟨z0, z1, z2, z3, z4, z5, z6, z7, z8, z9, z10⟩ := c11 (HOa.out.below HD6.out)
 go_wp2_with fail
 refine (eqMemory_same _ _ _ _ _ _ _ _ _ _ V _ (HMb.out.r) (HMa.out.r.now HD6.out)).mono ?_
 rintro e w7 ⟨rfl, hb7⟩
 have HC7 := Hd (bT HCb.out hb7)
 have HD7 := Hd (bT HD5.out HC7.out)
 have HX7 := Hd (HX2.out.below HD7.out)
 have HO7 := Hd (HO5.out.below HC7.out)
 have HB7 := Hd (bT HB2.out HD7.out)
 have HP7 := Hd (HOb.out.below hb7)
 have HN7 := Hd (HMb.out.now hb7)
 have HM7 := Hd (HM5.out.now HC7.out)
 clear hb7
 clear y0 y1 y2 y3 y4 y5 y6 y7 y8 y9 y10
 clear z0 z1 z2 z3 z4 z5 z6 z7 z8 z9 z10
 go_upto_region 10 with fail
 refine wp_region_kp (by kernel_rfl) [73, 74, 75, 76, 77] [73, 74, 75, 76, 77] 34 (fun _ => True) (w7.heap.size) 99 [KP.eq (.agg #[.slice F1 M.m.t.bs.length k1, .slice F2 M.m.t.fs.length k2, .slice F3 M.m.c.ls.length k3, .int .i64 M.m.c.hand, .int .i64 M.m.g.count, .int .i64 M.m.g.next, .int .i64 M.m.g.round, .slice F4 M.m.g.os.length k4, .int .i64 M.m.sp, .slice F5 M.mk.length k5, .int .i64 M.h]), KP.eq (.agg #[.slice A1 M.m.t.bs.length c1, .slice A2 M.m.t.fs.length c2, .slice A3 M.m.c.ls.length c3, .int .i64 M.m.c.hand, .int .i64 M.m.g.count, .int .i64 M.m.g.next, .int .i64 M.m.g.round, .slice A4 M.m.g.os.length c4, .int .i64 M.m.sp, .slice A5 M.mk.length c5, .int .i64 M.h]), KP.me okT_ma (w7.heap.size) (M), KP.eq (.bool true), KP.eq (.bool false)] (fun _ _ => True) (fun v => (Below (w7.heap.size) w7 v) ∧ (Own v (w.heap.size) 67 #[.slice A1 M.m.t.bs.length c1, .slice A2 M.m.t.fs.length c2, .slice A3 M.m.c.ls.length c3, .int .i64 M.m.c.hand, .int .i64 M.m.g.count, .int .i64 M.m.g.next, .int .i64 M.m.g.round, .slice A4 M.m.g.os.length c4, .int .i64 M.m.sp, .slice A5 M.mk.length c5, .int .i64 M.h]) ∧ (Own v (w3.heap.size) 37 #[.slice F1 M.m.t.bs.length k1, .slice F2 M.m.t.fs.length k2, .slice F3 M.m.c.ls.length k3, .int .i64 M.m.c.hand, .int .i64 M.m.g.count, .int .i64 M.m.g.next, .int .i64 M.m.g.round, .slice F4 M.m.g.os.length k4, .int .i64 M.m.sp, .slice F5 M.mk.length k5, .int .i64 M.h])) (by kernel_rfl) rfl ⟨bD bR, HX7.out.drew, HO7.out.drew⟩ (fun v h => Nat.le_trans (by omega) h.1.size) (fun v v' ht ⟨hb, h_a, h_o⟩ => ⟨hb.trans ht.bel, ht.oth.2 _ _ _ h_a (by decide), ht.oth.2 _ _ _ h_o (by decide)⟩) (fun _ _ _ _ h => h) ?_ ?_
 ·intro i o ho x v hC hd K hK
  match i, ho with
  | 0, ho =>
   cases ho
   simp only [fillA, Act.put, sA9, sB9, sC9] at hK ⊢
   obtain ⟨hbw, hx_a, hx_o⟩ := hC
   obtain ⟨z0, z1, z2, z3, z4, z5, z6, z7, z8, z9, z10⟩ := c11 hx_o
   go_simp
   exact hK _ _ kpT_same rfl
  | 1, ho =>
   cases ho
   simp only [fillA, Act.put, sA9, sB9, sC9] at hK ⊢
   obtain ⟨hbw, hx_a, hx_o⟩ := hC
   obtain ⟨z0, z1, z2, z3, z4, z5, z6, z7, z8, z9, z10⟩ := c11 hx_a
   go_simp
   exact hK _ _ kpT_same rfl
  | 2, ho =>
   cases ho
   simp only [fillA, Act.put, sA9, sB9, sC9] at hK ⊢
   obtain ⟨hbw, hx_a, hx_o⟩ := hC
   have d0 := hd 1 ⟨⟨1, .data⟩, by simp, rfl, rfl⟩ (by decide)
   change x 74 = .agg #[.slice A1 M.m.t.bs.length c1, .slice A2 M.m.t.fs.length c2, .slice A3 M.m.c.ls.length c3, .int .i64 M.m.c.hand, .int .i64 M.m.g.count, .int .i64 M.m.g.next, .int .i64 M.m.g.round, .slice A4 M.m.g.os.length c4, .int .i64 M.m.sp, .slice A5 M.mk.length c5, .int .i64 M.h] at d0
   simp only [d0] at hK ⊢
   go_wp2_with fail
   refine (toMemory_any _ _ _ _ _ M _ (HM.out.now (bT HB7.out hbw)) (by omega) (by omega) (by omega) (by omega) (by omega)).mono ?_
   rintro e v' ⟨_, rfl, f1, f2, f3, f4, f5, rfl, hm1, hb⟩
   go_simp
   exact hK _ _ (kpT_below (by decide) hb) ⟨_, _, _, _, _, rfl, hm1.mono hbw.size⟩
  | 3, ho =>
   cases ho
   simp only [fillA, Act.put, sA9, sB9, sC9] at hK ⊢
   obtain ⟨hbw, hx_a, hx_o⟩ := hC
   have d0 := hd 0 ⟨⟨0, .data⟩, by simp, rfl, rfl⟩ (by decide)
   change x 73 = .agg #[.slice F1 M.m.t.bs.length k1, .slice F2 M.m.t.fs.length k2, .slice F3 M.m.c.ls.length k3, .int .i64 M.m.c.hand, .int .i64 M.m.g.count, .int .i64 M.m.g.next, .int .i64 M.m.g.round, .slice F4 M.m.g.os.length k4, .int .i64 M.m.sp, .slice F5 M.mk.length k5, .int .i64 M.h] at d0
   have d1 := hd 2 ⟨⟨2, .data⟩, by simp, rfl, rfl⟩ (by decide)
   obtain ⟨e1, e2, e3, e4, e5, d1, hmX⟩ := d1
   change x 75 = _ at d1
   simp only [d0, d1] at hK ⊢
   go_wp2_with fail
   refine (eqMemory_same _ _ _ _ _ _ _ _ _ _ M _ ((HM7.out.now hbw).r) (hmX.r)).mono ?_
   rintro e v' ⟨rfl, hb⟩
   go_simp
   exact hK _ _ (kpT_below (by decide) hb) rfl
  | 4, ho =>
   cases ho
   simp only [fillA, Act.put, sA9, sB9, sC9] at hK ⊢
   have d0 := hd 3 ⟨⟨3, .data⟩, by simp, rfl, rfl⟩ (by decide)
   change x 76 = .bool true at d0
   simp only [d0] at hK ⊢
   go_simp
   exact hK _ _ kpT_same rfl
  | _ + 5, ho => simp at ho
 intro xc w8 hC hd
 have dL := hd 4 (by decide)
 change xc 77 = .bool false at dL
 obtain ⟨hC, _⟩ := hC
 simp only [fillA, Act.put, sA9, sB9, sC9, dL]
 have HC10 := Hd (bT HC7.out hC)
 have HP10 := Hd (HP7.out.below hC)
 have HN10 := Hd (HN7.out.now hC)
 clear hd dL hC
 obtain ⟨x0, x1, x2, x3, x4, x5, x6, x7, x8, x9, x10⟩ := c11 (HO5.out.below HC10.out)
 go_wp2_with fail
 refine (markMemory_any w2.heap.size F1 F2 F3 F4 F5 k1 k2 k3 k4 k5 M _ 1 (I1.out.below HC10.out) (I2.out.below HC10.out) (I3.out.below HC10.out) (I4.out.below HC10.out) (I5.out.below HC10.out) w5.heap.size (fun k hk => (I1.out.row k hk).2) (fun k hk => (I2.out.row k hk).2) (fun k hk => (I3.out.row k hk).2) (fun k hk => (I4.out.row k hk).2) (fun k hk => (I5.out.row k hk).2) (by omega) (by omega) (by omega) (by omega) (by omega) (by omega) (by omega)).mono ?_
 rintro e w12 ⟨rfl, _, _, ht12, _⟩
 have HT12 := Hd ht12
 have HL4 : w2.heap.size ≤ w5.heap.size := Nat.le_trans HS3.out (Nat.le_of_lt HS4.out)
 have hg5 := HGb.out
 clear ht12
 clear x0 x1 x2 x3 x4 x5 x6 x7 x8 x9 x10
 have HP12 := Hd (HP10.out.tch HT12.out (by omega))
 have HN12 := Hd (HN10.out.tch HT12.out (Nat.le_refl _))
 have HD12 := Hd (HT12.out.below (bT HD5.out HC10.out) (Nat.le_refl _))
 have hq1 : ¬ (1 + (M.m.t.bs.length : Int) + 5 * (M.m.t.fs.length : Int) + 6 * (M.m.c.ls.length : Int) + 2 * (M.m.g.os.length : Int) + (M.mk.length : Int)) < 0 := by omega
 obtain ⟨y0, y1, y2, y3, y4, y5, y6, y7, y8, y9, y10⟩ := c11 HP12.out
 obtain ⟨z0, z1, z2, z3, z4, z5, z6, z7, z8, z9, z10⟩ := c11 (HOa.out.below HD12.out)
 go_wp2_with fail
 refine (eqMemory_same _ _ _ _ _ _ _ _ _ _ V _ (HN12.out.r) (HMa.out.r.now HD12.out)).mono ?_
 rintro e w13 ⟨rfl, hb13⟩
 have HP13 := Hd (HP12.out.below hb13)
 have HN13 := Hd (HN12.out.now hb13)
 have HD13 := Hd (bT HD12.out hb13)
 obtain ⟨t1, t2, t3, t4, t5⟩ := hV
 clear hb13
 clear y0 y1 y2 y3 y4 y5 y6 y7 y8 y9 y10
 clear z0 z1 z2 z3 z4 z5 z6 z7 z8 z9 z10
 obtain ⟨y0, y1, y2, y3, y4, y5, y6, y7, y8, y9, y10⟩ := c11 HP13.out
 have L1 := Hd HN13.out.m.t.b.mine
 have L2 := Hd HN13.out.m.t.f.mine
 have L3 := Hd HN13.out.m.l.mine
 have L4 := Hd HN13.out.m.o.mine
 have L5 := Hd HN13.out.k.mine
 go_wp2_with fail
 refine (markMemory_any w5.heap.size G1 G2 G3 G4 G5 j1 j2 j3 j4 j5 V _ 1 L1.out L2.out L3.out L4.out L5.out w13.heap.size (fun k hk => (L1.out.row k hk).2) (fun k hk => (L2.out.row k hk).2) (fun k hk => (L3.out.row k hk).2) (fun k hk => (L4.out.row k hk).2) (fun k hk => (L5.out.row k hk).2) (by omega) (by omega) t1 t2 t3 t4 t5).mono ?_
 rintro e w14 ⟨rfl, hmk, hmb, ht14, ho14⟩
 have HMK := Hd hmk
 have HMKB := Hd hmb
 have HP14 := Hd (ho14.2 _ _ _ HP13.out (by decide))
 have HD14 := Hd (ht14.below HD13.out HD5.out.size)
 clear hmk hmb ht14 ho14
 clear y0 y1 y2 y3 y4 y5 y6 y7 y8 y9 y10
 obtain ⟨y0, y1, y2, y3, y4, y5, y6, y7, y8, y9, y10⟩ := c11 HP14.out
 go_wp2_with fail
 refine (heldMemory_any G1 G2 G3 G4 G5 j1 j2 j3 j4 j5 V.m.t.bs.length V.m.t.fs.length V.m.c.ls.length V.m.g.os.length V.mk.length V.m.c.hand V.m.g.count V.m.g.next V.m.g.round V.m.sp V.h _ 1 HMK.out HMKB.out (by omega) (by omega) t1 t2 t3 t4 t5).mono ?_
 rintro e w15 ⟨rfl, hb15⟩
 have HP15 := Hd (HP14.out.below hb15)
 have HMK15 := Hd (HMK.out.now hb15)
 have HMKB15 := Hd (HMKB.out.now hb15)
 have HD15 := Hd (bT HD14.out hb15)
 have HB15 := Hd (bT HB2.out HD15.out)
 have HX15 := Hd (HX2.out.below HD15.out)
 have hq2 : ¬ (1 + (V.m.t.bs.length : Int) + 5 * (V.m.t.fs.length : Int) + 6 * (V.m.c.ls.length : Int) + 2 * (V.m.g.os.length : Int) + (V.mk.length : Int)) < 0 := by omega
 have hq3 : ((1 + (V.m.t.bs.length : Int) + 5 * (V.m.t.fs.length : Int) + 6 * (V.m.c.ls.length : Int) + 2 * (V.m.g.os.length : Int) + (V.mk.length : Int)) != (1 + (V.m.t.bs.length : Int) + 5 * (V.m.t.fs.length : Int) + 6 * (V.m.c.ls.length : Int) + 2 * (V.m.g.os.length : Int) + (V.mk.length : Int))) = false := by simp
 clear hb15 HMK HMKB
 clear y0 y1 y2 y3 y4 y5 y6 y7 y8 y9 y10
 obtain ⟨x0, x1, x2, x3, x4, x5, x6, x7, x8, x9, x10⟩ := c11 HX15.out
 go_wp2_with fail
 refine (toMemory_any _ _ _ _ _ M _ (HM.out.now HB15.out) (by omega) (by omega) (by omega) (by omega) (by omega)).mono ?_
 rintro e wp15 ⟨_, rfl, f1, f2, f3, f4, f5, rfl, hmp, hbp⟩
 clear x0 x1 x2 x3 x4 x5 x6 x7 x8 x9 x10
 go_wp2_with fail
 refine (HIM.out _ _ _ _ _ _ hmp.r (HF.out.now (bT HB15.out hbp))).mono ?_
 rintro e wq15 ⟨_, rfl, f1, f2, f3, f4, f5, rfl, hmq, hbq⟩
 obtain ⟨T1, i1, rfl, _⟩ := id hmq.m.t.b
 obtain ⟨T2, i2, rfl, _⟩ := id hmq.m.t.f
 obtain ⟨T3, i3, rfl, _⟩ := id hmq.m.l
 obtain ⟨T4, i4, rfl, _⟩ := id hmq.m.o
 obtain ⟨T5, i5, rfl, _⟩ := id hmq.k
 obtain ⟨w16, hWc, hoc, hbc, hsc⟩ := box1 wq15 #[.slice T1 V.m.t.bs.length i1, .slice T2 V.m.t.fs.length i2, .slice T3 V.m.c.ls.length i3, .int .i64 V.m.c.hand, .int .i64 V.m.g.count, .int .i64 V.m.g.next, .int .i64 V.m.g.round, .slice T4 V.m.g.os.length i4, .int .i64 V.m.sp, .slice T5 V.mk.length i5, .int .i64 V.h] 37
 go_upto_region 25 with fail
 try rw [hWc]
 clear hWc
 have HCc : Hid (Below w15.heap.size w15 w16) := bT (bT hbp hbq) hbc
 have HOc := Hd hoc
 have HMc := Hd (hmq.now hbc)
 have HD16 := Hd (bT HD15.out HCc.out)
 clear hmp hbp hmq hbq hoc hbc hsc
 obtain ⟨y0, y1, y2, y3, y4, y5, y6, y7, y8, y9, y10⟩ := c11 HOc.out
 obtain ⟨z0, z1, z2, z3, z4, z5, z6, z7, z8, z9, z10⟩ := c11 (HOa.out.below HD16.out)
 go_wp2_with fail
 refine (eqMemory_same _ _ _ _ _ _ _ _ _ _ V _ (HMc.out.r) (HMa.out.r.now HD16.out)).mono ?_
 rintro e w17 ⟨rfl, hb17⟩
 have HC17 := Hd (bT HCc.out hb17)
 have HD17 := Hd (bT HD16.out hb17)
 clear hb17
 clear y0 y1 y2 y3 y4 y5 y6 y7 y8 y9 y10
 clear z0 z1 z2 z3 z4 z5 z6 z7 z8 z9 z10
 obtain ⟨y0, y1, y2, y3, y4, y5, y6, y7, y8, y9, y10⟩ := c11 (HP15.out.below HC17.out)
 go_wp2_with fail
 refine (heldMemory_any G1 G2 G3 G4 G5 j1 j2 j3 j4 j5 V.m.t.bs.length V.m.t.fs.length V.m.c.ls.length V.m.g.os.length V.mk.length V.m.c.hand V.m.g.count V.m.g.next V.m.g.round V.m.sp V.h _ 1 (HMK15.out.now HC17.out) (HMKB15.out.now HC17.out) (by omega) (by omega) t1 t2 t3 t4 t5).mono ?_
 rintro e w18 ⟨rfl, hb18⟩
 have HB18 := Hd (bT HB2.out (bT HD17.out hb18))
 clear hb18
 go_wp2
 go_ret
 exact ⟨rfl, HB18.out⟩
end Go.Proofs.YtfbnokjdkhcgoaaGreatDoor.lExactUsePage
namespace Go.Proofs.YtfbnokjdkhcgoaaGreatDoor.lExactUsePage
open Go.ChangeShapes Go.WideShapes Go.ChangeAt Go.RowKit Go.Joins
theorem smallE_z : smallE mez := by unfold smallE; decide
theorem useV_small (M : Me) (p n r : Int) : smallE (useV M p n r) := by
 cases h : useO M p n r with
 | false => rw [(useO_no h).1]; exact smallE_z
 | true =>
  obtain ⟨a1, a2, a3, a4⟩ := mav_len (mev_use h)
  obtain ⟨g1, g2, g3, g4, N, g5⟩ := useO_parts h
  refine ⟨a1, a2, a3, a4, ?_⟩
  rw [(useO_some g1 g2 g3 g4 g5).2.1]
  show (N.mk.set _ true).length ≤ _
  rw [List.length_set, (useN_at (mev_MEV.1 g1) g5).2.1]
  have := (mev_len g1).2.2.2.2.1
  omega
theorem walk (vb vf vl vo vk : Value) (M : Me) (p n r : Int) (w : World) (hM : MeR w vb vf vl vo vk M) (hfree : Free w) :
  Calls Tryz.prog 6 #[.agg #[vb, vf, vl, .int .i64 M.m.c.hand, .int .i64 M.m.g.count, .int .i64 M.m.g.next, .int .i64 M.m.g.round, vo, .int .i64 M.m.sp, vk, .int .i64 M.h], .int .i64 p, .int .i64 n, .int .i64 r] w fun e w' => e = .returned (.bool true) ∧ Below w.heap.size w w' :=
 walk0 vb vf vl vo vk M (useV M p n r) p n r _ _ _ w hM hfree (useV_small M p n r)
  (fun e1 e2 e3 e4 e5 W h => sUsePage_any e1 e2 e3 e4 e5 M p n r W h) (fun e1 e2 e3 e4 e5 W h hf => UsePage_any e1 e2 e3 e4 e5 M p n r W h hf)
set_option maxRecDepth 100000 in
theorem lifted (os : Os) (started : os.Started) (H : Type) (enc : TypeId × Value → H) :
  ReturnsInHanded {} Tryz.checked os 6 .any (fun w args => (Rows.fnExactUsePageSpec.pre enc Tryz.prog Tryz.f6 Rows.fnExactUsePageRow.domain false w args ∧ laidMet Tryz.prog [("loop.example/invertedpages/impl.free", Rows.laid_loop_example_invertedpages_impl_free)] w) ∧ sizedMet enc Tryz.prog Tryz.f6 (OpenSpec.ofChange Rows.fnExactUsePageSpec) false w args)
   (Rows.fnExactUsePageSpec.post enc Tryz.prog Tryz.f6 false true false false) := by
 refine returnsInHanded_of_change_and (C := Tryz.checked) (X := fun w _ => laidMet Tryz.prog [("loop.example/invertedpages/impl.free", Rows.laid_loop_example_invertedpages_impl_free)] w) (fun _ _ _ hh h => h.of_heap hh) own_ started (by kernel_rfl) Tryz.func6
  (ChangeSpec.witness_at (enc := enc) (C := Tryz.checked) (os := os) (X := fun w _ => laidMet Tryz.prog [("loop.example/invertedpages/impl.free", Rows.laid_loop_example_invertedpages_impl_free)] w) false (laidWorld os) #[.agg #[.slice none 0 0, .slice none 0 0, .slice none 0 0, .int .i64 0, .int .i64 0, .int .i64 0, .int .i64 0, .slice none 0 0, .int .i64 0, .slice none 0 0, .int .i64 0], .int .i64 0, .int .i64 0, .int .i64 0] 8 rfl (by kernel_rfl) (by kernel_rfl) (by kernel_rfl) (by kernel_rfl) (by kernel_rfl) (laid_met os _)) ?_
 intro W base args ds gs before hval0 hW hcnd _ hL _
 have hval : ∀ (j : Nat) t v, Tryz.f6.params[j]? = some t → args[j]? = some v → Value.okWide Tryz.prog W .any base t v := hval0
 have hW' := hW
 obtain ⟨p, q, hA0, hV0, rfl, hfz, hnd⟩ := hW
 have hA : DataW.TrodAll enc Tryz.prog W 0 (fun _ => true) true Tryz.f6.params.toList args.toList ds p := hA0
 have hV : DataW.TrodVars enc Tryz.prog W (fun _ => true) ["loop.example/invertedpages/impl.free"] gs q := hV0
 rw [Tryz.params6] at hA hval
 obtain ⟨v0, vs0, d0, ds0, p0, q0, hargs, rfl, rfl, h0, r0⟩ := trodAll_cons hA
 obtain ⟨v1, vs1, d1, ds1, p1, q1, rfl, rfl, rfl, h1, r1⟩ := trodAll_cons r0
 obtain ⟨v2, vs2, d2, ds2, p2, q2, rfl, rfl, rfl, h2, r2⟩ := trodAll_cons r1
 obtain ⟨v3, vs3, d3, ds3, p3, q3, rfl, rfl, rfl, h3, r3⟩ := trodAll_cons r2
 obtain ⟨rfl, rfl, rfl⟩ := trodAll_nil r3
 obtain rfl : args = #[v0, v1, v2, v3] := by cases args; simp_all
 obtain ⟨hvar0, hfree⟩ := free_of_laid hL
 obtain ⟨g, t, cs, fuel, d, p', rfl, hg, ht, hvar, hd, rfl⟩ := trodVars_one hV
 obtain rfl := Option.some.inj (free_named.symm.trans hg)
 obtain rfl := Option.some.inj (free_type.symm.trans ht)
 obtain rfl : cs = freeCells := Option.some.inj (hvar.symm.trans hvar0)
 have k0 := h0
 have lt0 : ∀ x ∈ p0, x.block < W.heap.size := by obtain ⟨m, hm⟩ := k0; exact DataW.trod_lt m _ _ _ hm
 have kd : DataW.Trod enc Tryz.prog W 0 (fun _ => true) true 80 (.agg freeCells) d p' := ⟨fuel, hd⟩
 have ltd : ∀ x ∈ p', x.block < W.heap.size := DataW.trod_lt fuel _ _ _ hd
 obtain ⟨vb, vf, vl, vo, vk, M, rfl, hM⟩ := open_memory (hval 0 67 v0 rfl rfl) h0
 obtain ⟨n1, rfl, rfl, rfl, wn1⟩ := open_int Tryz.underlying3 (hval 1 3 v1 rfl rfl) h1
 obtain ⟨n2, rfl, rfl, rfl, wn2⟩ := open_int Tryz.underlying3 (hval 2 3 v2 rfl rfl) h2
 obtain ⟨n3, rfl, rfl, rfl, wn3⟩ := open_int Tryz.underlying3 (hval 3 3 v3 rfl rfl) h3
 clear hA0 hV0 hval0
 refine (walk vb vf vl vo vk M n1 n2 n3 W hM hfree).mono fun e W' ⟨he, bel⟩ => ?_
 subst he
 have hvar' := var_stays hg hvar bel (Nat.le_refl _)
 obtain ⟨fuel', hd'⟩ := Below.trod laidOut (by kernel_rfl) (of_decide_eq_true (by kernel_rfl)) kd bel ltd
 exact ⟨_, rfl, _, _, _, [], _, _, hW', trodAll_mk1 (shut_bool Tryz.underlying4 _), (trodAll_cons_mk (Below.trod laidOut (by kernel_rfl) (of_decide_eq_true (by kernel_rfl)) k0 bel lt0) (trodAll_cons_mk (shut_int Tryz.underlying3 wn1) (trodAll_cons_mk (shut_int Tryz.underlying3 wn2) (trodAll_cons_mk (shut_int Tryz.underlying3 wn3) trodAll_mk0)))), ⟨0, 80, freeCells, fuel', _, _, hg, ht, hvar', hd', rfl, rfl⟩, bel.frame _, fun h => by cases h⟩
theorem over : Rows.fnExactUsePageRow.holds Tryz.pinned (OpenSpec.ofChange Rows.fnExactUsePageSpec) :=
 OpenClaim.holds_of_wide 6 Tryz.f6 rfl rfl rfl rfl rfl rfl rfl ⟨rfl, rfl, rfl, rfl, rfl⟩ rfl rfl rfl rfl rfl (by kernel_rfl) Tryz.func6 closed
  (of_decide_eq_true (by kernel_rfl)) (by unfold Func.isWrapper; rw [if_neg (of_decide_eq_false (by kernel_rfl))]; exact ⟨rfl, rfl⟩)
  (fun os started H enc _ => lifted os started H enc)
end Go.Proofs.YtfbnokjdkhcgoaaGreatDoor.lExactUsePage
