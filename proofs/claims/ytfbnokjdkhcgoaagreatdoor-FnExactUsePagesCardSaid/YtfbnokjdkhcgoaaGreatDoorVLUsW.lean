/- A part of the proofs of this seat: LUsW. -/
import Derived.Deep.CutRange
import Derived.Test.YtfbnokjdkhcgoaaGreatDoorVMeK
set_option linter.unusedVariables false
set_option linter.unusedSimpArgs false
set_option maxRecDepth 1000000
namespace Go.Proofs.YtfbnokjdkhcgoaaGreatDoor.lExactUsePages
open Go.RowKit
set_option maxHeartbeats 8000000 in
theorem walk0 (vb vf vl vo vk : Value) (M V : Me) (A0 : Option Addr) (c0 : Nat) (ps L : List Int) (X : Bool) (w : World) (hM : MeR w vb vf vl vo vk M) (hR : Rs intE w.heap.size w A0 ps) (hpl : ps.length ≤ 9223372036854775807) (hfree : Free w) (hV : smallE V) (hL : L.length ≤ 1048576)
  (hS : ∀ (e1 e2 e3 e4 e5 : Value) (A : Option Addr) (c : Nat) (W : World), MeR W e1 e2 e3 e4 e5 M → Rs intE W.heap.size W A ps → Calls Tryz.prog 22 #[.agg #[e1, e2, e3, .int .i64 M.m.c.hand, .int .i64 M.m.g.count, .int .i64 M.m.g.next, .int .i64 M.m.g.round, e4, .int .i64 M.m.sp, e5, .int .i64 M.h], .slice A ps.length c] W (Post2 fun v w' => ∃ v1 v2 v3 v4 v5 pl, v = .tuple #[.agg #[v1, v2, v3, .int .i64 V.m.c.hand, .int .i64 V.m.g.count, .int .i64 V.m.g.next, .int .i64 V.m.g.round, v4, .int .i64 V.m.sp, v5, .int .i64 V.h], pl, .bool X] ∧ MeM W.heap.size w' v1 v2 v3 v4 v5 V ∧ SlM intE 3 W.heap.size w' pl L ∧ Apart v1 pl ∧ Below W.heap.size W w'))
  (hI : ∀ (e1 e2 e3 e4 e5 : Value) (A : Option Addr) (c : Nat) (W : World), MeR W e1 e2 e3 e4 e5 M → Rs intE W.heap.size W A ps → Free W → Calls Tryz.prog 24 #[.agg #[e1, e2, e3, .int .i64 M.m.c.hand, .int .i64 M.m.g.count, .int .i64 M.m.g.next, .int .i64 M.m.g.round, e4, .int .i64 M.m.sp, e5, .int .i64 M.h], .slice A ps.length c] W (Post2 fun v w' => ∃ v1 v2 v3 v4 v5 pl, v = .tuple #[.agg #[v1, v2, v3, .int .i64 V.m.c.hand, .int .i64 V.m.g.count, .int .i64 V.m.g.next, .int .i64 V.m.g.round, v4, .int .i64 V.m.sp, v5, .int .i64 V.h], pl, .bool X] ∧ MeM W.heap.size w' v1 v2 v3 v4 v5 V ∧ SlM intE 3 W.heap.size w' pl L ∧ Apart v1 pl ∧ Below W.heap.size W w')) :
  Calls Tryz.prog 7 #[.agg #[vb, vf, vl, .int .i64 M.m.c.hand, .int .i64 M.m.g.count, .int .i64 M.m.g.next, .int .i64 M.m.g.round, vo, .int .i64 M.m.sp, vk, .int .i64 M.h], .slice A0 ps.length c0] w fun e w' => e = .returned (.bool true) ∧ Below w.heap.size w w' := by
 obtain ⟨A1, c1, rfl, l1, l1', q1⟩ := id hM.m.t.b
 have n1 : M.m.t.bs.length ≤ 9223372036854775807 := by simp only [maxLen] at l1'; omega
 obtain ⟨A2, c2, rfl, l2, l2', q2⟩ := id hM.m.t.f
 have n2 : M.m.t.fs.length ≤ 9223372036854775807 := by simp only [maxLen] at l2'; omega
 obtain ⟨A3, c3, rfl, l3, l3', q3⟩ := id hM.m.l
 have n3 : M.m.c.ls.length ≤ 9223372036854775807 := by simp only [maxLen] at l3'; omega
 obtain ⟨A4, c4, rfl, l4, l4', q4⟩ := id hM.m.o
 have n4 : M.m.g.os.length ≤ 9223372036854775807 := by simp only [maxLen] at l4'; omega
 obtain ⟨A5, c5, rfl, l5, l5', q5⟩ := id hM.k
 have n5 : M.mk.length ≤ 9223372036854775807 := by simp only [maxLen] at l5'; omega
 by_cases hbig : 1048576 < ps.length
 ·have hbi : (1048576 : Int) < (ps.length : Int) := by omega
  obtain ⟨W0, hW, hbx, hbz, _⟩ := box1 w #[.slice A1 M.m.t.bs.length c1, .slice A2 M.m.t.fs.length c2, .slice A3 M.m.c.ls.length c3, .int .i64 M.m.c.hand, .int .i64 M.m.g.count, .int .i64 M.m.g.next, .int .i64 M.m.g.round, .slice A4 M.m.g.os.length c4, .int .i64 M.m.sp, .slice A5 M.mk.length c5, .int .i64 M.h] 67
  have HB0 := Hd hbz
  go_enter Tryz.func7, Tryz.ntmps7
  go_wp2
  try rw [hW]
  go_ret
  exact ⟨rfl, HB0.out⟩
 have hbi : ¬ (1048576 : Int) < (ps.length : Int) := by omega
 have hbl : ps.length ≤ 1048576 := by omega
 have HRP := Hd hR
 clear hR hbig
 have HM := Hd hM
 have HF := Hd hfree
 have HSP := Hd hS
 have HIM := Hd hI
 clear hM hfree hS hI l1 l1' q1 l2 l2' q2 l3 l3' q3 l4 l4' q4 l5 l5' q5
 obtain ⟨W0, hW, hbx, hbz, _⟩ := box1 w #[.slice A1 M.m.t.bs.length c1, .slice A2 M.m.t.fs.length c2, .slice A3 M.m.c.ls.length c3, .int .i64 M.m.c.hand, .int .i64 M.m.g.count, .int .i64 M.m.g.next, .int .i64 M.m.g.round, .slice A4 M.m.g.os.length c4, .int .i64 M.m.sp, .slice A5 M.mk.length c5, .int .i64 M.h] 67
 have HX0 := Hd hbx
 have HB0 := Hd hbz
 clear hbx hbz
 obtain ⟨x0, x1, x2, x3, x4, x5, x6, x7, x8, x9, x10⟩ := c11 HX0.out
 by_cases hsz : (1048576 : Int) < (M.m.t.bs.length : Int) + M.m.t.fs.length + M.m.c.ls.length + M.m.g.os.length + M.mk.length
 ·have HS : Hid (szO5 M.m.t.bs.length M.m.t.fs.length M.m.c.ls.length M.m.g.os.length M.mk.length = -1) := if_pos hsz
  go_enter Tryz.func7, Tryz.ntmps7
  go_wp2_with fail
  refine (szMemory_any _ _ _ _ _ _ _ _ _ _ _ _ _ _ _ _ _ _ _ _ _ _ n1 n2 n3 n4 n5).mono ?_
  rintro e w1 ⟨rfl, hb1⟩
  rw [HS.out]
  have HB1 := Hd (bT HB0.out hb1)
  clear hb1
  go_wp2
  go_ret
  exact ⟨rfl, HB1.out⟩
 have HS : Hid (szO5 M.m.t.bs.length M.m.t.fs.length M.m.c.ls.length M.m.g.os.length M.mk.length = 1048576 - M.m.t.bs.length - M.m.t.fs.length - M.m.c.ls.length - M.m.g.os.length - M.mk.length) := if_neg hsz
 have hnn : ¬ (1048576 : Int) - M.m.t.bs.length - M.m.t.fs.length - M.m.c.ls.length - M.m.g.os.length - M.mk.length < 0 := by omega
 go_enter Tryz.func7, Tryz.ntmps7
 go_wp2_with fail
 refine (szMemory_any _ _ _ _ _ _ _ _ _ _ _ _ _ _ _ _ _ _ _ _ _ _ n1 n2 n3 n4 n5).mono ?_
 rintro e w1 ⟨rfl, hb1⟩
 rw [HS.out]
 have HB1 := Hd (bT HB0.out hb1)
 have HX1 := Hd (HX0.out.below hb1)
 clear hb1 hW
 clear x0 x1 x2 x3 x4 x5 x6 x7 x8 x9 x10
 obtain ⟨x0, x1, x2, x3, x4, x5, x6, x7, x8, x9, x10⟩ := c11 HX1.out
 go_wp2_with fail
 refine (toMemory_any _ _ _ _ _ M _ (HM.out.now HB1.out) (by omega) (by omega) (by omega) (by omega) (by omega)).mono ?_
 rintro e wp1 ⟨_, rfl, f1, f2, f3, f4, f5, rfl, hmp, hbp⟩
 clear x0 x1 x2 x3 x4 x5 x6 x7 x8 x9 x10
 go_wp2_with fail
 refine (toIntS_any A0 c0 ps _ (HRP.out.now (Nat.le_refl _) (bT HB1.out hbp)) hbl).mono ?_
 rintro e wp2 ⟨rfl, hei, hbi2⟩
 go_wp2_with fail
 refine (HSP.out _ _ _ _ _ _ _ _ (hmp.r.now hbi2) hei.rs).mono ?_
 rintro e wq1 ⟨_, rfl, f1, f2, f3, f4, f5, pl1, rfl, hmq, hlq, hapq, hbq⟩
 obtain ⟨Aza, cza, rfl, _⟩ := id hlq
 have hbp := bT hbp hbi2
 clear hnn hei hapq
 obtain ⟨S1, r1, rfl, _⟩ := id hmq.m.t.b
 obtain ⟨S2, r2, rfl, _⟩ := id hmq.m.t.f
 obtain ⟨S3, r3, rfl, _⟩ := id hmq.m.l
 obtain ⟨S4, r4, rfl, _⟩ := id hmq.m.o
 obtain ⟨S5, r5, rfl, _⟩ := id hmq.k
 obtain ⟨w2, hWa, hoa, hba, hsa⟩ := box1 wq1 #[.slice S1 V.m.t.bs.length r1, .slice S2 V.m.t.fs.length r2, .slice S3 V.m.c.ls.length r3, .int .i64 V.m.c.hand, .int .i64 V.m.g.count, .int .i64 V.m.g.next, .int .i64 V.m.g.round, .slice S4 V.m.g.os.length r4, .int .i64 V.m.sp, .slice S5 V.mk.length r5, .int .i64 V.h] 37
 go_upto_region 8 with fail
 try rw [hWa]
 clear hWa
 have HCa : Hid (Below w1.heap.size w1 w2) := bT (bT hbp hbq) hba
 have HOa := Hd hoa
 have HMa := Hd ((hmq.now hba).mono hbp.size)
 have HLa := Hd ((hlq.now hba).mono hbp.size)
 have HB2 := Hd (bT HB1.out HCa.out)
 have HX2 := Hd (HX1.out.below HCa.out)
 clear hmp hbp hmq hbq hlq hoa hba hsa
 obtain ⟨x0, x1, x2, x3, x4, x5, x6, x7, x8, x9, x10⟩ := c11 HX2.out
 go_wp2_with fail
 refine (toMemory_any _ _ _ _ _ M _ (HM.out.now HB2.out) (by omega) (by omega) (by omega) (by omega) (by omega)).mono ?_
 rintro e w3 ⟨_, rfl, f1, f2, f3, f4, f5, rfl, hm3, hb3⟩
 clear x0 x1 x2 x3 x4 x5 x6 x7 x8 x9 x10
 obtain ⟨F1, k1, rfl, _⟩ := id hm3.m.t.b
 obtain ⟨F2, k2, rfl, _⟩ := id hm3.m.t.f
 obtain ⟨F3, k3, rfl, _⟩ := id hm3.m.l
 obtain ⟨F4, k4, rfl, _⟩ := id hm3.m.o
 obtain ⟨F5, k5, rfl, _⟩ := id hm3.k
 obtain ⟨w5, hWx, hox, hbx, hsx⟩ := box1 w3 #[.slice F1 M.m.t.bs.length k1, .slice F2 M.m.t.fs.length k2, .slice F3 M.m.c.ls.length k3, .int .i64 M.m.c.hand, .int .i64 M.m.g.count, .int .i64 M.m.g.next, .int .i64 M.m.g.round, .slice F4 M.m.g.os.length k4, .int .i64 M.m.sp, .slice F5 M.mk.length k5, .int .i64 M.h] 37
 go_upto_region 9 with fail
 try rw [hWx]
 clear hWx
 have HO5 := Hd hox
 have hm5 := hm3.now hbx
 have HM5 := Hd hm5
 have HD5 := Hd (bT hb3 hbx)
 have HS3 := Hd hb3.size
 have HS4 : Hid (w3.heap.size < w5.heap.size) := by show _ < _; omega
 have HB5 := Hd (bT HB2.out HD5.out)
 have I1 := Hd hm5.m.t.b.mine
 have I2 := Hd hm5.m.t.f.mine
 have I3 := Hd hm5.m.l.mine
 have I4 := Hd hm5.m.o.mine
 have I5 := Hd hm5.k.mine
 clear hm3 hb3 hox hbx hsx hm5
 go_wp2_with fail
 refine (toIntS_any A0 c0 ps _ (HRP.out.now (Nat.le_refl _) HB5.out) hbl).mono ?_
 rintro e w5i ⟨rfl, hei, hbi5⟩
 have HE5 := Hd hei
 have HBI := Hd hbi5
 have HB5i := Hd (bT HB5.out hbi5)
 have hsi : w5.heap.size < w5i.heap.size := by
  obtain ⟨cs, h1, _, _⟩ := hei.own
  exact h1.lt
 clear hei hbi5
 obtain ⟨x0, x1, x2, x3, x4, x5, x6, x7, x8, x9, x10⟩ := c11 (HO5.out.below HBI.out)
 go_wp2_with fail
 refine (HIM.out _ _ _ _ _ _ _ _ (HM5.out.now HBI.out).r HE5.out.rs (HF.out.now HB5i.out)).mono ?_
 rintro e wq5 ⟨_, rfl, f1, f2, f3, f4, f5, pl5, rfl, hmq, hlq, hapq, hbq⟩
 obtain ⟨Azb, czb, rfl, _⟩ := id hlq
 have HAPb := Hd hapq
 clear x0 x1 x2 x3 x4 x5 x6 x7 x8 x9 x10
 obtain ⟨G1, j1, rfl, _⟩ := id hmq.m.t.b
 obtain ⟨G2, j2, rfl, _⟩ := id hmq.m.t.f
 obtain ⟨G3, j3, rfl, _⟩ := id hmq.m.l
 obtain ⟨G4, j4, rfl, _⟩ := id hmq.m.o
 obtain ⟨G5, j5, rfl, _⟩ := id hmq.k
 obtain ⟨w6, hWb, hob, hbb, hsb⟩ := box1 wq5 #[.slice G1 V.m.t.bs.length j1, .slice G2 V.m.t.fs.length j2, .slice G3 V.m.c.ls.length j3, .int .i64 V.m.c.hand, .int .i64 V.m.g.count, .int .i64 V.m.g.next, .int .i64 V.m.g.round, .slice G4 V.m.g.os.length j4, .int .i64 V.m.sp, .slice G5 V.mk.length j5, .int .i64 V.h] 37
 go_upto_region 11 with fail
 try rw [hWb]
 clear hWb
 have HCb : Hid (Below w5.heap.size w5 w6) := bT HBI.out (bT hbq hbb)
 have HCi : Hid (Below w5i.heap.size w5i w6) := bT hbq hbb
 have HLb := Hd (hlq.now hbb)
 have HOb := Hd hob
 have HMb := Hd (hmq.now hbb)
 have HGb : Hid (w5i.heap.size ≤ wq5.heap.size) := hbq.size
 have HD6 := Hd (bT HD5.out HCb.out)
 have hqo2 := xne X
 clear hmq hbq hlq hapq hob hbb hsb
 obtain ⟨y0, y1, y2, y3, y4, y5, y6, y7, y8, y9, y10⟩ := c11 HOb.out
 obtain ⟨z0, z1, z2, z3, z4, z5, z6, z7, z8, z9, z10⟩ := c11 (HOa.out.below HD6.out)
 go_wp2_with fail
 refine (eqMemory_same _ _ _ _ _ _ _ _ _ _ V _ (HMb.out.r) (HMa.out.r.now HD6.out)).mono ?_
 rintro e w7a ⟨rfl, hb7a⟩
 go_wp2_with fail
 refine (eqIntS_same _ _ _ _ L _ (HLb.out.now hb7a).mine.is (HLa.out.now (bT HD6.out hb7a)).mine.is (by omega)).mono ?_
 rintro e w7 ⟨rfl, hb7b⟩
 have hb7 := bT hb7a hb7b
 have HLb7 := Hd (HLb.out.now hb7)
 have HCi7 := Hd (bT HCi.out hb7)
 clear hb7a hb7b
 have HC7 := Hd (bT HCb.out hb7)
 have HD7 := Hd (bT HD5.out HC7.out)
 have HX7 := Hd (HX2.out.below HD7.out)
 have HO7 := Hd (HO5.out.below HC7.out)
 have HB7 := Hd (bT HB2.out HD7.out)
 have HP7 := Hd (HOb.out.below hb7)
 have HN7 := Hd (HMb.out.now hb7)
 have HM7 := Hd (HM5.out.now HC7.out)
 clear hb7
 clear y0 y1 y2 y3 y4 y5 y6 y7 y8 y9 y10
 clear z0 z1 z2 z3 z4 z5 z6 z7 z8 z9 z10
 go_upto_region 13 with fail
 refine wp_region_kp (by kernel_rfl) [63, 64, 65, 66, 67] [63, 64, 65, 66, 67] 34 (fun _ => True) (w7.heap.size) 99 [KP.eq (.agg #[.slice F1 M.m.t.bs.length k1, .slice F2 M.m.t.fs.length k2, .slice F3 M.m.c.ls.length k3, .int .i64 M.m.c.hand, .int .i64 M.m.g.count, .int .i64 M.m.g.next, .int .i64 M.m.g.round, .slice F4 M.m.g.os.length k4, .int .i64 M.m.sp, .slice F5 M.mk.length k5, .int .i64 M.h]), KP.eq (.agg #[.slice A1 M.m.t.bs.length c1, .slice A2 M.m.t.fs.length c2, .slice A3 M.m.c.ls.length c3, .int .i64 M.m.c.hand, .int .i64 M.m.g.count, .int .i64 M.m.g.next, .int .i64 M.m.g.round, .slice A4 M.m.g.os.length c4, .int .i64 M.m.sp, .slice A5 M.mk.length c5, .int .i64 M.h]), KP.me okT_ma (w7.heap.size) (M), KP.eq (.bool true), KP.eq (.bool false)] (fun _ _ => True) (fun v => (Below (w7.heap.size) w7 v) ∧ (Own v (w.heap.size) 67 #[.slice A1 M.m.t.bs.length c1, .slice A2 M.m.t.fs.length c2, .slice A3 M.m.c.ls.length c3, .int .i64 M.m.c.hand, .int .i64 M.m.g.count, .int .i64 M.m.g.next, .int .i64 M.m.g.round, .slice A4 M.m.g.os.length c4, .int .i64 M.m.sp, .slice A5 M.mk.length c5, .int .i64 M.h]) ∧ (Own v (w3.heap.size) 37 #[.slice F1 M.m.t.bs.length k1, .slice F2 M.m.t.fs.length k2, .slice F3 M.m.c.ls.length k3, .int .i64 M.m.c.hand, .int .i64 M.m.g.count, .int .i64 M.m.g.next, .int .i64 M.m.g.round, .slice F4 M.m.g.os.length k4, .int .i64 M.m.sp, .slice F5 M.mk.length k5, .int .i64 M.h])) (by kernel_rfl) rfl ⟨bD bR, HX7.out.drew, HO7.out.drew⟩ (fun v h => Nat.le_trans (by omega) h.1.size) (fun v v' ht ⟨hb, h_a, h_o⟩ => ⟨hb.trans ht.bel, ht.oth.2 _ _ _ h_a (by decide), ht.oth.2 _ _ _ h_o (by decide)⟩) (fun _ _ _ _ h => h) ?_ ?_
 ·intro i o ho x v hC hd K hK
  match i, ho with
  | 0, ho =>
   cases ho
   simp only [fillA, Act.put, sA9, sB9, sC9] at hK ⊢
   obtain ⟨hbw, hx_a, hx_o⟩ := hC
   obtain ⟨z0, z1, z2, z3, z4, z5, z6, z7, z8, z9, z10⟩ := c11 hx_o
   go_simp
   exact hK _ _ kpT_same rfl
  | 1, ho =>
   cases ho
   simp only [fillA, Act.put, sA9, sB9, sC9] at hK ⊢
   obtain ⟨hbw, hx_a, hx_o⟩ := hC
   obtain ⟨z0, z1, z2, z3, z4, z5, z6, z7, z8, z9, z10⟩ := c11 hx_a
   go_simp
   exact hK _ _ kpT_same rfl
  | 2, ho =>
   cases ho
   simp only [fillA, Act.put, sA9, sB9, sC9] at hK ⊢
   obtain ⟨hbw, hx_a, hx_o⟩ := hC
   have d0 := hd 1 ⟨⟨1, .data⟩, by simp, rfl, rfl⟩ (by decide)
   change x 64 = .agg #[.slice A1 M.m.t.bs.length c1, .slice A2 M.m.t.fs.length c2, .slice A3 M.m.c.ls.length c3, .int .i64 M.m.c.hand, .int .i64 M.m.g.count, .int .i64 M.m.g.next, .int .i64 M.m.g.round, .slice A4 M.m.g.os.length c4, .int .i64 M.m.sp, .slice A5 M.mk.length c5, .int .i64 M.h] at d0
   simp only [d0] at hK ⊢
   go_wp2_with fail
   refine (toMemory_any _ _ _ _ _ M _ (HM.out.now (bT HB7.out hbw)) (by omega) (by omega) (by omega) (by omega) (by omega)).mono ?_
   rintro e v' ⟨_, rfl, f1, f2, f3, f4, f5, rfl, hm1, hb⟩
   go_simp
   exact hK _ _ (kpT_below (by decide) hb) ⟨_, _, _, _, _, rfl, hm1.mono hbw.size⟩
  | 3, ho =>
   cases ho
   simp only [fillA, Act.put, sA9, sB9, sC9] at hK ⊢
   obtain ⟨hbw, hx_a, hx_o⟩ := hC
   have d0 := hd 0 ⟨⟨0, .data⟩, by simp, rfl, rfl⟩ (by decide)
   change x 63 = .agg #[.slice F1 M.m.t.bs.length k1, .slice F2 M.m.t.fs.length k2, .slice F3 M.m.c.ls.length k3, .int .i64 M.m.c.hand, .int .i64 M.m.g.count, .int .i64 M.m.g.next, .int .i64 M.m.g.round, .slice F4 M.m.g.os.length k4, .int .i64 M.m.sp, .slice F5 M.mk.length k5, .int .i64 M.h] at d0
   have d1 := hd 2 ⟨⟨2, .data⟩, by simp, rfl, rfl⟩ (by decide)
   obtain ⟨e1, e2, e3, e4, e5, d1, hmX⟩ := d1
   change x 65 = _ at d1
   simp only [d0, d1] at hK ⊢
   go_wp2_with fail
   refine (eqMemory_same _ _ _ _ _ _ _ _ _ _ M _ ((HM7.out.now hbw).r) (hmX.r)).mono ?_
   rintro e v' ⟨rfl, hb⟩
   go_simp
   exact hK _ _ (kpT_below (by decide) hb) rfl
  | 4, ho =>
   cases ho
   simp only [fillA, Act.put, sA9, sB9, sC9] at hK ⊢
   have d0 := hd 3 ⟨⟨3, .data⟩, by simp, rfl, rfl⟩ (by decide)
   change x 66 = .bool true at d0
   simp only [d0] at hK ⊢
   go_simp
   exact hK _ _ kpT_same rfl
  | _ + 5, ho => simp at ho
 intro xc w8 hC hd
 have dL := hd 4 (by decide)
 change xc 67 = .bool false at dL
 obtain ⟨hC, _⟩ := hC
 simp only [fillA, Act.put, sA9, sB9, sC9, dL]
 clear hd dL
 go_wp2_with fail
 refine (toIntS_any A0 c0 ps _ (HRP.out.now (Nat.le_refl _) (bT HB7.out hC)) hbl).mono ?_
 rintro e w8i ⟨rfl, he8, hb8⟩
 go_wp2_with fail
 refine (eqIntS_same _ _ _ _ ps _ ((HE5.out.rs.now (Nat.le_refl _) HCi7.out).now (Nat.le_refl _) (bT hC hb8)) he8.rs (by omega)).mono ?_
 rintro e w10 ⟨rfl, hb8b⟩
 have hC2 := bT hC (bT hb8 hb8b)
 have HC10 := Hd (bT HC7.out hC2)
 have HP10 := Hd (HP7.out.below hC2)
 have HN10 := Hd (HN7.out.now hC2)
 have HLb10 := Hd (HLb7.out.now hC2)
 have HCi10 := Hd (bT HCi7.out hC2)
 clear hC he8 hb8 hb8b hC2
 obtain ⟨x0, x1, x2, x3, x4, x5, x6, x7, x8, x9, x10⟩ := c11 (HO5.out.below HC10.out)
 go_wp2_with fail
 refine (markMemory_any w2.heap.size F1 F2 F3 F4 F5 k1 k2 k3 k4 k5 M _ 1 (I1.out.below HC10.out) (I2.out.below HC10.out) (I3.out.below HC10.out) (I4.out.below HC10.out) (I5.out.below HC10.out) w5.heap.size (fun k hk => (I1.out.row k hk).2) (fun k hk => (I2.out.row k hk).2) (fun k hk => (I3.out.row k hk).2) (fun k hk => (I4.out.row k hk).2) (fun k hk => (I5.out.row k hk).2) (by omega) (by omega) (by omega) (by omega) (by omega) (by omega) (by omega)).mono ?_
 rintro e w12a ⟨rfl, _, _, ht12a, _⟩
 have HL4 : w2.heap.size ≤ w5.heap.size := Nat.le_trans HS3.out (Nat.le_of_lt HS4.out)
 have hg5 := HGb.out
 have hmi : MineE intE 3 w5.heap.size w12a (some ⟨w5.heap.size, 0, none⟩) ps := ((HE5.out.slm (Nat.le_refl _) (by unfold maxLen; omega)).mine.below HCi10.out).tch ht12a (Nat.le_refl _)
 clear x0 x1 x2 x3 x4 x5 x6 x7 x8 x9 x10
 go_wp2_with fail
 refine (markIntS_any w5.heap.size (some ⟨w5.heap.size, 0, none⟩) ps.length ps.length ps _ (1 + (M.m.t.bs.length : Int) + 5 * (M.m.t.fs.length : Int) + 6 * (M.m.c.ls.length : Int) + 2 * (M.m.g.os.length : Int) + (M.mk.length : Int)) hmi rfl (by omega) (by omega) hbl).mono ?_
 rintro e w12 ⟨rfl, _, hg12, _⟩
 have ht12 : Tch w2.heap.size w5i.heap.size w10 w12 := (ht12a.wide (Nat.le_of_lt hsi)).trans (Tch.grown hg12 (fun k hk => by
  unfold rowOf at hk
  split at hk
  ·cases hk
  ·injection hk with hk
   subst hk
   exact ⟨HL4, hsi⟩))
 have HT12 := Hd ht12
 clear ht12a hmi hg12 ht12
 have HP12 := Hd (HP10.out.tch HT12.out (by omega))
 have HN12 := Hd (HN10.out.tch HT12.out (Nat.le_refl _))
 have HLb12 := Hd (HLb10.out.tch HT12.out (Nat.le_refl _))
 have HD12 := Hd (HT12.out.below (bT HD5.out HC10.out) (Nat.le_refl _))
 have hq1 : ¬ (1 + (M.m.t.bs.length : Int) + 5 * (M.m.t.fs.length : Int) + 6 * (M.m.c.ls.length : Int) + 2 * (M.m.g.os.length : Int) + (M.mk.length : Int)) + (ps.length : Int) < 0 := by omega
 obtain ⟨y0, y1, y2, y3, y4, y5, y6, y7, y8, y9, y10⟩ := c11 HP12.out
 obtain ⟨z0, z1, z2, z3, z4, z5, z6, z7, z8, z9, z10⟩ := c11 (HOa.out.below HD12.out)
 go_wp2_with fail
 refine (eqMemory_same _ _ _ _ _ _ _ _ _ _ V _ (HN12.out.r) (HMa.out.r.now HD12.out)).mono ?_
 rintro e w13a ⟨rfl, hb13a⟩
 go_wp2_with fail
 refine (eqIntS_same _ _ _ _ L _ (HLb12.out.now hb13a).mine.is (HLa.out.now (bT HD12.out hb13a)).mine.is (by omega)).mono ?_
 rintro e w13 ⟨rfl, hb13b⟩
 have hb13 := bT hb13a hb13b
 have HLb13 := Hd (HLb12.out.now hb13)
 clear hb13a hb13b
 have HP13 := Hd (HP12.out.below hb13)
 have HN13 := Hd (HN12.out.now hb13)
 have HD13 := Hd (bT HD12.out hb13)
 obtain ⟨t1, t2, t3, t4, t5⟩ := hV
 clear hb13
 clear y0 y1 y2 y3 y4 y5 y6 y7 y8 y9 y10
 clear z0 z1 z2 z3 z4 z5 z6 z7 z8 z9 z10
 obtain ⟨y0, y1, y2, y3, y4, y5, y6, y7, y8, y9, y10⟩ := c11 HP13.out
 have L1 := Hd HN13.out.m.t.b.mine
 have L2 := Hd HN13.out.m.t.f.mine
 have L3 := Hd HN13.out.m.l.mine
 have L4 := Hd HN13.out.m.o.mine
 have L5 := Hd HN13.out.k.mine
 go_wp2_with fail
 refine (markMemory_i w5i.heap.size G1 G2 G3 G4 G5 j1 j2 j3 j4 j5 V _ 1 L1.out L2.out L3.out L4.out L5.out w13.heap.size (fun k hk => (L1.out.row k hk).2) (fun k hk => (L2.out.row k hk).2) (fun k hk => (L3.out.row k hk).2) (fun k hk => (L4.out.row k hk).2) (fun k hk => (L5.out.row k hk).2) (by omega) (by omega) t1 t2 t3 t4 t5).mono ?_
 rintro e w14a ⟨rfl, hmk, hmb, ht14, ho14, hk14⟩
 have HMKa := Hd hmk
 have HMKBa := Hd hmb
 have HP14a := Hd (ho14.2 _ _ _ HP13.out (by decide))
 have hsd : w2.heap.size ≤ w5i.heap.size := by omega
 have HD14a := Hd (ht14.below HD13.out hsd)
 have hml : MineE intE 3 w5i.heap.size w14a Azb L := by
  obtain ⟨_, _, e9, _, _, h9⟩ := HLb13.out
  injection e9 with e9
  subst e9
  exact h9.ownk ht14.size (fun g cs o hr => hk14 g cs o (fun h8 => apart_rows HAPb.out g h8 hr))
 have HML := Hd hml
 clear hmk hmb ht14 ho14 hk14 hml
 clear y0 y1 y2 y3 y4 y5 y6 y7 y8 y9 y10
 go_wp2_with fail
 refine (markIntS_any w5i.heap.size Azb czb L.length L _ (1 + (V.m.t.bs.length : Int) + 5 * (V.m.t.fs.length : Int) + 6 * (V.m.c.ls.length : Int) + 2 * (V.m.g.os.length : Int) + (V.mk.length : Int)) HML.out rfl (by omega) (by omega) hL).mono ?_
 rintro e w14 ⟨rfl, hmkl, hgl, hol⟩
 have ot14 := oth_of hgl hol
 have HMKL := Hd hmkl
 have HMK := Hd (HMKa.out.beside hgl hol (apart_rows HAPb.out))
 have HMKB := Hd (HMKBa.out.oth ot14 (by decide))
 have HP14 := Hd (ot14.2 _ _ _ HP14a.out (by decide))
 have HD14 := Hd ((Tch.grown (lo := w5i.heap.size) (hi := w14a.heap.size) hgl (fun k hk => HML.out.row k hk)).below HD14a.out hsd)
 clear hmkl hgl hol ot14
 obtain ⟨y0, y1, y2, y3, y4, y5, y6, y7, y8, y9, y10⟩ := c11 HP14.out
 go_wp2_with fail
 refine (heldMemory_any G1 G2 G3 G4 G5 j1 j2 j3 j4 j5 V.m.t.bs.length V.m.t.fs.length V.m.c.ls.length V.m.g.os.length V.mk.length V.m.c.hand V.m.g.count V.m.g.next V.m.g.round V.m.sp V.h _ 1 HMK.out HMKB.out (by omega) (by omega) t1 t2 t3 t4 t5).mono ?_
 rintro e w15a ⟨rfl, hb15a⟩
 have hq2a : ¬ (1 + (V.m.t.bs.length : Int) + 5 * (V.m.t.fs.length : Int) + 6 * (V.m.c.ls.length : Int) + 2 * (V.m.g.os.length : Int) + (V.mk.length : Int)) < 0 := by omega
 go_wp2_with fail
 refine (heldIntS_any Azb L.length czb _ (1 + (V.m.t.bs.length : Int) + 5 * (V.m.t.fs.length : Int) + 6 * (V.m.c.ls.length : Int) + 2 * (V.m.g.os.length : Int) + (V.mk.length : Int)) (HMKL.out.now hb15a) (by omega) (by omega) hL).mono ?_
 rintro e w15 ⟨rfl, hb15b⟩
 have hb15 := bT hb15a hb15b
 have HMKL15 := Hd (HMKL.out.now hb15)
 clear hb15a hb15b HMKL
 have HP15 := Hd (HP14.out.below hb15)
 have HMK15 := Hd (HMK.out.now hb15)
 have HMKB15 := Hd (HMKB.out.now hb15)
 have HD15 := Hd (bT HD14.out hb15)
 have HB15 := Hd (bT HB2.out HD15.out)
 have HX15 := Hd (HX2.out.below HD15.out)
 have hq2 : ¬ (1 + (V.m.t.bs.length : Int) + 5 * (V.m.t.fs.length : Int) + 6 * (V.m.c.ls.length : Int) + 2 * (V.m.g.os.length : Int) + (V.mk.length : Int)) + (L.length : Int) < 0 := by omega
 have hq3 : ((1 + (V.m.t.bs.length : Int) + 5 * (V.m.t.fs.length : Int) + 6 * (V.m.c.ls.length : Int) + 2 * (V.m.g.os.length : Int) + (V.mk.length : Int)) + (L.length : Int) != (1 + (V.m.t.bs.length : Int) + 5 * (V.m.t.fs.length : Int) + 6 * (V.m.c.ls.length : Int) + 2 * (V.m.g.os.length : Int) + (V.mk.length : Int)) + (L.length : Int)) = false := by simp
 clear hb15 HMK HMKB
 clear y0 y1 y2 y3 y4 y5 y6 y7 y8 y9 y10
 obtain ⟨x0, x1, x2, x3, x4, x5, x6, x7, x8, x9, x10⟩ := c11 HX15.out
 go_wp2_with fail
 refine (toMemory_any _ _ _ _ _ M _ (HM.out.now HB15.out) (by omega) (by omega) (by omega) (by omega) (by omega)).mono ?_
 rintro e wp15 ⟨_, rfl, f1, f2, f3, f4, f5, rfl, hmp, hbp⟩
 clear x0 x1 x2 x3 x4 x5 x6 x7 x8 x9 x10
 go_wp2_with fail
 refine (toIntS_any A0 c0 ps _ (HRP.out.now (Nat.le_refl _) (bT HB15.out hbp)) hbl).mono ?_
 rintro e wp16 ⟨rfl, hei, hbi2⟩
 go_wp2_with fail
 refine (HIM.out _ _ _ _ _ _ _ _ (hmp.r.now hbi2) hei.rs (HF.out.now (bT HB15.out (bT hbp hbi2)))).mono ?_
 rintro e wq15 ⟨_, rfl, f1, f2, f3, f4, f5, pl15, rfl, hmq, hlq, hapq, hbq⟩
 obtain ⟨Azc, czc, rfl, _⟩ := id hlq
 have hbp := bT hbp hbi2
 clear hei hapq
 obtain ⟨T1, i1, rfl, _⟩ := id hmq.m.t.b
 obtain ⟨T2, i2, rfl, _⟩ := id hmq.m.t.f
 obtain ⟨T3, i3, rfl, _⟩ := id hmq.m.l
 obtain ⟨T4, i4, rfl, _⟩ := id hmq.m.o
 obtain ⟨T5, i5, rfl, _⟩ := id hmq.k
 obtain ⟨w16, hWc, hoc, hbc, hsc⟩ := box1 wq15 #[.slice T1 V.m.t.bs.length i1, .slice T2 V.m.t.fs.length i2, .slice T3 V.m.c.ls.length i3, .int .i64 V.m.c.hand, .int .i64 V.m.g.count, .int .i64 V.m.g.next, .int .i64 V.m.g.round, .slice T4 V.m.g.os.length i4, .int .i64 V.m.sp, .slice T5 V.mk.length i5, .int .i64 V.h] 37
 go_upto_region 35 with fail
 try rw [hWc]
 clear hWc
 have HCc : Hid (Below w15.heap.size w15 w16) := bT (bT hbp hbq) hbc
 have HOc := Hd hoc
 have HMc := Hd (hmq.now hbc)
 have HLc := Hd (hlq.now hbc)
 have HD16 := Hd (bT HD15.out HCc.out)
 clear hmp hbp hmq hbq hlq hoc hbc hsc
 obtain ⟨y0, y1, y2, y3, y4, y5, y6, y7, y8, y9, y10⟩ := c11 HOc.out
 obtain ⟨z0, z1, z2, z3, z4, z5, z6, z7, z8, z9, z10⟩ := c11 (HOa.out.below HD16.out)
 go_wp2_with fail
 refine (eqMemory_same _ _ _ _ _ _ _ _ _ _ V _ (HMc.out.r) (HMa.out.r.now HD16.out)).mono ?_
 rintro e w17a ⟨rfl, hb17a⟩
 go_wp2_with fail
 refine (eqIntS_same _ _ _ _ L _ (HLc.out.now hb17a).mine.is (HLa.out.now (bT HD16.out hb17a)).mine.is (by omega)).mono ?_
 rintro e w17 ⟨rfl, hb17b⟩
 have hb17 := bT hb17a hb17b
 clear hb17a hb17b
 have HC17 := Hd (bT HCc.out hb17)
 have HD17 := Hd (bT HD16.out hb17)
 clear hb17
 clear y0 y1 y2 y3 y4 y5 y6 y7 y8 y9 y10
 clear z0 z1 z2 z3 z4 z5 z6 z7 z8 z9 z10
 obtain ⟨y0, y1, y2, y3, y4, y5, y6, y7, y8, y9, y10⟩ := c11 (HP15.out.below HC17.out)
 go_wp2_with fail
 refine (heldMemory_any G1 G2 G3 G4 G5 j1 j2 j3 j4 j5 V.m.t.bs.length V.m.t.fs.length V.m.c.ls.length V.m.g.os.length V.mk.length V.m.c.hand V.m.g.count V.m.g.next V.m.g.round V.m.sp V.h _ 1 (HMK15.out.now HC17.out) (HMKB15.out.now HC17.out) (by omega) (by omega) t1 t2 t3 t4 t5).mono ?_
 rintro e w18a ⟨rfl, hb18a⟩
 go_wp2_with fail
 refine (heldIntS_any Azb L.length czb _ (1 + (V.m.t.bs.length : Int) + 5 * (V.m.t.fs.length : Int) + 6 * (V.m.c.ls.length : Int) + 2 * (V.m.g.os.length : Int) + (V.mk.length : Int)) (HMKL15.out.now (bT HC17.out hb18a)) (by omega) (by omega) hL).mono ?_
 rintro e w18 ⟨rfl, hb18b⟩
 have hb18 := bT hb18a hb18b
 clear hb18a hb18b
 have HB18 := Hd (bT HB2.out (bT HD17.out hb18))
 clear hb18
 go_wp2
 go_ret
 exact ⟨rfl, HB18.out⟩
end Go.Proofs.YtfbnokjdkhcgoaaGreatDoor.lExactUsePages
