/- A part of the proofs of this seat: LXt. -/
import Derived.Deep.RegionHeldLaw
import Derived.Below
import Derived.Test.YtibpnlojlfcpmaaGreatDoorBOpen
import Derived.Test.YtibpnlojlfcpmaaGreatDoorBMk3
set_option linter.unusedVariables false
set_option linter.unusedSimpArgs false
set_option maxRecDepth 1000000
namespace Go.Proofs.YtibpnlojlfcpmaaGreatDoor.lExactTouchBytes
open Go.RowKit
set_option maxHeartbeats 4000000 in
theorem walk0 (vb vf vl vo : Value) (m V : Ma) (a0 a1 a2 a3 : Int) (L : List Int) (X0 : Int) (X1 : Bool) (w : World) (hM : MaR w vb vf vl vo m) (hfree : Free w) (hV : smallM V) (hL : L.length ≤ 1048576)
  (hS : ∀ (e1 e2 e3 e4 : Value) (W : World), MaR W e1 e2 e3 e4 m → Calls Tryz.prog 46 #[.agg #[e1, e2, e3, .int .i64 m.c.hand, .int .i64 m.g.count, .int .i64 m.g.next, .int .i64 m.g.round, e4, .int .i64 m.sp], .int .i64 a0, .int .i64 a1, .int .i64 a2, .int .i64 a3] W (Post2 fun v w' => ∃ v1 v2 v3 v4 Az cz, v = .tuple #[.agg #[v1, v2, v3, .int .i64 V.c.hand, .int .i64 V.g.count, .int .i64 V.g.next, .int .i64 V.g.round, v4, .int .i64 V.sp], .slice Az L.length cz, .int .i64 X0, .bool X1] ∧ MaM W.heap.size w' v1 v2 v3 v4 V ∧ SlM intE 3 W.heap.size w' (.slice Az L.length cz) L ∧ Below W.heap.size W w'))
  (hI : ∀ (e1 e2 e3 e4 : Value) (W : World), MaR W e1 e2 e3 e4 m → Free W → Calls Tryz.prog 47 #[.agg #[e1, e2, e3, .int .i64 m.c.hand, .int .i64 m.g.count, .int .i64 m.g.next, .int .i64 m.g.round, e4, .int .i64 m.sp], .int .i64 a0, .int .i64 a1, .int .i64 a2, .int .i64 a3] W (Post2 fun v w' => ∃ v1 v2 v3 v4 Az cz, v = .tuple #[.agg #[v1, v2, v3, .int .i64 V.c.hand, .int .i64 V.g.count, .int .i64 V.g.next, .int .i64 V.g.round, v4, .int .i64 V.sp], .slice Az L.length cz, .int .i64 X0, .bool X1] ∧ MaM W.heap.size w' v1 v2 v3 v4 V ∧ SlM intE 3 W.heap.size w' (.slice Az L.length cz) L ∧ Apart v1 (.slice Az L.length cz) ∧ Below W.heap.size W w')) :
  Calls Tryz.prog 12 #[.agg #[vb, vf, vl, .int .i64 m.c.hand, .int .i64 m.g.count, .int .i64 m.g.next, .int .i64 m.g.round, vo, .int .i64 m.sp], .int .i64 a0, .int .i64 a1, .int .i64 a2, .int .i64 a3] w fun e w' => e = .returned (.bool true) ∧ Below w.heap.size w w' := by
 obtain ⟨A1, c1, rfl, l1, l1', q1⟩ := hM.t.b
 obtain ⟨A2, c2, rfl, l2, l2', q2⟩ := hM.t.f
 obtain ⟨A3, c3, rfl, l3, l3', q3⟩ := hM.l
 obtain ⟨A4, c4, rfl, l4, l4', q4⟩ := hM.o
 have n1 : m.t.bs.length ≤ 9223372036854775807 := by simp only [maxLen] at l1'; omega
 have n2 : m.t.fs.length ≤ 9223372036854775807 := by simp only [maxLen] at l2'; omega
 have n3 : m.c.ls.length ≤ 9223372036854775807 := by simp only [maxLen] at l3'; omega
 have n4 : m.g.os.length ≤ 9223372036854775807 := by simp only [maxLen] at l4'; omega
 have HM := Hd hM
 have HF := Hd hfree
 have HSP := Hd hS
 have HIM := Hd hI
 clear hM hfree hS hI l1 l1' q1 l2 l2' q2 l3 l3' q3 l4 l4' q4
 have hx := Own.new_ w 33 #[.slice A1 m.t.bs.length c1, .slice A2 m.t.fs.length c2, .slice A3 m.c.ls.length c3, .int .i64 m.c.hand, .int .i64 m.g.count, .int .i64 m.g.next, .int .i64 m.g.round, .slice A4 m.g.os.length c4, .int .i64 m.sp]
 have hb0 : Below w.heap.size w (w.alloc (.cells #[.slice A1 m.t.bs.length c1, .slice A2 m.t.fs.length c2, .slice A3 m.c.ls.length c3, .int .i64 m.c.hand, .int .i64 m.g.count, .int .i64 m.g.next, .int .i64 m.g.round, .slice A4 m.g.os.length c4, .int .i64 m.sp] 33)) := bA bR
 generalize hW0 : w.alloc (.cells #[.slice A1 m.t.bs.length c1, .slice A2 m.t.fs.length c2, .slice A3 m.c.ls.length c3, .int .i64 m.c.hand, .int .i64 m.g.count, .int .i64 m.g.next, .int .i64 m.g.round, .slice A4 m.g.os.length c4, .int .i64 m.sp] 33) = W0 at hx hb0
 have HX0 := Hd hx
 have HB0 := Hd hb0
 clear hx hb0
 obtain ⟨x0, x1, x2, x3, x4, x5, x6, x7, x8⟩ := cells9 (HX0.out)
 by_cases hsz : (1048576 : Int) < (m.t.bs.length : Int) + m.t.fs.length + m.c.ls.length + m.g.os.length
 ·have HS : Hid (szOf m.t.bs.length m.t.fs.length m.c.ls.length m.g.os.length = -1) := if_pos hsz
  go_enter Tryz.func12, Tryz.ntmps12
  go_wp2_with fail
  refine (szMachine_any _ _ _ _ _ _ _ _ _ _ _ _ _ _ _ _ _ _ n1 n2 n3 n4).mono ?_
  rintro e w1 ⟨rfl, hb1⟩
  rw [HS.out]
  have HB1 := Hd (bT HB0.out hb1)
  clear hb1
  go_wp2
  go_ret
  exact ⟨rfl, HB1.out⟩
 have HS : Hid (szOf m.t.bs.length m.t.fs.length m.c.ls.length m.g.os.length = 1048576 - m.t.bs.length - m.t.fs.length - m.c.ls.length - m.g.os.length) := if_neg hsz
 have hnn : ¬ (1048576 : Int) - m.t.bs.length - m.t.fs.length - m.c.ls.length - m.g.os.length < 0 := by omega
 go_enter Tryz.func12, Tryz.ntmps12
 go_wp2_with fail
 refine (szMachine_any _ _ _ _ _ _ _ _ _ _ _ _ _ _ _ _ _ _ n1 n2 n3 n4).mono ?_
 rintro e w1 ⟨rfl, hb1⟩
 rw [HS.out]
 have HB1 := Hd (bT HB0.out hb1)
 have HX1 := Hd (HX0.out.below hb1)
 clear hb1 x0 x1 x2 x3 x4 x5 x6 x7 x8
 obtain ⟨x0, x1, x2, x3, x4, x5, x6, x7, x8⟩ := cells9 (HX1.out)
 go_wp2_with fail
 refine (toMachine_any _ _ _ _ m _ (HM.out.now HB1.out) (by omega) (by omega) (by omega) (by omega)).mono ?_
 rintro e wp1 ⟨_, rfl, f1, f2, f3, f4, rfl, hmp, hbp⟩
 clear x0 x1 x2 x3 x4 x5 x6 x7 x8
 go_wp2_with fail
 refine (HSP.out _ _ _ _ _ hmp.r).mono ?_
 rintro e w2q ⟨_, rfl, f1, f2, f3, f4, Aza, cza, rfl, hmq, hlq, hbq⟩
 have hlq2 := hlq.mono (show w1.heap.size ≤ wp1.heap.size by first | exact Nat.le_refl _ | exact hbp.size)
 have hmq2 := hmq.mono (show w1.heap.size ≤ wp1.heap.size by first | exact Nat.le_refl _ | exact hbp.size)
 obtain ⟨S1a, r1a, rfl, _⟩ := hmq.t.b
 obtain ⟨S2a, r2a, rfl, _⟩ := hmq.t.f
 obtain ⟨S3a, r3a, rfl, _⟩ := hmq.l
 obtain ⟨S4a, r4a, rfl, _⟩ := hmq.o
 have ho := Own.new_ w2q 48 #[.slice S1a V.t.bs.length r1a, .slice S2a V.t.fs.length r2a, .slice S3a V.c.ls.length r3a, .int .i64 V.c.hand, .int .i64 V.g.count, .int .i64 V.g.next, .int .i64 V.g.round, .slice S4a V.g.os.length r4a, .int .i64 V.sp]
 have hbz : Below w2q.heap.size w2q (w2q.alloc (.cells #[.slice S1a V.t.bs.length r1a, .slice S2a V.t.fs.length r2a, .slice S3a V.c.ls.length r3a, .int .i64 V.c.hand, .int .i64 V.g.count, .int .i64 V.g.next, .int .i64 V.g.round, .slice S4a V.g.os.length r4a, .int .i64 V.sp] 48)) := bA bR
 generalize hWza : w2q.alloc (.cells #[.slice S1a V.t.bs.length r1a, .slice S2a V.t.fs.length r2a, .slice S3a V.c.ls.length r3a, .int .i64 V.c.hand, .int .i64 V.g.count, .int .i64 V.g.next, .int .i64 V.g.round, .slice S4a V.g.os.length r4a, .int .i64 V.sp] 48) = w2 at ho hbz
 have HOa := Hd ho
 have HMMa := Hd (hmq2.now hbz)
 have HLLa := Hd (hlq2.now hbz)
 have HCa : Hid (Below w1.heap.size w1 w2) := by first | exact bT (bT hbp hbq) hbz | exact bT hbq hbz
 have hgza : w1.heap.size ≤ w2q.heap.size := by first | exact (bT hbp hbq).size | exact hbq.size
 clear hmq hbq hmq2 hlq hlq2 ho hbz
 try clear hbp hmp
 have HB2 := Hd (bT HB1.out HCa.out)
 have HX2 := Hd (HX1.out.below HCa.out)
 clear HX1
 obtain ⟨x0, x1, x2, x3, x4, x5, x6, x7, x8⟩ := cells9 (HX2.out)
 go_wp2_with fail
 refine (toMachine_any _ _ _ _ m _ (HM.out.now HB2.out) (by omega) (by omega) (by omega) (by omega)).mono ?_
 rintro e w3 ⟨_, rfl, f1, f2, f3, f4, rfl, hm3, hb3⟩
 obtain ⟨F1, k1, rfl, _⟩ := hm3.t.b
 obtain ⟨F2, k2, rfl, _⟩ := hm3.t.f
 obtain ⟨F3, k3, rfl, _⟩ := hm3.l
 obtain ⟨F4, k4, rfl, _⟩ := hm3.o
 clear x0 x1 x2 x3 x4 x5 x6 x7 x8
 have ho4 := Own.new_ w3 48 #[.slice F1 m.t.bs.length k1, .slice F2 m.t.fs.length k2, .slice F3 m.c.ls.length k3, .int .i64 m.c.hand, .int .i64 m.g.count, .int .i64 m.g.next, .int .i64 m.g.round, .slice F4 m.g.os.length k4, .int .i64 m.sp]
 have hm4 := hm3.now (w' := w3.alloc (.cells #[.slice F1 m.t.bs.length k1, .slice F2 m.t.fs.length k2, .slice F3 m.c.ls.length k3, .int .i64 m.c.hand, .int .i64 m.g.count, .int .i64 m.g.next, .int .i64 m.g.round, .slice F4 m.g.os.length k4, .int .i64 m.sp] 48)) (bA bR)
 have hb4 : Below w2.heap.size w2 (w3.alloc (.cells #[.slice F1 m.t.bs.length k1, .slice F2 m.t.fs.length k2, .slice F3 m.c.ls.length k3, .int .i64 m.c.hand, .int .i64 m.g.count, .int .i64 m.g.next, .int .i64 m.g.round, .slice F4 m.g.os.length k4, .int .i64 m.sp] 48)) := bA hb3
 have hs4 : w3.heap.size < (w3.alloc (.cells #[.slice F1 m.t.bs.length k1, .slice F2 m.t.fs.length k2, .slice F3 m.c.ls.length k3, .int .i64 m.c.hand, .int .i64 m.g.count, .int .i64 m.g.next, .int .i64 m.g.round, .slice F4 m.g.os.length k4, .int .i64 m.sp] 48)).heap.size := by simp
 have hc3 := hb3.size
 generalize hW4 : w3.alloc (.cells #[.slice F1 m.t.bs.length k1, .slice F2 m.t.fs.length k2, .slice F3 m.c.ls.length k3, .int .i64 m.c.hand, .int .i64 m.g.count, .int .i64 m.g.next, .int .i64 m.g.round, .slice F4 m.g.os.length k4, .int .i64 m.sp] 48) = w5 at ho4 hm4 hb4 hs4
 have HO5 := Hd ho4
 have HM5 := Hd hm4
 have HD5 := Hd hb4
 have HS4 := Hd hs4
 have HS3 := Hd hc3
 have HB5 := Hd (bT HB2.out hb4)
 have I1 := Hd hm4.t.b.mine
 have I2 := Hd hm4.t.f.mine
 have I3 := Hd hm4.l.mine
 have I4 := Hd hm4.o.mine
 clear ho4 hm4 hb4 hs4 hm3 hb3 hc3
 obtain ⟨x0, x1, x2, x3, x4, x5, x6, x7, x8⟩ := cells9 (HO5.out)
 go_wp2_with fail
 refine (HIM.out _ _ _ _ _ HM5.out.r (HF.out.now HB5.out)).mono ?_
 rintro e w6q ⟨_, rfl, f1, f2, f3, f4, Azb, czb, rfl, hmq, hlq, hapb, hbq⟩
 have hlq2 := hlq.mono (show w5.heap.size ≤ w5.heap.size by first | exact Nat.le_refl _ | exact hbp.size)
 have hmq2 := hmq.mono (show w5.heap.size ≤ w5.heap.size by first | exact Nat.le_refl _ | exact hbp.size)
 obtain ⟨S1b, r1b, rfl, _⟩ := hmq.t.b
 obtain ⟨S2b, r2b, rfl, _⟩ := hmq.t.f
 obtain ⟨S3b, r3b, rfl, _⟩ := hmq.l
 obtain ⟨S4b, r4b, rfl, _⟩ := hmq.o
 have ho := Own.new_ w6q 48 #[.slice S1b V.t.bs.length r1b, .slice S2b V.t.fs.length r2b, .slice S3b V.c.ls.length r3b, .int .i64 V.c.hand, .int .i64 V.g.count, .int .i64 V.g.next, .int .i64 V.g.round, .slice S4b V.g.os.length r4b, .int .i64 V.sp]
 have hbz : Below w6q.heap.size w6q (w6q.alloc (.cells #[.slice S1b V.t.bs.length r1b, .slice S2b V.t.fs.length r2b, .slice S3b V.c.ls.length r3b, .int .i64 V.c.hand, .int .i64 V.g.count, .int .i64 V.g.next, .int .i64 V.g.round, .slice S4b V.g.os.length r4b, .int .i64 V.sp] 48)) := bA bR
 generalize hWzb : w6q.alloc (.cells #[.slice S1b V.t.bs.length r1b, .slice S2b V.t.fs.length r2b, .slice S3b V.c.ls.length r3b, .int .i64 V.c.hand, .int .i64 V.g.count, .int .i64 V.g.next, .int .i64 V.g.round, .slice S4b V.g.os.length r4b, .int .i64 V.sp] 48) = w6 at ho hbz
 have HOb := Hd ho
 have HMMb := Hd (hmq2.now hbz)
 have HLLb := Hd (hlq2.now hbz)
 have HAPb := Hd hapb
 clear hapb
 have HCb : Hid (Below w5.heap.size w5 w6) := by first | exact bT (bT hbp hbq) hbz | exact bT hbq hbz
 have hgzb : w5.heap.size ≤ w6q.heap.size := by first | exact (bT hbp hbq).size | exact hbq.size
 clear hmq hbq hmq2 hlq hlq2 ho hbz
 try clear hbp hmp
 clear x0 x1 x2 x3 x4 x5 x6 x7 x8
 obtain ⟨G1, j1, rfl, rfl⟩ : ∃ G j, G = S1b ∧ j = r1b := ⟨_, _, rfl, rfl⟩
 obtain ⟨G2, j2, rfl, rfl⟩ : ∃ G j, G = S2b ∧ j = r2b := ⟨_, _, rfl, rfl⟩
 obtain ⟨G3, j3, rfl, rfl⟩ : ∃ G j, G = S3b ∧ j = r3b := ⟨_, _, rfl, rfl⟩
 obtain ⟨G4, j4, rfl, rfl⟩ : ∃ G j, G = S4b ∧ j = r4b := ⟨_, _, rfl, rfl⟩
 have HD6 := Hd (bT HD5.out HCb.out)
 have hqo0 : (X0 != X0) = false := by simp
 have hqo1 := xne X1
 obtain ⟨y0, y1, y2, y3, y4, y5, y6, y7, y8⟩ := cells9 (HOb.out)
 have z0 := (HOa.out.below HD6.out).cell_ 0 (v := .slice S1a V.t.bs.length r1a) rfl
 have z1 := (HOa.out.below HD6.out).cell_ 1 (v := .slice S2a V.t.fs.length r2a) rfl
 have z2 := (HOa.out.below HD6.out).cell_ 2 (v := .slice S3a V.c.ls.length r3a) rfl
 have z3 := (HOa.out.below HD6.out).cell_ 3 (v := .int .i64 V.c.hand) rfl
 have z4 := (HOa.out.below HD6.out).cell_ 4 (v := .int .i64 V.g.count) rfl
 have z5 := (HOa.out.below HD6.out).cell_ 5 (v := .int .i64 V.g.next) rfl
 have z6 := (HOa.out.below HD6.out).cell_ 6 (v := .int .i64 V.g.round) rfl
 have z7 := (HOa.out.below HD6.out).cell_ 7 (v := .slice S4a V.g.os.length r4a) rfl
 have z8 := (HOa.out.below HD6.out).cell_ 8 (v := .int .i64 V.sp) rfl
 go_wp2_with fail
 refine (eqMachine_same _ _ _ _ _ _ _ _ V _ HMMb.out.r (HMMa.out.r.now HD6.out)).mono ?_
 rintro e w7a ⟨rfl, hb7a⟩
 go_wp2_with fail
 refine (eqIntS_same _ _ _ _ L _ (slm_rs2 (HLLb.out.now hb7a)) (slm_rs2 (HLLa.out.now (bT HD6.out hb7a))) (by omega)).mono ?_
 rintro e w7 ⟨rfl, hb7b⟩
 have hb7 := bT hb7a hb7b
 have HL7 := Hd (HLLb.out.now hb7)
 clear hb7a hb7b
 have HC7 := Hd (bT HCb.out hb7)
 have HD7 := Hd (bT HD5.out HC7.out)
 have HX7 := Hd (HX2.out.below HD7.out)
 have HO7 := Hd (HO5.out.below HC7.out)
 have HB7 := Hd (bT HB2.out HD7.out)
 have HP7 := Hd (HOb.out.below hb7)
 have HN7 := Hd (HMMb.out.now hb7)
 have HM7 := Hd (HM5.out.now HC7.out)
 clear hb7
 clear y0 y1 y2 y3 y4 y5 y6 y7 y8
 clear z0 z1 z2 z3 z4 z5 z6 z7 z8
 go_wp2_with fail
 refine wp_region_rel1 (by kernel_rfl) [78, 79, 80, 81, 82] [78, 79, 80, 81, 82] (fun v => Below w7.heap.size w7 v)
  (rls w7.heap.size 99 [RL.eq (.agg #[.slice F1 m.t.bs.length k1, .slice F2 m.t.fs.length k2, .slice F3 m.c.ls.length k3, .int .i64 m.c.hand, .int .i64 m.g.count, .int .i64 m.g.next, .int .i64 m.g.round, .slice F4 m.g.os.length k4, .int .i64 m.sp]), RL.eq (.agg #[.slice A1 m.t.bs.length c1, .slice A2 m.t.fs.length c2, .slice A3 m.c.ls.length c3, .int .i64 m.c.hand, .int .i64 m.g.count, .int .i64 m.g.next, .int .i64 m.g.round, .slice A4 m.g.os.length c4, .int .i64 m.sp]), RL.ma m, RL.eq (.bool true), RL.eq (.bool false)]) (tA 99) (by kernel_rfl) rfl (bD bR)
  (fun i j x v v' hij h ht => rls_keep hij h ht) ?_ ?_
 ·intro i o ho x v hC hd K hK
  match i, ho with
  | 0, ho =>
   cases ho
   simp only [fillA, Act.put, sA9, sB9, sC9] at hK ⊢
   have z0 := (HO7.out.below hC).cell_ 0 (v := .slice F1 m.t.bs.length k1) rfl
   have z1 := (HO7.out.below hC).cell_ 1 (v := .slice F2 m.t.fs.length k2) rfl
   have z2 := (HO7.out.below hC).cell_ 2 (v := .slice F3 m.c.ls.length k3) rfl
   have z3 := (HO7.out.below hC).cell_ 3 (v := .int .i64 m.c.hand) rfl
   have z4 := (HO7.out.below hC).cell_ 4 (v := .int .i64 m.g.count) rfl
   have z5 := (HO7.out.below hC).cell_ 5 (v := .int .i64 m.g.next) rfl
   have z6 := (HO7.out.below hC).cell_ 6 (v := .int .i64 m.g.round) rfl
   have z7 := (HO7.out.below hC).cell_ 7 (v := .slice F4 m.g.os.length k4) rfl
   have z8 := (HO7.out.below hC).cell_ 8 (v := .int .i64 m.sp) rfl
   go_simp
   exact hK _ _ tA_same hC rfl
  | 1, ho =>
   cases ho
   simp only [fillA, Act.put, sA9, sB9, sC9] at hK ⊢
   have z0 := (HX7.out.below hC).cell_ 0 (v := .slice A1 m.t.bs.length c1) rfl
   have z1 := (HX7.out.below hC).cell_ 1 (v := .slice A2 m.t.fs.length c2) rfl
   have z2 := (HX7.out.below hC).cell_ 2 (v := .slice A3 m.c.ls.length c3) rfl
   have z3 := (HX7.out.below hC).cell_ 3 (v := .int .i64 m.c.hand) rfl
   have z4 := (HX7.out.below hC).cell_ 4 (v := .int .i64 m.g.count) rfl
   have z5 := (HX7.out.below hC).cell_ 5 (v := .int .i64 m.g.next) rfl
   have z6 := (HX7.out.below hC).cell_ 6 (v := .int .i64 m.g.round) rfl
   have z7 := (HX7.out.below hC).cell_ 7 (v := .slice A4 m.g.os.length c4) rfl
   have z8 := (HX7.out.below hC).cell_ 8 (v := .int .i64 m.sp) rfl
   go_simp
   exact hK _ _ tA_same hC rfl
  | 2, ho =>
   cases ho
   simp only [fillA, Act.put, sA9, sB9, sC9] at hK ⊢
   have d0 := hd 1 ⟨⟨1, .data⟩, by simp, rfl, rfl⟩ (by decide)
   change x 79 = .agg #[.slice A1 m.t.bs.length c1, .slice A2 m.t.fs.length c2, .slice A3 m.c.ls.length c3, .int .i64 m.c.hand, .int .i64 m.g.count, .int .i64 m.g.next, .int .i64 m.g.round, .slice A4 m.g.os.length c4, .int .i64 m.sp] at d0
   simp only [d0] at hK ⊢
   go_wp2_with fail
   refine (toMachine_any _ _ _ _ m _ (HM.out.now (bT HB7.out hC)) (by omega) (by omega) (by omega) (by omega)).mono ?_
   rintro e v' ⟨_, rfl, f1, f2, f3, f4, rfl, hm1, hb⟩
   go_simp
   exact hK _ _ (tA_below (by decide) hb) (bT hC hb) ⟨_, _, _, _, rfl, hm1.mono hC.size⟩
  | 3, ho =>
   cases ho
   simp only [fillA, Act.put, sA9, sB9, sC9] at hK ⊢
   have d0 := hd 0 ⟨⟨0, .data⟩, by simp, rfl, rfl⟩ (by decide)
   change x 78 = .agg #[.slice F1 m.t.bs.length k1, .slice F2 m.t.fs.length k2, .slice F3 m.c.ls.length k3, .int .i64 m.c.hand, .int .i64 m.g.count, .int .i64 m.g.next, .int .i64 m.g.round, .slice F4 m.g.os.length k4, .int .i64 m.sp] at d0
   have d2 := hd 2 ⟨⟨2, .data⟩, by simp, rfl, rfl⟩ (by decide)
   obtain ⟨e1, e2, e3, e4, d2, hm1⟩ := d2
   change x 80 = _ at d2
   simp only [d0, d2] at hK ⊢
   go_wp2_with fail
   refine (eqMachine_same _ _ _ _ _ _ _ _ m _ (HM7.out.now hC).r hm1.r).mono ?_
   rintro e v' ⟨rfl, hb⟩
   go_simp
   exact hK _ _ (tA_below (by decide) hb) (bT hC hb) rfl
  | 4, ho =>
   cases ho
   simp only [fillA, Act.put, sA9, sB9, sC9] at hK ⊢
   have d3 := hd 3 ⟨⟨3, .data⟩, by simp, rfl, rfl⟩ (by decide)
   change x 81 = .bool true at d3
   simp only [d3] at hK ⊢
   go_simp
   exact hK _ _ tA_same hC rfl
  | _ + 5, ho => simp at ho
 intro xc w8 hC hd
 have dL := hd 4 (by decide)
 change xc 82 = .bool false at dL
 simp only [fillA, Act.put, sA9, sB9, sC9, dL]
 have HC10 := Hd (bT HC7.out hC)
 have HP10 := Hd (HP7.out.below hC)
 have HN10 := Hd (HN7.out.now hC)
 have HF10 := Hd (HC10.out)
 have HL10 := Hd (HL7.out.now hC)
 clear hd dL hC
 have x0 := (HO5.out.below HC10.out).cell_ 0 (v := .slice F1 m.t.bs.length k1) rfl
 have x1 := (HO5.out.below HC10.out).cell_ 1 (v := .slice F2 m.t.fs.length k2) rfl
 have x2 := (HO5.out.below HC10.out).cell_ 2 (v := .slice F3 m.c.ls.length k3) rfl
 have x3 := (HO5.out.below HC10.out).cell_ 3 (v := .int .i64 m.c.hand) rfl
 have x4 := (HO5.out.below HC10.out).cell_ 4 (v := .int .i64 m.g.count) rfl
 have x5 := (HO5.out.below HC10.out).cell_ 5 (v := .int .i64 m.g.next) rfl
 have x6 := (HO5.out.below HC10.out).cell_ 6 (v := .int .i64 m.g.round) rfl
 have x7 := (HO5.out.below HC10.out).cell_ 7 (v := .slice F4 m.g.os.length k4) rfl
 have x8 := (HO5.out.below HC10.out).cell_ 8 (v := .int .i64 m.sp) rfl
 go_wp2_with fail
 refine (markMachine_any w2.heap.size F1 F2 F3 F4 k1 k2 k3 k4 m _ 1 (I1.out.below HF10.out) (I2.out.below HF10.out) (I3.out.below HF10.out) (I4.out.below HF10.out) w5.heap.size (fun k hk => (I1.out.row k hk).2) (fun k hk => (I2.out.row k hk).2) (fun k hk => (I3.out.row k hk).2) (fun k hk => (I4.out.row k hk).2) (by omega) (by omega) (by omega) (by omega) (by omega) (by omega)).mono ?_
 rintro e w12 ⟨rfl, _, ht12, _⟩
 have HT12 := Hd ht12
 have HL4 : w2.heap.size ≤ w5.heap.size := Nat.le_trans HS3.out (Nat.le_of_lt HS4.out)
 clear ht12
 clear x0 x1 x2 x3 x4 x5 x6 x7 x8
 have HP12 := Hd (HP10.out.tch HT12.out (by omega))
 have HN12 := Hd (HN10.out.tch HT12.out (Nat.le_refl _))
 have HD12 := Hd (HT12.out.below (bT HD5.out HC10.out) (Nat.le_refl _))
 have HL12 := Hd (HL10.out.tch HT12.out (Nat.le_refl _))
 have hq1 : ¬ (1 + (m.t.bs.length : Int) + 5 * (m.t.fs.length : Int) + 6 * (m.c.ls.length : Int) + 2 * (m.g.os.length : Int)) < 0 := by omega
 obtain ⟨y0, y1, y2, y3, y4, y5, y6, y7, y8⟩ := cells9 (HP12.out)
 have z0 := (HOa.out.below HD12.out).cell_ 0 (v := .slice S1a V.t.bs.length r1a) rfl
 have z1 := (HOa.out.below HD12.out).cell_ 1 (v := .slice S2a V.t.fs.length r2a) rfl
 have z2 := (HOa.out.below HD12.out).cell_ 2 (v := .slice S3a V.c.ls.length r3a) rfl
 have z3 := (HOa.out.below HD12.out).cell_ 3 (v := .int .i64 V.c.hand) rfl
 have z4 := (HOa.out.below HD12.out).cell_ 4 (v := .int .i64 V.g.count) rfl
 have z5 := (HOa.out.below HD12.out).cell_ 5 (v := .int .i64 V.g.next) rfl
 have z6 := (HOa.out.below HD12.out).cell_ 6 (v := .int .i64 V.g.round) rfl
 have z7 := (HOa.out.below HD12.out).cell_ 7 (v := .slice S4a V.g.os.length r4a) rfl
 have z8 := (HOa.out.below HD12.out).cell_ 8 (v := .int .i64 V.sp) rfl
 go_wp2_with fail
 refine (eqMachine_same _ _ _ _ _ _ _ _ V _ HN12.out.r (HMMa.out.r.now HD12.out)).mono ?_
 rintro e w13a ⟨rfl, hb13a⟩
 go_wp2_with fail
 refine (eqIntS_same _ _ _ _ L _ (slm_rs2 (HL12.out.now hb13a)) (slm_rs2 (HLLa.out.now (bT HD12.out hb13a))) (by omega)).mono ?_
 rintro e w13 ⟨rfl, hb13b⟩
 have hb13 := bT hb13a hb13b
 have HL13 := Hd (HL12.out.now hb13)
 clear hb13a hb13b
 have HP13 := Hd (HP12.out.below hb13)
 have HN13 := Hd (HN12.out.now hb13)
 have HD13 := Hd (bT HD12.out hb13)
 obtain ⟨t1, t2, t3, t4⟩ := hV
 clear hb13
 clear y0 y1 y2 y3 y4 y5 y6 y7 y8
 clear z0 z1 z2 z3 z4 z5 z6 z7 z8
 obtain ⟨y0, y1, y2, y3, y4, y5, y6, y7, y8⟩ := cells9 (HP13.out)
 have L1 := Hd HN13.out.t.b.mine
 have L2 := Hd HN13.out.t.f.mine
 have L3 := Hd HN13.out.l.mine
 have L4 := Hd HN13.out.o.mine
 go_wp2_with fail
 refine (markMachine_i w5.heap.size G1 G2 G3 G4 j1 j2 j3 j4 V _ 1 L1.out L2.out L3.out L4.out w13.heap.size (fun k hk => (L1.out.row k hk).2) (fun k hk => (L2.out.row k hk).2) (fun k hk => (L3.out.row k hk).2) (fun k hk => (L4.out.row k hk).2) (by omega) (by omega) t1 t2 t3 t4).mono ?_
 rintro e w14a ⟨rfl, hmk, ht14, ho14, hk14⟩
 have HMKa := Hd hmk
 have HP14a := Hd (ho14.2 _ _ _ HP13.out (by decide))
 have HD14a := Hd (ht14.below HD13.out HD5.out.size)
 have hml : MineE intE 3 w5.heap.size w14a Azb L := by
  obtain ⟨_, _, e9, _, _, h9⟩ := HL13.out
  injection e9 with e9
  subst e9
  exact h9.ownk ht14.size (fun g cs o hr => hk14 g cs o (fun h8 => apart_rows HAPb.out g h8 hr))
 have HML := Hd hml
 clear hmk ht14 ho14 hk14 hml
 clear y0 y1 y2 y3 y4 y5 y6 y7 y8
 go_wp2_with fail
 refine (markIntS_any w5.heap.size Azb czb L.length L _ (1 + (V.t.bs.length : Int) + 5 * (V.t.fs.length : Int) + 6 * (V.c.ls.length : Int) + 2 * (V.g.os.length : Int)) HML.out rfl (by omega) (by omega) hL).mono ?_
 rintro e w14 ⟨rfl, hmkl, hgl, hol⟩
 have HMKL := Hd hmkl
 have HMK := Hd (HMKa.out.beside hgl hol (apart_rows HAPb.out))
 have HP14 := Hd ((oth_of hgl hol).2 _ _ _ HP14a.out (by decide))
 have HD14 := Hd ((Tch.grown (lo := w5.heap.size) (hi := w14a.heap.size) hgl (fun k hk => HML.out.row k hk)).below HD14a.out HD5.out.size)
 clear hmkl hgl hol
 obtain ⟨y0, y1, y2, y3, y4, y5, y6, y7, y8⟩ := cells9 (HP14.out)
 go_wp2_with fail
 refine (heldMachine_any G1 G2 G3 G4 j1 j2 j3 j4 V.t.bs.length V.t.fs.length V.c.ls.length V.g.os.length V.c.hand V.g.count V.g.next V.g.round V.sp _ 1 HMK.out (by omega) (by omega) t1 t2 t3 t4).mono ?_
 rintro e w15a ⟨rfl, hb15a⟩
 have hq2 : ¬ (1 + (V.t.bs.length : Int) + 5 * (V.t.fs.length : Int) + 6 * (V.c.ls.length : Int) + 2 * (V.g.os.length : Int)) < 0 := by omega
 have hq2b : ¬ ((1 + (V.t.bs.length : Int) + 5 * (V.t.fs.length : Int) + 6 * (V.c.ls.length : Int) + 2 * (V.g.os.length : Int)) + (L.length : Int)) < 0 := by omega
 go_wp2_with fail
 refine (heldIntS_any Azb L.length czb _ (1 + (V.t.bs.length : Int) + 5 * (V.t.fs.length : Int) + 6 * (V.c.ls.length : Int) + 2 * (V.g.os.length : Int)) (HMKL.out.now hb15a) (by omega) (by omega) hL).mono ?_
 rintro e w15 ⟨rfl, hb15b⟩
 have hb15 := bT hb15a hb15b
 have HML15 := Hd (HMKL.out.now hb15)
 clear hb15a hb15b HMKL
 have HP15 := Hd (HP14.out.below hb15)
 have HMK15 := Hd (HMK.out.now hb15)
 have HD15 := Hd (bT HD14.out hb15)
 have HB15 := Hd (bT HB2.out HD15.out)
 have HX15 := Hd (HX2.out.below HD15.out)
 have hq3 : ((1 + (V.t.bs.length : Int) + 5 * (V.t.fs.length : Int) + 6 * (V.c.ls.length : Int) + 2 * (V.g.os.length : Int)) + (L.length : Int) != (1 + (V.t.bs.length : Int) + 5 * (V.t.fs.length : Int) + 6 * (V.c.ls.length : Int) + 2 * (V.g.os.length : Int)) + (L.length : Int)) = false := by simp
 clear hb15 HMK
 clear y0 y1 y2 y3 y4 y5 y6 y7 y8
 obtain ⟨x0, x1, x2, x3, x4, x5, x6, x7, x8⟩ := cells9 (HX15.out)
 go_wp2_with fail
 refine (toMachine_any _ _ _ _ m _ (HM.out.now HB15.out) (by omega) (by omega) (by omega) (by omega)).mono ?_
 rintro e wp15 ⟨_, rfl, f1, f2, f3, f4, rfl, hmp, hbp⟩
 clear x0 x1 x2 x3 x4 x5 x6 x7 x8
 go_wp2_with fail
 refine (HIM.out _ _ _ _ _ hmp.r (HF.out.now (bT HB15.out hbp))).mono ?_
 rintro e w16q ⟨_, rfl, f1, f2, f3, f4, Azc, czc, rfl, hmq, hlq, hapc, hbq⟩
 have hlq2 := hlq.mono (show w15.heap.size ≤ wp15.heap.size by first | exact Nat.le_refl _ | exact hbp.size)
 have hmq2 := hmq.mono (show w15.heap.size ≤ wp15.heap.size by first | exact Nat.le_refl _ | exact hbp.size)
 obtain ⟨S1c, r1c, rfl, _⟩ := hmq.t.b
 obtain ⟨S2c, r2c, rfl, _⟩ := hmq.t.f
 obtain ⟨S3c, r3c, rfl, _⟩ := hmq.l
 obtain ⟨S4c, r4c, rfl, _⟩ := hmq.o
 have ho := Own.new_ w16q 48 #[.slice S1c V.t.bs.length r1c, .slice S2c V.t.fs.length r2c, .slice S3c V.c.ls.length r3c, .int .i64 V.c.hand, .int .i64 V.g.count, .int .i64 V.g.next, .int .i64 V.g.round, .slice S4c V.g.os.length r4c, .int .i64 V.sp]
 have hbz : Below w16q.heap.size w16q (w16q.alloc (.cells #[.slice S1c V.t.bs.length r1c, .slice S2c V.t.fs.length r2c, .slice S3c V.c.ls.length r3c, .int .i64 V.c.hand, .int .i64 V.g.count, .int .i64 V.g.next, .int .i64 V.g.round, .slice S4c V.g.os.length r4c, .int .i64 V.sp] 48)) := bA bR
 generalize hWzc : w16q.alloc (.cells #[.slice S1c V.t.bs.length r1c, .slice S2c V.t.fs.length r2c, .slice S3c V.c.ls.length r3c, .int .i64 V.c.hand, .int .i64 V.g.count, .int .i64 V.g.next, .int .i64 V.g.round, .slice S4c V.g.os.length r4c, .int .i64 V.sp] 48) = w16 at ho hbz
 have HOc := Hd ho
 have HMMc := Hd (hmq2.now hbz)
 have HLLc := Hd (hlq2.now hbz)
 have HAPc := Hd hapc
 clear hapc
 have HCc : Hid (Below w15.heap.size w15 w16) := by first | exact bT (bT hbp hbq) hbz | exact bT hbq hbz
 have hgzc : w15.heap.size ≤ w16q.heap.size := by first | exact (bT hbp hbq).size | exact hbq.size
 clear hmq hbq hmq2 hlq hlq2 ho hbz
 try clear hbp hmp
 have HD16 := Hd (bT HD15.out HCc.out)
 obtain ⟨y0, y1, y2, y3, y4, y5, y6, y7, y8⟩ := cells9 (HOc.out)
 have z0 := (HOa.out.below HD16.out).cell_ 0 (v := .slice S1a V.t.bs.length r1a) rfl
 have z1 := (HOa.out.below HD16.out).cell_ 1 (v := .slice S2a V.t.fs.length r2a) rfl
 have z2 := (HOa.out.below HD16.out).cell_ 2 (v := .slice S3a V.c.ls.length r3a) rfl
 have z3 := (HOa.out.below HD16.out).cell_ 3 (v := .int .i64 V.c.hand) rfl
 have z4 := (HOa.out.below HD16.out).cell_ 4 (v := .int .i64 V.g.count) rfl
 have z5 := (HOa.out.below HD16.out).cell_ 5 (v := .int .i64 V.g.next) rfl
 have z6 := (HOa.out.below HD16.out).cell_ 6 (v := .int .i64 V.g.round) rfl
 have z7 := (HOa.out.below HD16.out).cell_ 7 (v := .slice S4a V.g.os.length r4a) rfl
 have z8 := (HOa.out.below HD16.out).cell_ 8 (v := .int .i64 V.sp) rfl
 go_wp2_with fail
 refine (eqMachine_same _ _ _ _ _ _ _ _ V _ HMMc.out.r (HMMa.out.r.now HD16.out)).mono ?_
 rintro e w17a ⟨rfl, hb17a⟩
 go_wp2_with fail
 refine (eqIntS_same _ _ _ _ L _ (slm_rs2 (HLLc.out.now hb17a)) (slm_rs2 (HLLa.out.now (bT HD16.out hb17a))) (by omega)).mono ?_
 rintro e w17 ⟨rfl, hb17b⟩
 have hb17 := bT hb17a hb17b
 clear hb17a hb17b
 have HC17 := Hd (bT HCc.out hb17)
 have HD17 := Hd (bT HD16.out hb17)
 clear hb17
 clear y0 y1 y2 y3 y4 y5 y6 y7 y8
 clear z0 z1 z2 z3 z4 z5 z6 z7 z8
 have y0 := (HP15.out.below HC17.out).cell_ 0 (v := .slice G1 V.t.bs.length j1) rfl
 have y1 := (HP15.out.below HC17.out).cell_ 1 (v := .slice G2 V.t.fs.length j2) rfl
 have y2 := (HP15.out.below HC17.out).cell_ 2 (v := .slice G3 V.c.ls.length j3) rfl
 have y3 := (HP15.out.below HC17.out).cell_ 3 (v := .int .i64 V.c.hand) rfl
 have y4 := (HP15.out.below HC17.out).cell_ 4 (v := .int .i64 V.g.count) rfl
 have y5 := (HP15.out.below HC17.out).cell_ 5 (v := .int .i64 V.g.next) rfl
 have y6 := (HP15.out.below HC17.out).cell_ 6 (v := .int .i64 V.g.round) rfl
 have y7 := (HP15.out.below HC17.out).cell_ 7 (v := .slice G4 V.g.os.length j4) rfl
 have y8 := (HP15.out.below HC17.out).cell_ 8 (v := .int .i64 V.sp) rfl
 go_wp2_with fail
 refine (heldMachine_any G1 G2 G3 G4 j1 j2 j3 j4 V.t.bs.length V.t.fs.length V.c.ls.length V.g.os.length V.c.hand V.g.count V.g.next V.g.round V.sp _ 1 (HMK15.out.now HC17.out) (by omega) (by omega) t1 t2 t3 t4).mono ?_
 rintro e w18a ⟨rfl, hb18a⟩
 go_wp2_with fail
 refine (heldIntS_any Azb L.length czb _ (1 + (V.t.bs.length : Int) + 5 * (V.t.fs.length : Int) + 6 * (V.c.ls.length : Int) + 2 * (V.g.os.length : Int)) (HML15.out.now (bT HC17.out hb18a)) (by omega) (by omega) hL).mono ?_
 rintro e w18 ⟨rfl, hb18b⟩
 have hb18 := bT hb18a hb18b
 clear hb18a hb18b
 have HB18 := Hd (bT HB2.out (bT HD17.out hb18))
 clear hb18
 go_wp2
 go_ret
 exact ⟨rfl, HB18.out⟩
end Go.Proofs.YtibpnlojlfcpmaaGreatDoor.lExactTouchBytes
