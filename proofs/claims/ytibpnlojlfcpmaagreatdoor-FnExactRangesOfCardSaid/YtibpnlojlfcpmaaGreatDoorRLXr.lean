/- A part of the proofs of this seat: LXr. -/
import Derived.Below
import Derived.Deep.RegionHeldLaw
import Derived.Deep.LoopGhost
import Derived.Test.YtibpnlojlfcpmaaGreatDoorRLXrD
set_option linter.unusedVariables false
set_option linter.unusedSimpArgs false
set_option maxRecDepth 1000000
namespace Go.Proofs.YtibpnlojlfcpmaaGreatDoor.lExactRangesOf
open Go.RowKit
set_option maxHeartbeats 4000000 in
theorem walk0 (vb vf vl vo : Value) (m : Ma) (a0 : Int) (L : List Rng) (X1 : Bool) (w : World) (hM : MaR w vb vf vl vo m) (hfree : Free w) (hL : L.length ≤ 1000)
  (hS : ∀ (e1 e2 e3 e4 : Value) (W : World), MaR W e1 e2 e3 e4 m → Calls Tryz.prog 14 #[.agg #[e1, e2, e3, .int .i64 m.c.hand, .int .i64 m.g.count, .int .i64 m.g.next, .int .i64 m.g.round, e4, .int .i64 m.sp], .int .i64 a0] W (Post2 fun v w' => ∃ pl, v = .tuple #[pl, .bool X1] ∧ RgR W.heap.size w' pl L ∧ Below W.heap.size W w'))
  (hI : ∀ (e1 e2 e3 e4 : Value) (W : World), MaR W e1 e2 e3 e4 m → Free W → Calls Tryz.prog 16 #[.agg #[e1, e2, e3, .int .i64 m.c.hand, .int .i64 m.g.count, .int .i64 m.g.next, .int .i64 m.g.round, e4, .int .i64 m.sp], .int .i64 a0] W (Post2 fun v w' => ∃ pl, v = .tuple #[pl, .bool X1] ∧ RgR W.heap.size w' pl L ∧ Below W.heap.size W w')) :
  Calls Tryz.prog 3 #[.agg #[vb, vf, vl, .int .i64 m.c.hand, .int .i64 m.g.count, .int .i64 m.g.next, .int .i64 m.g.round, vo, .int .i64 m.sp], .int .i64 a0] w fun e w' => e = .returned (.bool true) ∧ Below w.heap.size w w' := by
 obtain ⟨A1, c1, rfl, l1, l1', q1⟩ := hM.t.b
 obtain ⟨A2, c2, rfl, l2, l2', q2⟩ := hM.t.f
 obtain ⟨A3, c3, rfl, l3, l3', q3⟩ := hM.l
 obtain ⟨A4, c4, rfl, l4, l4', q4⟩ := hM.o
 have n1 : m.t.bs.length ≤ 9223372036854775807 := by simp only [maxLen] at l1'; omega
 have n2 : m.t.fs.length ≤ 9223372036854775807 := by simp only [maxLen] at l2'; omega
 have n3 : m.c.ls.length ≤ 9223372036854775807 := by simp only [maxLen] at l3'; omega
 have n4 : m.g.os.length ≤ 9223372036854775807 := by simp only [maxLen] at l4'; omega
 have HM := Hd hM
 have HF := Hd hfree
 have HSP := Hd hS
 have HIM := Hd hI
 clear hM hfree hS hI l1 l1' q1 l2 l2' q2 l3 l3' q3 l4 l4' q4
 have hx := Own.new_ w 33 #[.slice A1 m.t.bs.length c1, .slice A2 m.t.fs.length c2, .slice A3 m.c.ls.length c3, .int .i64 m.c.hand, .int .i64 m.g.count, .int .i64 m.g.next, .int .i64 m.g.round, .slice A4 m.g.os.length c4, .int .i64 m.sp]
 have hb0 : Below w.heap.size w (w.alloc (.cells #[.slice A1 m.t.bs.length c1, .slice A2 m.t.fs.length c2, .slice A3 m.c.ls.length c3, .int .i64 m.c.hand, .int .i64 m.g.count, .int .i64 m.g.next, .int .i64 m.g.round, .slice A4 m.g.os.length c4, .int .i64 m.sp] 33)) := bA bR
 generalize hW0 : w.alloc (.cells #[.slice A1 m.t.bs.length c1, .slice A2 m.t.fs.length c2, .slice A3 m.c.ls.length c3, .int .i64 m.c.hand, .int .i64 m.g.count, .int .i64 m.g.next, .int .i64 m.g.round, .slice A4 m.g.os.length c4, .int .i64 m.sp] 33) = W0 at hx hb0
 have HX0 := Hd hx
 have HB0 := Hd hb0
 clear hx hb0
 obtain ⟨x0, x1, x2, x3, x4, x5, x6, x7, x8⟩ := cells9 (HX0.out)
 by_cases hsz : (1048576 : Int) < (m.t.bs.length : Int) + m.t.fs.length + m.c.ls.length + m.g.os.length
 ·have HS : Hid (szOf m.t.bs.length m.t.fs.length m.c.ls.length m.g.os.length = -1) := if_pos hsz
  go_enter Tryz.func3, Tryz.ntmps3
  go_wp2_with fail
  refine (szMachine_any _ _ _ _ _ _ _ _ _ _ _ _ _ _ _ _ _ _ n1 n2 n3 n4).mono ?_
  rintro e w1 ⟨rfl, hb1⟩
  rw [HS.out]
  have HB1 := Hd (bT HB0.out hb1)
  clear hb1
  go_wp2
  go_ret
  exact ⟨rfl, HB1.out⟩
 have HS : Hid (szOf m.t.bs.length m.t.fs.length m.c.ls.length m.g.os.length = 1048576 - m.t.bs.length - m.t.fs.length - m.c.ls.length - m.g.os.length) := if_neg hsz
 have hnn : ¬ (1048576 : Int) - m.t.bs.length - m.t.fs.length - m.c.ls.length - m.g.os.length < 0 := by omega
 go_enter Tryz.func3, Tryz.ntmps3
 go_wp2_with fail
 refine (szMachine_any _ _ _ _ _ _ _ _ _ _ _ _ _ _ _ _ _ _ n1 n2 n3 n4).mono ?_
 rintro e w1 ⟨rfl, hb1⟩
 rw [HS.out]
 have HB1 := Hd (bT HB0.out hb1)
 have HX1 := Hd (HX0.out.below hb1)
 clear hb1 x0 x1 x2 x3 x4 x5 x6 x7 x8
 obtain ⟨x0, x1, x2, x3, x4, x5, x6, x7, x8⟩ := cells9 (HX1.out)
 go_wp2_with fail
 refine (toMachine_any _ _ _ _ m _ (HM.out.now HB1.out) (by omega) (by omega) (by omega) (by omega)).mono ?_
 rintro e wp1 ⟨_, rfl, f1, f2, f3, f4, rfl, hmp, hbp⟩
 clear x0 x1 x2 x3 x4 x5 x6 x7 x8
 go_wp2_with fail
 refine (HSP.out _ _ _ _ _ hmp.r).mono ?_
 rintro e w2 ⟨_, rfl, pla, rfl, hra, hba⟩
 obtain ⟨_, Aa, ca, rfl, _⟩ := id hra
 have HRa := Hd hra
 have HCa := Hd (bT hbp hba)
 have HB2 := Hd (bT HB1.out HCa.out)
 have HX2 := Hd (HX1.out.below HCa.out)
 clear hmp hbp hra hba HX1
 obtain ⟨x0, x1, x2, x3, x4, x5, x6, x7, x8⟩ := cells9 (HX2.out)
 go_wp2_with fail
 refine (toMachine_any _ _ _ _ m _ (HM.out.now HB2.out) (by omega) (by omega) (by omega) (by omega)).mono ?_
 rintro e w3 ⟨_, rfl, f1, f2, f3, f4, rfl, hm3, hb3⟩
 obtain ⟨F1, k1, rfl, _⟩ := hm3.t.b
 obtain ⟨F2, k2, rfl, _⟩ := hm3.t.f
 obtain ⟨F3, k3, rfl, _⟩ := hm3.l
 obtain ⟨F4, k4, rfl, _⟩ := hm3.o
 clear x0 x1 x2 x3 x4 x5 x6 x7 x8
 have ho4 := Own.new_ w3 48 #[.slice F1 m.t.bs.length k1, .slice F2 m.t.fs.length k2, .slice F3 m.c.ls.length k3, .int .i64 m.c.hand, .int .i64 m.g.count, .int .i64 m.g.next, .int .i64 m.g.round, .slice F4 m.g.os.length k4, .int .i64 m.sp]
 have hm4 := hm3.now (w' := w3.alloc (.cells #[.slice F1 m.t.bs.length k1, .slice F2 m.t.fs.length k2, .slice F3 m.c.ls.length k3, .int .i64 m.c.hand, .int .i64 m.g.count, .int .i64 m.g.next, .int .i64 m.g.round, .slice F4 m.g.os.length k4, .int .i64 m.sp] 48)) (bA bR)
 have hb4 : Below w2.heap.size w2 (w3.alloc (.cells #[.slice F1 m.t.bs.length k1, .slice F2 m.t.fs.length k2, .slice F3 m.c.ls.length k3, .int .i64 m.c.hand, .int .i64 m.g.count, .int .i64 m.g.next, .int .i64 m.g.round, .slice F4 m.g.os.length k4, .int .i64 m.sp] 48)) := bA hb3
 have hs4 : w3.heap.size < (w3.alloc (.cells #[.slice F1 m.t.bs.length k1, .slice F2 m.t.fs.length k2, .slice F3 m.c.ls.length k3, .int .i64 m.c.hand, .int .i64 m.g.count, .int .i64 m.g.next, .int .i64 m.g.round, .slice F4 m.g.os.length k4, .int .i64 m.sp] 48)).heap.size := by simp
 have hc3 := hb3.size
 generalize hW4 : w3.alloc (.cells #[.slice F1 m.t.bs.length k1, .slice F2 m.t.fs.length k2, .slice F3 m.c.ls.length k3, .int .i64 m.c.hand, .int .i64 m.g.count, .int .i64 m.g.next, .int .i64 m.g.round, .slice F4 m.g.os.length k4, .int .i64 m.sp] 48) = w5 at ho4 hm4 hb4 hs4
 have HO5 := Hd ho4
 have HM5 := Hd hm4
 have HD5 := Hd hb4
 have HS4 := Hd hs4
 have HS3 := Hd hc3
 have HB5 := Hd (bT HB2.out hb4)
 have I1 := Hd hm4.t.b.mine
 have I2 := Hd hm4.t.f.mine
 have I3 := Hd hm4.l.mine
 have I4 := Hd hm4.o.mine
 clear ho4 hm4 hb4 hs4 hm3 hb3 hc3
 obtain ⟨x0, x1, x2, x3, x4, x5, x6, x7, x8⟩ := cells9 (HO5.out)
 go_wp2_with fail
 refine (HIM.out _ _ _ _ _ HM5.out.r (HF.out.now HB5.out)).mono ?_
 rintro e w6 ⟨_, rfl, plb, rfl, hrb, hbb⟩
 obtain ⟨_, Ab, cb, rfl, _⟩ := id hrb
 have HRb := Hd hrb
 have HCb := Hd hbb
 have HD6 := Hd (bT HD5.out HCb.out)
 have hqo1 := xne X1
 clear hrb hbb
 clear x0 x1 x2 x3 x4 x5 x6 x7 x8
 go_wp2_with fail
 refine (eqIntSS_rs _ _ _ _ _ _ _ L w6 HRb.out (HRa.out.now HD6.out)).mono ?_
 rintro e w7 ⟨rfl, hb7⟩
 have HC7 := Hd (bT HCb.out hb7)
 have HD7 := Hd (bT HD5.out HC7.out)
 have HX7 := Hd (HX2.out.below HD7.out)
 have HO7 := Hd (HO5.out.below HC7.out)
 have HB7 := Hd (bT HB2.out HD7.out)
 have HM7 := Hd (HM5.out.now HC7.out)
 have HR7 := Hd (HRb.out.now hb7)
 clear hb7
 go_wp2_with fail
 refine wp_region_rel1 (by kernel_rfl) [45, 46, 47, 48, 49] [45, 46, 47, 48, 49] (fun v => Below w7.heap.size w7 v)
  (rls w7.heap.size 99 [RL.eq (.agg #[.slice F1 m.t.bs.length k1, .slice F2 m.t.fs.length k2, .slice F3 m.c.ls.length k3, .int .i64 m.c.hand, .int .i64 m.g.count, .int .i64 m.g.next, .int .i64 m.g.round, .slice F4 m.g.os.length k4, .int .i64 m.sp]), RL.eq (.agg #[.slice A1 m.t.bs.length c1, .slice A2 m.t.fs.length c2, .slice A3 m.c.ls.length c3, .int .i64 m.c.hand, .int .i64 m.g.count, .int .i64 m.g.next, .int .i64 m.g.round, .slice A4 m.g.os.length c4, .int .i64 m.sp]), RL.ma m, RL.eq (.bool true), RL.eq (.bool false)]) (tA 99) (by kernel_rfl) rfl (bD bR)
  (fun i j x v v' hij h ht => rls_keep hij h ht) ?_ ?_
 ·intro i o ho x v hC hd K hK
  match i, ho with
  | 0, ho =>
   cases ho
   simp only [fillA, Act.put, sA9, sB9, sC9] at hK ⊢
   have z0 := (HO7.out.below hC).cell_ 0 (v := .slice F1 m.t.bs.length k1) rfl
   have z1 := (HO7.out.below hC).cell_ 1 (v := .slice F2 m.t.fs.length k2) rfl
   have z2 := (HO7.out.below hC).cell_ 2 (v := .slice F3 m.c.ls.length k3) rfl
   have z3 := (HO7.out.below hC).cell_ 3 (v := .int .i64 m.c.hand) rfl
   have z4 := (HO7.out.below hC).cell_ 4 (v := .int .i64 m.g.count) rfl
   have z5 := (HO7.out.below hC).cell_ 5 (v := .int .i64 m.g.next) rfl
   have z6 := (HO7.out.below hC).cell_ 6 (v := .int .i64 m.g.round) rfl
   have z7 := (HO7.out.below hC).cell_ 7 (v := .slice F4 m.g.os.length k4) rfl
   have z8 := (HO7.out.below hC).cell_ 8 (v := .int .i64 m.sp) rfl
   go_simp
   exact hK _ _ tA_same hC rfl
  | 1, ho =>
   cases ho
   simp only [fillA, Act.put, sA9, sB9, sC9] at hK ⊢
   have z0 := (HX7.out.below hC).cell_ 0 (v := .slice A1 m.t.bs.length c1) rfl
   have z1 := (HX7.out.below hC).cell_ 1 (v := .slice A2 m.t.fs.length c2) rfl
   have z2 := (HX7.out.below hC).cell_ 2 (v := .slice A3 m.c.ls.length c3) rfl
   have z3 := (HX7.out.below hC).cell_ 3 (v := .int .i64 m.c.hand) rfl
   have z4 := (HX7.out.below hC).cell_ 4 (v := .int .i64 m.g.count) rfl
   have z5 := (HX7.out.below hC).cell_ 5 (v := .int .i64 m.g.next) rfl
   have z6 := (HX7.out.below hC).cell_ 6 (v := .int .i64 m.g.round) rfl
   have z7 := (HX7.out.below hC).cell_ 7 (v := .slice A4 m.g.os.length c4) rfl
   have z8 := (HX7.out.below hC).cell_ 8 (v := .int .i64 m.sp) rfl
   go_simp
   exact hK _ _ tA_same hC rfl
  | 2, ho =>
   cases ho
   simp only [fillA, Act.put, sA9, sB9, sC9] at hK ⊢
   have d0 := hd 1 ⟨⟨1, .data⟩, by simp, rfl, rfl⟩ (by decide)
   change x 46 = .agg #[.slice A1 m.t.bs.length c1, .slice A2 m.t.fs.length c2, .slice A3 m.c.ls.length c3, .int .i64 m.c.hand, .int .i64 m.g.count, .int .i64 m.g.next, .int .i64 m.g.round, .slice A4 m.g.os.length c4, .int .i64 m.sp] at d0
   simp only [d0] at hK ⊢
   go_wp2_with fail
   refine (toMachine_any _ _ _ _ m _ (HM.out.now (bT HB7.out hC)) (by omega) (by omega) (by omega) (by omega)).mono ?_
   rintro e v' ⟨_, rfl, f1, f2, f3, f4, rfl, hm1, hb⟩
   go_simp
   exact hK _ _ (tA_below (by decide) hb) (bT hC hb) ⟨_, _, _, _, rfl, hm1.mono hC.size⟩
  | 3, ho =>
   cases ho
   simp only [fillA, Act.put, sA9, sB9, sC9] at hK ⊢
   have d0 := hd 0 ⟨⟨0, .data⟩, by simp, rfl, rfl⟩ (by decide)
   change x 45 = .agg #[.slice F1 m.t.bs.length k1, .slice F2 m.t.fs.length k2, .slice F3 m.c.ls.length k3, .int .i64 m.c.hand, .int .i64 m.g.count, .int .i64 m.g.next, .int .i64 m.g.round, .slice F4 m.g.os.length k4, .int .i64 m.sp] at d0
   have d2 := hd 2 ⟨⟨2, .data⟩, by simp, rfl, rfl⟩ (by decide)
   obtain ⟨e1, e2, e3, e4, d2, hm1⟩ := d2
   change x 47 = _ at d2
   simp only [d0, d2] at hK ⊢
   go_wp2_with fail
   refine (eqMachine_same _ _ _ _ _ _ _ _ m _ (HM7.out.now hC).r hm1.r).mono ?_
   rintro e v' ⟨rfl, hb⟩
   go_simp
   exact hK _ _ (tA_below (by decide) hb) (bT hC hb) rfl
  | 4, ho =>
   cases ho
   simp only [fillA, Act.put, sA9, sB9, sC9] at hK ⊢
   have d3 := hd 3 ⟨⟨3, .data⟩, by simp, rfl, rfl⟩ (by decide)
   change x 48 = .bool true at d3
   simp only [d3] at hK ⊢
   go_simp
   exact hK _ _ tA_same hC rfl
  | _ + 5, ho => simp at ho
 intro xc w8 hC hd
 have dL := hd 4 (by decide)
 change xc 49 = .bool false at dL
 simp only [fillA, Act.put, sA9, sB9, sC9, dL]
 have HC10 := Hd (bT HC7.out hC)
 have HF10 := Hd (HC10.out)
 have HR10 := Hd (HR7.out.now hC)
 clear hd dL hC
 have x0 := (HO5.out.below HC10.out).cell_ 0 (v := .slice F1 m.t.bs.length k1) rfl
 have x1 := (HO5.out.below HC10.out).cell_ 1 (v := .slice F2 m.t.fs.length k2) rfl
 have x2 := (HO5.out.below HC10.out).cell_ 2 (v := .slice F3 m.c.ls.length k3) rfl
 have x3 := (HO5.out.below HC10.out).cell_ 3 (v := .int .i64 m.c.hand) rfl
 have x4 := (HO5.out.below HC10.out).cell_ 4 (v := .int .i64 m.g.count) rfl
 have x5 := (HO5.out.below HC10.out).cell_ 5 (v := .int .i64 m.g.next) rfl
 have x6 := (HO5.out.below HC10.out).cell_ 6 (v := .int .i64 m.g.round) rfl
 have x7 := (HO5.out.below HC10.out).cell_ 7 (v := .slice F4 m.g.os.length k4) rfl
 have x8 := (HO5.out.below HC10.out).cell_ 8 (v := .int .i64 m.sp) rfl
 go_wp2_with fail
 refine (markMachine_any w2.heap.size F1 F2 F3 F4 k1 k2 k3 k4 m _ 1 (I1.out.below HF10.out) (I2.out.below HF10.out) (I3.out.below HF10.out) (I4.out.below HF10.out) w5.heap.size (fun k hk => (I1.out.row k hk).2) (fun k hk => (I2.out.row k hk).2) (fun k hk => (I3.out.row k hk).2) (fun k hk => (I4.out.row k hk).2) (by omega) (by omega) (by omega) (by omega) (by omega) (by omega)).mono ?_
 rintro e w12 ⟨rfl, _, ht12, _⟩
 have HT12 := Hd ht12
 have HL4 : w2.heap.size ≤ w5.heap.size := Nat.le_trans HS3.out (Nat.le_of_lt HS4.out)
 clear ht12
 clear x0 x1 x2 x3 x4 x5 x6 x7 x8
 have HD12 := Hd (HT12.out.below (bT HD5.out HC10.out) (Nat.le_refl _))
 have HR12 := Hd (HR10.out.tch HT12.out (Nat.le_refl _))
 have hq1 : ¬ (1 + (m.t.bs.length : Int) + 5 * (m.t.fs.length : Int) + 6 * (m.c.ls.length : Int) + 2 * (m.g.os.length : Int)) < 0 := by omega
 go_wp2_with fail
 refine (eqIntSS_rs _ _ _ _ _ _ _ L _ HR12.out (HRa.out.now HD12.out)).mono ?_
 rintro e w13 ⟨rfl, hb13⟩
 have HD13 := Hd (bT HD12.out hb13)
 have HR13 := Hd (HR12.out.now hb13)
 obtain ⟨gs, A2', c2', e8, ⟨A3', c3', e9, _, _, hmine⟩, hgs⟩ := id HR13.out
 injection e9 with e9 e10 e11
 subst e9
 clear e10 e11
 have HMI := Hd hmine
 have HGS := Hd hgs
 clear hb13 e8 hmine hgs
 go_wp2_with fail
 refine (markIntSS_any w5.heap.size L.length cb Ab gs L _ 1 rfl HMI.out HGS.out (by omega) (by omega) hL).mono ?_
 rintro e w14 ⟨rfl, hss, htt, _⟩
 have HSS := Hd hss
 have HD14 := Hd (htt.below HD13.out HD5.out.size)
 clear hss htt
 go_wp2_with fail
 refine (heldIntSS_any w5.heap.size L.length cb Ab gs L _ 1 HGS.out.len HSS.out (by omega) (by omega) hL).mono ?_
 rintro e w15 ⟨rfl, hb15⟩
 have HSS15 := Hd (HSS.out.now hb15)
 have HD15 := Hd (bT HD14.out hb15)
 have HB15 := Hd (bT HB2.out HD15.out)
 have HX15 := Hd (HX2.out.below HD15.out)
 have hq2 : ¬ (1 + 3 * (L.length : Int)) < 0 := by omega
 have hq3 : ((1 + 3 * (L.length : Int)) != (1 + 3 * (L.length : Int))) = false := by simp
 clear hb15
 obtain ⟨x0, x1, x2, x3, x4, x5, x6, x7, x8⟩ := cells9 (HX15.out)
 go_wp2_with fail
 refine (toMachine_any _ _ _ _ m _ (HM.out.now HB15.out) (by omega) (by omega) (by omega) (by omega)).mono ?_
 rintro e wp15 ⟨_, rfl, f1, f2, f3, f4, rfl, hmp, hbp⟩
 clear x0 x1 x2 x3 x4 x5 x6 x7 x8
 go_wp2_with fail
 refine (HIM.out _ _ _ _ _ hmp.r (HF.out.now (bT HB15.out hbp))).mono ?_
 rintro e w16 ⟨_, rfl, plc, rfl, hrc, hbc⟩
 obtain ⟨_, Ac, cc, rfl, _⟩ := id hrc
 have HRc := Hd hrc
 have HC16 := Hd (bT hbp hbc)
 have HD16 := Hd (bT HD15.out HC16.out)
 clear hmp hbp hrc hbc
 go_wp2_with fail
 refine (eqIntSS_rs _ _ _ _ _ _ _ L _ HRc.out (HRa.out.now HD16.out)).mono ?_
 rintro e w17 ⟨rfl, hb17⟩
 have HC17 := Hd (bT HC16.out hb17)
 have HD17 := Hd (bT HD16.out hb17)
 clear hb17
 go_wp2_with fail
 refine (heldIntSS_any w5.heap.size L.length cb Ab gs L _ 1 HGS.out.len (HSS15.out.now HC17.out) (by omega) (by omega) hL).mono ?_
 rintro e w18 ⟨rfl, hb18⟩
 have HB18 := Hd (bT HB2.out (bT HD17.out hb18))
 clear hb18
 go_wp2
 go_ret
 exact ⟨rfl, HB18.out⟩
end Go.Proofs.YtibpnlojlfcpmaaGreatDoor.lExactRangesOf
