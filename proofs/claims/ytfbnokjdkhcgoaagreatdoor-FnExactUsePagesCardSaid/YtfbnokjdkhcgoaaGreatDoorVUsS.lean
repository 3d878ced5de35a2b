/- A part of the proofs of this seat: LXvE, UsS. -/
import Derived.ChangeSame
import Derived.Test.YtfbnokjdkhcgoaaGreatDoorVLUsW
import Derived.Test.YtfbnokjdkhcgoaaGreatDoorVUsI
import Derived.Test.YtfbnokjdkhcgoaaGreatDoorVUpS
set_option linter.unusedVariables false
set_option linter.unusedSimpArgs false
set_option maxRecDepth 1000000
namespace Go.Proofs.YtfbnokjdkhcgoaaGreatDoor
open Go.RowKit
set_option maxHeartbeats 8000000 in
theorem sUsePages_any (vb vf vl vo vk : Value) (M : Me) (A : Option Addr) (cp : Nat) (ps : List Int) (w : World) (hM : MeR w vb vf vl vo vk M) (hps : Rs intE w.heap.size w A ps) (hpl : ps.length ≤ 9223372036854775807) :
  Calls Tryz.prog 22 #[.agg #[vb, vf, vl, .int .i64 M.m.c.hand, .int .i64 M.m.g.count, .int .i64 M.m.g.next, .int .i64 M.m.g.round, vo, .int .i64 M.m.sp, vk, .int .i64 M.h], .slice A ps.length cp] w (Post2 fun v w' => ∃ v1 v2 v3 v4 v5 pl, v = .tuple #[.agg #[v1, v2, v3, .int .i64 (usV M ps).m.c.hand, .int .i64 (usV M ps).m.g.count, .int .i64 (usV M ps).m.g.next, .int .i64 (usV M ps).m.g.round, v4, .int .i64 (usV M ps).m.sp, v5, .int .i64 (usV M ps).h], pl, .bool (usO M ps)] ∧ MeM w.heap.size w' v1 v2 v3 v4 v5 (usV M ps) ∧ SlM intE 3 w.heap.size w' pl (usC M ps) ∧ Apart v1 pl ∧ Below w.heap.size w w') := by
 have HM := Hd hM
 have HPS := Hd hps
 clear hM hps
 obtain ⟨W0, hW, hbx, hbo, hb0, hs0⟩ := box2 w #[vb, vf, vl, .int .i64 M.m.c.hand, .int .i64 M.m.g.count, .int .i64 M.m.g.next, .int .i64 M.m.g.round, vo, .int .i64 M.m.sp, vk, .int .i64 M.h] 37 #[.slice none 0 0, .slice none 0 0, .slice none 0 0, .int .i64 0, .int .i64 0, .int .i64 0, .int .i64 0, .slice none 0 0, .int .i64 0, .slice none 0 0, .int .i64 0] 37
 have HX0 := Hd hbx
 have HO0 := Hd hbo
 have HB0 := Hd hb0
 clear hbx hbo hb0
 obtain ⟨q0a, q1a, q2a, q3a, q4a, q5a, q6a, q7a, q8a, q9a, q10a⟩ := c11 HX0.out
 go_enter Tryz.func22, Tryz.ntmps22
 go_wp2_with fail
 refine (sMemoryValid_any vb vf vl vo vk M _ (HM.out.now HB0.out)).mono ?_
 rintro e w1 ⟨rfl, hb1⟩
 clear q0a q1a q2a q3a q4a q5a q6a q7a q8a q9a q10a
 have HX1 := Hd (HX0.out.below hb1)
 have HO1 := Hd (HO0.out.below hb1)
 have HB1 := Hd (bT HB0.out hb1)
 have hs1 : w.heap.size + 2 ≤ w1.heap.size := by have := hb1.size; omega
 clear hb1 HX0 HO0 HB0 hW
 cases h1 : mev M with
 | false =>
  have HA : Hid (usA M ps = none) := usA_v h1
  have HV := Hd (usA_no HA.out)
  obtain ⟨q0x, q1x, q2x, q3x, q4x, q5x, q6x, q7x, q8x, q9x, q10x⟩ := c11 HO1.out
  obtain ⟨z0x, z1x, z2x, z3x, z4x, z5x, z6x, z7x, z8x, z9x, z10x⟩ := f11 HO1.out
  have hlr := HO1.out.lt
  go_wp2
  obtain ⟨_, rfl, hoz, _, hsz, _, hbz⟩ := put11 HO1.out (.slice none 0 0) (.slice none 0 0) (.slice none 0 0) (.int .i64 0) (.int .i64 0) (.int .i64 0) (.int .i64 0) (.slice none 0 0) (.int .i64 0) (.slice none 0 0) (.int .i64 0)
  have hoz2 := hoz.alloc (o := .cells #[] 3)
  obtain ⟨q0t, q1t, q2t, q3t, q4t, q5t, q6t, q7t, q8t, q9t, q10t⟩ := c11 hoz2
  refine bodyPost_ret (v := .tuple #[.agg #[.slice none 0 0, .slice none 0 0, .slice none 0 0, .int .i64 0, .int .i64 0, .int .i64 0, .int .i64 0, .slice none 0 0, .int .i64 0, .slice none 0 0, .int .i64 0], .slice (some ⟨w1.heap.size, 0, none⟩) 0 0, .bool false]) (by simp [results, Tryz.results22, go_sem, q0t, q1t, q2t, q3t, q4t, q5t, q6t, q7t, q8t, q9t, q10t]) rfl ⟨_, rfl, _, _, _, _, _, .slice (some ⟨w1.heap.size, 0, none⟩) 0 0, by rw [HV.out.1, HV.out.2.1]; rfl, by rw [HV.out.2.1]; exact mem_z, by rw [HV.out.2.2]; exact ⟨_, 0, rfl, Nat.le_refl _, by simp [maxLen], MineE.nil_ _⟩, (fun _ _ _ e => by cases e), bA (hbz w (by omega) HB1.out)⟩
 | true =>
 by_cases h2 : ps.length ≤ 64
 case neg =>
  have h2i : (64 : Int) < (ps.length : Int) := by omega
  have HH2 := Hd h2
  clear h2
  have HA : Hid (usA M ps = none) := usA_l HH2.out
  have HV := Hd (usA_no HA.out)
  obtain ⟨q0x, q1x, q2x, q3x, q4x, q5x, q6x, q7x, q8x, q9x, q10x⟩ := c11 HO1.out
  obtain ⟨z0x, z1x, z2x, z3x, z4x, z5x, z6x, z7x, z8x, z9x, z10x⟩ := f11 HO1.out
  have hlr := HO1.out.lt
  go_wp2
  obtain ⟨_, rfl, hoz, _, hsz, _, hbz⟩ := put11 HO1.out (.slice none 0 0) (.slice none 0 0) (.slice none 0 0) (.int .i64 0) (.int .i64 0) (.int .i64 0) (.int .i64 0) (.slice none 0 0) (.int .i64 0) (.slice none 0 0) (.int .i64 0)
  have hoz2 := hoz.alloc (o := .cells #[] 3)
  obtain ⟨q0t, q1t, q2t, q3t, q4t, q5t, q6t, q7t, q8t, q9t, q10t⟩ := c11 hoz2
  refine bodyPost_ret (v := .tuple #[.agg #[.slice none 0 0, .slice none 0 0, .slice none 0 0, .int .i64 0, .int .i64 0, .int .i64 0, .int .i64 0, .slice none 0 0, .int .i64 0, .slice none 0 0, .int .i64 0], .slice (some ⟨w1.heap.size, 0, none⟩) 0 0, .bool false]) (by simp [results, Tryz.results22, go_sem, q0t, q1t, q2t, q3t, q4t, q5t, q6t, q7t, q8t, q9t, q10t]) rfl ⟨_, rfl, _, _, _, _, _, .slice (some ⟨w1.heap.size, 0, none⟩) 0 0, by rw [HV.out.1, HV.out.2.1]; rfl, by rw [HV.out.2.1]; exact mem_z, by rw [HV.out.2.2]; exact ⟨_, 0, rfl, Nat.le_refl _, by simp [maxLen], MineE.nil_ _⟩, (fun _ _ _ e => by cases e), bA (hbz w (by omega) HB1.out)⟩
 case pos =>
 have h2i : ¬ (64 : Int) < (ps.length : Int) := by omega
 obtain ⟨a1, a2, a3, a4, a5, a6⟩ := mev_len h1
 have HMV := Hd h1
 obtain ⟨q0b, q1b, q2b, q3b, q4b, q5b, q6b, q7b, q8b, q9b, q10b⟩ := c11 HX1.out
 go_wp2_with fail
 refine (l7Copy_any vb vf vl vo vk M _ (HM.out.now HB1.out) a1 a2 a3 a4 (by omega) a6).mono ?_
 rintro e w3 ⟨_, rfl, q1, q2, q3, q4, q5, rfl, hM3, hb3⟩
 clear q0b q1b q2b q3b q4b q5b q6b q7b q8b q9b q10b
 have hM3' := hM3.mono hs1
 obtain ⟨A1, c1, A2, c2, A3, c3, A4, c4, g5, c5, rfl, rfl, rfl, rfl, rfl⟩ := hM3'.open a6
 obtain ⟨w4, hW4, ho4, hb4, hs4⟩ := box1 w3 #[.slice A1 M.m.t.bs.length c1, .slice A2 M.m.t.fs.length c2, .slice A3 M.m.c.ls.length c3, .int .i64 M.m.c.hand, .int .i64 M.m.g.count, .int .i64 M.m.g.next, .int .i64 M.m.g.round, .slice A4 M.m.g.os.length c4, .int .i64 M.m.sp, .slice (some ⟨g5, 0, none⟩) M.mk.length c5, .int .i64 M.h] 37
 have U4 : Hid (Us w w3.heap.size (.slice A1 M.m.t.bs.length c1) (.slice A2 M.m.t.fs.length c2) (.slice A3 M.m.c.ls.length c3) (.slice A4 M.m.g.os.length c4) (.slice (some ⟨g5, 0, none⟩) M.mk.length c5) M w4) := ⟨ho4, hM3'.now hb4, (HO1.out.below hb3).below hb4, bT (bT HB1.out hb3) hb4⟩
 have hG : w.heap.size + 2 ≤ w3.heap.size := by have := hb3.size; omega
 clear hM3 hM3' hb3 ho4 hb4 HX1 HO1 HB1 h1
 go_upto_region 4 with fail
 try rw [hW4]
 clear hW4 h2i
 obtain ⟨cs5, hcs5, hmk5⟩ := make_five
 obtain ⟨w5, hW5, ho5, hb5, hs5⟩ := box1 w4 cs5 3
 go_upto_region 5 with fail
 try rw [hW5]
 have U5 := Hd (U4.out.below hb5)
 have HC5 : Hid (MineE intE 3 (w.heap.size + 2) w5 (some ⟨w4.heap.size, 0, none⟩) [0, 0, 0, 0, 0]) := mine_of ho5 hcs5 (by omega)
 have HAP : Hid (Apart (.slice A1 M.m.t.bs.length c1) (.slice (some ⟨w4.heap.size, 0, none⟩) 5 5)) := apart_far U4.out.mm.m (fun k hk => by injection hk with hk; subst hk; exact Nat.le_refl _)
 clear hW5 ho5 hb5 hmk5 hcs5 U4
 rw [hs4] at HC5 HAP
 obtain ⟨gc, hgc⟩ : ∃ gc, w3.heap.size + 1 = gc := ⟨_, rfl⟩
 rw [hgc] at HC5 HAP ⊢
 have hgc2 : w.heap.size + 2 ≤ gc := by omega
 have hgc3 : gc + 1 ≤ w5.heap.size := by omega
 clear hgc hs4 hs5
 go_wp2
 go_loopw [9] (fun u wr => ∃ (k : Nat) (x : Me × List Int) (v1 v2 v3 v4 v5 : Value), k ≤ ps.length ∧ u = .int .i64 k ∧ Hid (usL M ps k = some x) ∧ Us w w3.heap.size v1 v2 v3 v4 v5 x.1 wr ∧ MineE intE 3 (w.heap.size + 2) wr (some ⟨gc, 0, none⟩) x.2 ∧ Apart v1 (.slice (some ⟨gc, 0, none⟩) 5 5)) (fun u _ => ps.length - (intOf u).toNat)
 case atStart => exact ⟨0, (M, [0, 0, 0, 0, 0]), _, _, _, _, _, by omega, rfl, rfl, U5.out, HC5.out, HAP.out⟩
 case round =>
  obtain ⟨k, ⟨X, cs⟩, v1, v2, v3, v4, v5, hk, rfl, hst, hus, hmi, hap⟩ := hrel
  simp only at hus hmi
  have HUS := Hd hus
  have HMI := Hd hmi
  clear HAP
  have HAP := Hd hap
  clear hus hmi hap U5 HC5
  by_cases hlt : k < ps.length
  ·have hlti : (k : Int) < (ps.length : Int) := by omega
   obtain ⟨p, ep⟩ : ∃ p, ps[k]? = some p := ⟨_, List.getElem?_eq_getElem hlt⟩
   have HSTEP := Hd (usL_step hst.out ep)
   have HEP := Hd ep
   obtain ⟨bp, op, eA, hbp, d0⟩ := Rd.i1 (HPS.out.below HUS.out.bl) ep
   subst eA
   clear ep
   have hgw : gc < wr.heap.size := by
    obtain ⟨g, cc, e, hg, ho, hs⟩ := HMI.out.own (by have := usL_len hst.out; simp only at this; omega)
    injection e with e
    injection e with e1 _ _
    have := ho.lt
    omega
   have hup := fun (v : World) (e1 e2 e3 e4 e5 : Value) (h : MeR v e1 e2 e3 e4 e5 X) => sUsePage_any e1 e2 e3 e4 e5 X p 1 1 v h
   obtain ⟨Z, hZ⟩ : ∃ Z, useV X p 1 1 = Z := ⟨_, rfl⟩
   obtain ⟨F, hF⟩ : ∃ F, useF X p 1 1 = F := ⟨_, rfl⟩
   obtain ⟨R, hR⟩ : ∃ R, useR X p 1 1 = R := ⟨_, rfl⟩
   obtain ⟨O, hO⟩ : ∃ O, useO X p 1 1 = O := ⟨_, rfl⟩
   have hRr := useR_rng X p 1 1
   simp only at HSTEP
   rw [hZ, hF, hR, hO] at hup
   rw [hZ, hR, hO] at HSTEP
   rw [hR] at hRr
   have HUP := Hd hup
   have hmz : O = true → 1 ≤ Z.mk.length := by
    intro ho
    rw [ho] at hO
    obtain ⟨g1, g2, g3, g4, N, g5⟩ := useO_parts hO
    rw [← hZ, (useO_some g1 g2 g3 g4 g5).2.1]
    show 1 ≤ (N.mk.set _ true).length
    rw [List.length_set, (useN_at (mev_MEV.1 g1) g5).2.1]
    exact (mev_len g1).2.2.2.2.2
   have HMZ := Hd hmz
   clear hZ hF hR hO hup hmz
   obtain ⟨R, rfl⟩ : ∃ r : Nat, R = (r : Int) := Int.eq_ofNat_of_zero_le hRr.1
   have hR5 : R < 5 := by omega
   rw [Int.toNat_natCast] at HSTEP
   go_upto_region 8 with fail
   have hki : (0 : Int) ≤ (k : Int) := by omega
   have hlo8 := HUS.out.ob.lt
   refine wp_region_kp (by kernel_rfl) [34, 35, 36, 37, 38, 39, 33, 40, 41, 42, 43, 10, 11, 12, 13] [34, 35, 36, 37, 38, 39, 33, 40, 41, 42, 43, 10, 10, 11, 12, 13] 37 (fun g => g < wr.heap.size) (wr.heap.size) 12 [KP.eq (.agg #[v1, v2, v3, .int .i64 X.m.c.hand, .int .i64 X.m.g.count, .int .i64 X.m.g.next, .int .i64 X.m.g.round, v4, .int .i64 X.m.sp, v5, .int .i64 X.h]), KP.eq (.slice (some ⟨bp, op, none⟩) ps.length cp), KP.eq (.int .i64 (k : Int)), KP.eq (.pointer (some ⟨bp, op + k, none⟩)), KP.eq (.int .i64 p), KP.tum okT_me (wr.heap.size) (Z) [.int .i64 F, .int .i64 (R : Int), .bool O], KP.tum okT_me (wr.heap.size) (Z) [.int .i64 F, .int .i64 (R : Int), .bool O], KP.me okT_me (wr.heap.size) (Z), KP.eq (.int .i64 F), KP.eq (.int .i64 (R : Int)), KP.eq (.bool O), KP.box (wr.heap.size) 11, KP.eq (.bool true), KP.eq (.int .i64 F), KP.eq (.int .i64 (R : Int)), KP.eq (.bool O)] (fun u v => ∃ g e1 e2 e3 e4 e5, u = .pointer (some ⟨g, 0, none⟩) ∧ wr.heap.size ≤ g ∧ Own v g 37 #[e1, e2, e3, .int .i64 Z.m.c.hand, .int .i64 Z.m.g.count, .int .i64 Z.m.g.next, .int .i64 Z.m.g.round, e4, .int .i64 Z.m.sp, e5, .int .i64 Z.h] ∧ MeM (wr.heap.size) v e1 e2 e3 e4 e5 Z) (fun v => (Below (wr.heap.size) wr v) ∧ (Own v (w3.heap.size) 37 #[v1, v2, v3, .int .i64 X.m.c.hand, .int .i64 X.m.g.count, .int .i64 X.m.g.next, .int .i64 X.m.g.round, v4, .int .i64 X.m.sp, v5, .int .i64 X.h]) ∧ (MeM (w.heap.size + 2) v v1 v2 v3 v4 v5 X)) (by kernel_rfl) rfl ⟨bD bR, HUS.out.ob.drew, HUS.out.mm.now (bD bR)⟩ (fun v h => Nat.le_trans (by omega) h.1.size) (fun v v' ht ⟨hb, h_o, hmm⟩ => ⟨hb.trans ht.bel, ht.own _ _ (show w3.heap.size < wr.heap.size by have := hlo8; omega) h_o, hmm.tS okT_me ht⟩) (fun u v v' hb ⟨g, e1, e2, e3, e4, e5, h1, h2, h3, h4⟩ => ⟨g, e1, e2, e3, e4, e5, h1, h2, h3.below hb, h4.now hb⟩) ?_ ?_
   ·intro i o ho x v hC hd K hK
    match i, ho with
    | 0, ho =>
     cases ho
     simp only [fillA, Act.put, sA9, sB9, sC9] at hK ⊢
     obtain ⟨hbw, hx_o, hmm⟩ := hC
     obtain ⟨z0, z1, z2, z3, z4, z5, z6, z7, z8, z9, z10⟩ := c11 hx_o
     go_simp
     exact hK _ _ kpT_same rfl
    | 1, ho =>
     cases ho
     simp only [fillA, Act.put, sA9, sB9, sC9] at hK ⊢
     go_simp
     exact hK _ _ kpT_same rfl
    | 2, ho =>
     cases ho
     simp only [fillA, Act.put, sA9, sB9, sC9] at hK ⊢
     go_simp
     exact hK _ _ kpT_same rfl
    | 3, ho =>
     cases ho
     simp only [fillA, Act.put, sA9, sB9, sC9] at hK ⊢
     have d0 := hd 1 ⟨⟨1, .data⟩, by simp, rfl, rfl⟩ (by decide)
     change x 35 = .slice (some ⟨bp, op, none⟩) ps.length cp at d0
     have d1 := hd 2 ⟨⟨2, .data⟩, by simp, rfl, rfl⟩ (by decide)
     change x 36 = .int .i64 (k : Int) at d1
     simp only [d0, d1] at hK ⊢
     go_simp
     exact hK _ _ kpT_same rfl
    | 4, ho =>
     cases ho
     simp only [fillA, Act.put, sA9, sB9, sC9] at hK ⊢
     obtain ⟨hbw, hx_o, hmm⟩ := hC
     obtain ⟨bq, oq, eq, _, y0⟩ := Rd.i1 (HPS.out.below (bT HUS.out.bl hbw)) HEP.out
     injection eq with eq
     injection eq with eq1 eq2 _
     subst eq1 eq2
     have d0 := hd 3 ⟨⟨3, .data⟩, by simp, rfl, rfl⟩ (by decide)
     change x 37 = .pointer (some ⟨bp, op + k, none⟩) at d0
     simp only [d0] at hK ⊢
     go_simp
     exact hK _ _ kpT_same rfl
    | 5, ho =>
     cases ho
     simp only [fillA, Act.put, sA9, sB9, sC9] at hK ⊢
     obtain ⟨hbw, hx_o, hmm⟩ := hC
     have d0 := hd 0 ⟨⟨0, .data⟩, by simp, rfl, rfl⟩ (by decide)
     change x 34 = .agg #[v1, v2, v3, .int .i64 X.m.c.hand, .int .i64 X.m.g.count, .int .i64 X.m.g.next, .int .i64 X.m.g.round, v4, .int .i64 X.m.sp, v5, .int .i64 X.h] at d0
     have d1 := hd 4 ⟨⟨4, .data⟩, by simp, rfl, rfl⟩ (by decide)
     change x 38 = .int .i64 p at d1
     simp only [d0, d1] at hK ⊢
     go_wp2_with fail
     refine (HUP.out v _ _ _ _ _ hmm.r).mono ?_
     rintro e v' ⟨_, rfl, f1, f2, f3, f4, f5, rfl, hm1, hb⟩
     go_simp
     exact hK _ _ (kpT_below (by decide) hb) ⟨_, _, _, _, _, rfl, hm1.mono hbw.size⟩
    | 6, ho =>
     cases ho
     simp only [fillA, Act.put, sA9, sB9, sC9] at hK ⊢
     have d0 := hd 5 ⟨⟨5, .data⟩, by simp, rfl, rfl⟩ (by decide)
     obtain ⟨e1, e2, e3, e4, e5, d0, hmX⟩ := d0
     change x 39 = _ at d0
     simp only [d0] at hK ⊢
     go_simp
     exact hK _ _ kpT_same ⟨_, _, _, _, _, rfl, hmX⟩
    | 7, ho =>
     cases ho
     simp only [fillA, Act.put, sA9, sB9, sC9] at hK ⊢
     have d0 := hd 6 ⟨⟨6, .data⟩, by simp, rfl, rfl⟩ (by decide)
     obtain ⟨e1, e2, e3, e4, e5, d0, hmX⟩ := d0
     change x 33 = _ at d0
     simp only [d0] at hK ⊢
     go_simp
     exact hK _ _ kpT_same ⟨_, _, _, _, _, rfl, hmX⟩
    | 8, ho =>
     cases ho
     simp only [fillA, Act.put, sA9, sB9, sC9] at hK ⊢
     have d0 := hd 6 ⟨⟨6, .data⟩, by simp, rfl, rfl⟩ (by decide)
     obtain ⟨e1, e2, e3, e4, e5, d0, hmX⟩ := d0
     change x 33 = _ at d0
     simp only [d0] at hK ⊢
     go_simp
     exact hK _ _ kpT_same rfl
    | 9, ho =>
     cases ho
     simp only [fillA, Act.put, sA9, sB9, sC9] at hK ⊢
     have d0 := hd 6 ⟨⟨6, .data⟩, by simp, rfl, rfl⟩ (by decide)
     obtain ⟨e1, e2, e3, e4, e5, d0, hmX⟩ := d0
     change x 33 = _ at d0
     simp only [d0] at hK ⊢
     go_simp
     exact hK _ _ kpT_same rfl
    | 10, ho =>
     cases ho
     simp only [fillA, Act.put, sA9, sB9, sC9] at hK ⊢
     have d0 := hd 6 ⟨⟨6, .data⟩, by simp, rfl, rfl⟩ (by decide)
     obtain ⟨e1, e2, e3, e4, e5, d0, hmX⟩ := d0
     change x 33 = _ at d0
     simp only [d0] at hK ⊢
     go_simp
     exact hK _ _ kpT_same rfl
    | 11, ho =>
     cases ho
     simp only [fillA, Act.put, sA9, sB9, sC9] at hK ⊢
     go_simp
     exact hK _ _ (kpT_below (by decide) (bA bR)) ⟨_, _, rfl, (by have := hC.1.size; omega), rfl, Own.new_ _ _ _⟩
    | 12, ho =>
     cases ho
     simp only [fillA, Act.put, sA9, sB9, sC9] at hK ⊢
     have d11 := hd 11 ⟨⟨11, .data⟩, by simp, rfl, rfl⟩ (by decide)
     obtain ⟨gb, cb, d11, hgb, hnb, hob⟩ := d11
     change x 10 = _ at d11
     have d9 := hd 7 ⟨⟨7, .data⟩, by simp, rfl, rfl⟩ (by decide)
     obtain ⟨e1, e2, e3, e4, e5, d9, hmX⟩ := d9
     change x 40 = _ at d9
     obtain ⟨E1, s1, rfl, _⟩ := id hmX.m.t.b
     obtain ⟨E2, s2, rfl, _⟩ := id hmX.m.t.f
     obtain ⟨E3, s3, rfl, _⟩ := id hmX.m.l
     obtain ⟨E4, s4, rfl, _⟩ := id hmX.m.o
     obtain ⟨E5, s5, rfl, _⟩ := id hmX.k
     obtain ⟨a0, a1, a2, a3, a4, a5, a6, a7, a8, a9, a10, rfl⟩ := arr11 hnb
     obtain ⟨y0, y1, y2, y3, y4, y5, y6, y7, y8, y9, y10⟩ := c11 hob
     obtain ⟨z0, z1, z2, z3, z4, z5, z6, z7, z8, z9, z10⟩ := f11 hob
     have hlo := hob.lt
     simp only [d9, d11] at hK ⊢
     go_simp
     have hS : tS 37 (fun g => g < wr.heap.size) (wr.heap.size) v (sets gb 0 [.slice E1 Z.m.t.bs.length s1, .slice E2 Z.m.t.fs.length s2, .slice E3 Z.m.c.ls.length s3, .int .i64 Z.m.c.hand, .int .i64 Z.m.g.count, .int .i64 Z.m.g.next, .int .i64 Z.m.g.round, .slice E4 Z.m.g.os.length s4, .int .i64 Z.m.sp, .slice E5 Z.mk.length s5, .int .i64 Z.h] v) := tS.sets hob hgb (by omega) 0 _
     refine hK undef _ (kpT_store hS) ⟨gb, _, _, _, _, _, d11, hgb, set11 hob (.slice E1 Z.m.t.bs.length s1) (.slice E2 Z.m.t.fs.length s2) (.slice E3 Z.m.c.ls.length s3) (.int .i64 Z.m.c.hand) (.int .i64 Z.m.g.count) (.int .i64 Z.m.g.next) (.int .i64 Z.m.g.round) (.slice E4 Z.m.g.os.length s4) (.int .i64 Z.m.sp) (.slice E5 Z.mk.length s5) (.int .i64 Z.h), hmX.tS okT_me hS⟩
    | 13, ho =>
     cases ho
     simp only [fillA, Act.put, sA9, sB9, sC9] at hK ⊢
     have d0 := hd 8 ⟨⟨8, .data⟩, by simp, rfl, rfl⟩ (by decide)
     change x 41 = .int .i64 F at d0
     simp only [d0] at hK ⊢
     go_simp
     exact hK _ _ kpT_same rfl
    | 14, ho =>
     cases ho
     simp only [fillA, Act.put, sA9, sB9, sC9] at hK ⊢
     have d0 := hd 9 ⟨⟨9, .data⟩, by simp, rfl, rfl⟩ (by decide)
     change x 42 = .int .i64 (R : Int) at d0
     simp only [d0] at hK ⊢
     go_simp
     exact hK _ _ kpT_same rfl
    | 15, ho =>
     cases ho
     simp only [fillA, Act.put, sA9, sB9, sC9] at hK ⊢
     have d0 := hd 10 ⟨⟨10, .data⟩, by simp, rfl, rfl⟩ (by decide)
     change x 43 = .bool O at d0
     simp only [d0] at hK ⊢
     go_simp
     exact hK _ _ kpT_same rfl
    | _ + 16, ho => simp at ho
   intro xa wz hC hd
   obtain ⟨g9, e1, e2, e3, e4, e5, dS, hg9, ho9, hm9⟩ := hd 12 (by decide)
   change xa 10 = _ at dS
   obtain ⟨hbz, hoz, hmz⟩ := hC
   have dL11 := hd 13 (by decide)
   change xa 11 = .int .i64 F at dL11
   have dL12 := hd 14 (by decide)
   change xa 12 = .int .i64 (R : Int) at dL12
   have dL13 := hd 15 (by decide)
   change xa 13 = .bool O at dL13
   simp only [fillA, Act.put, sA9, sB9, sC9, dS, dL11, dL12, dL13]
   clear hd dS dL11 dL12 dL13
   have U9 := Hd (HUS.out.below hbz)
   have HI9 := Hd (HMI.out.below hbz)
   have HNB := Hd ho9
   have hM9 := hm9
   obtain ⟨D1, r1, rfl, _⟩ := id hM9.m.t.b
   obtain ⟨D2, r2, rfl, _⟩ := id hM9.m.t.f
   obtain ⟨D3, r3, rfl, _⟩ := id hM9.m.l
   obtain ⟨D4, r4, rfl, _⟩ := id hM9.m.o
   obtain ⟨D5, r5, rfl, _⟩ := id hM9.k
   have UB := U9
   have HMB := Hd hM9
   have HIB := HI9
   clear hbz hoz hmz hM9 hm9 ho9 HUS HMI HAP HUP d0
   cases O with
   | false =>
    have hno := HSTEP.out
    rw [if_neg (by decide)] at hno
    have HNO := Hd (usA_bad hno (by omega))
    have HRR := Hd UB.out.rb
    have HBC := Hd UB.out.bl
    clear hno HSTEP
    have HA : Hid (usA M ps = none) := HNO.out
    have HV := Hd (usA_no HA.out)
    obtain ⟨q0x, q1x, q2x, q3x, q4x, q5x, q6x, q7x, q8x, q9x, q10x⟩ := c11 HRR.out
    obtain ⟨z0x, z1x, z2x, z3x, z4x, z5x, z6x, z7x, z8x, z9x, z10x⟩ := f11 HRR.out
    have hlr := HRR.out.lt
    go_wp2
    obtain ⟨_, rfl, hoz, _, hsz, _, hbz⟩ := put11 HRR.out (.slice none 0 0) (.slice none 0 0) (.slice none 0 0) (.int .i64 0) (.int .i64 0) (.int .i64 0) (.int .i64 0) (.slice none 0 0) (.int .i64 0) (.slice none 0 0) (.int .i64 0)
    have hoz2 := hoz.alloc (o := .cells #[] 3)
    obtain ⟨q0t, q1t, q2t, q3t, q4t, q5t, q6t, q7t, q8t, q9t, q10t⟩ := c11 hoz2
    refine bodyPost_ret (v := .tuple #[.agg #[.slice none 0 0, .slice none 0 0, .slice none 0 0, .int .i64 0, .int .i64 0, .int .i64 0, .int .i64 0, .slice none 0 0, .int .i64 0, .slice none 0 0, .int .i64 0], .slice (some ⟨wz.heap.size, 0, none⟩) 0 0, .bool false]) (by simp [results, Tryz.results22, go_sem, q0t, q1t, q2t, q3t, q4t, q5t, q6t, q7t, q8t, q9t, q10t]) rfl ⟨_, rfl, _, _, _, _, _, .slice (some ⟨wz.heap.size, 0, none⟩) 0 0, by rw [HV.out.1, HV.out.2.1]; rfl, by rw [HV.out.2.1]; exact mem_z, by rw [HV.out.2.2]; exact ⟨_, 0, rfl, Nat.le_refl _, by simp [maxLen], MineE.nil_ _⟩, (fun _ _ _ e => by cases e), bA (hbz w (by omega) HBC.out)⟩
   | true =>
    have hyes := HSTEP.out
    rw [if_pos rfl] at hyes
    have HNX := Hd hyes
    have hcl : cs.length = 5 := usL_len hst.out
    obtain ⟨c, ec⟩ : ∃ c, cs[R]? = some c := ⟨_, List.getElem?_eq_getElem (by omega)⟩
    have hcb := usL_bd hst.out R c ec
    have hrl : R < cs.length := by omega
    have hgd : bmp cs R = cs.set R (c + 1) := by unfold bmp; rw [getD_i ec]
    rw [hgd] at HNX
    have HEC := Hd ec
    clear hyes HSTEP ec hcl hgd
    obtain ⟨q0y, q1y, q2y, q3y, q4y, q5y, q6y, q7y, q8y, q9y, q10y⟩ := c11 HNB.out
    obtain ⟨z0x, z1x, z2x, z3x, z4x, z5x, z6x, z7x, z8x, z9x, z10x⟩ := f11 UB.out.ob
    obtain ⟨q0x, q1x, q2x, q3x, q4x, q5x, q6x, q7x, q8x, q9x, q10x⟩ := c11 UB.out.ob
    have hlo := UB.out.ob.lt
    have hly := HNB.out.lt
    obtain ⟨w10, hW10, u10, hoth⟩ := UB.out.allo hG (HMB.out.mono (show w.heap.size + 2 ≤ wr.heap.size by omega))
    have HI10 := Hd (HIB.out.oth hoth (by decide))
    have HN10 := Hd (HMB.out.othm hoth)
    have U10 := Hd u10
    go_upto_region 12 with fail
    try rw [hW10]
    clear q0y q1y q2y q3y q4y q5y q6y q7y q8y q9y q10y
    clear q0x q1x q2x q3x q4x q5x q6x q7x q8x q9x q10x
    clear z0x z1x z2x z3x z4x z5x z6x z7x z8x z9x z10x
    clear hW10 u10 hoth hlo hly UB HNB HMB HIB
    obtain ⟨d0, d1, d2⟩ := HI10.out.ifz HEC.out
    obtain ⟨w11, hW11, u11, hi11, hn11⟩ := U10.out.cnt HI10.out (show gc < wr.heap.size by omega) HN10.out hrl (c + 1)
    have hR0 : (0 : Int) ≤ (R : Int) := by omega
    have hRl : (R : Int) < 5 := by omega
    go_upto_region 7 with fail
    try rw [hW11]
    clear hW11 d0 d1 d2 U10 HI10 HN10
    go_wp2
    go_roundw
    case rel => exact ⟨k + 1, (Z, cs.set R (c + 1)), _, _, _, _, _, by omega, by go_num, HNX, u11, hi11, apart_new (B := wr.heap.size) hn11.m (fun q hq => by injection hq with hq; subst hq; exact hgw)⟩
    case measure => simp [intOf]; omega
  ·obtain rfl : k = ps.length := by omega
   have HE := Hd (usA_yes (usA_end HMV.out h2 hst.out))
   obtain ⟨D1, r1, rfl, _⟩ := id HUS.out.mm.m.t.b
   obtain ⟨D2, r2, rfl, _⟩ := id HUS.out.mm.m.t.f
   obtain ⟨D3, r3, rfl, _⟩ := id HUS.out.mm.m.l
   obtain ⟨D4, r4, rfl, _⟩ := id HUS.out.mm.m.o
   obtain ⟨D5, r5, rfl, _⟩ := id HUS.out.mm.k
   obtain ⟨q0o, q1o, q2o, q3o, q4o, q5o, q6o, q7o, q8o, q9o, q10o⟩ := c11 HUS.out.ob
   obtain ⟨q0x, q1x, q2x, q3x, q4x, q5x, q6x, q7x, q8x, q9x, q10x⟩ := c11 HUS.out.rb
   obtain ⟨z0x, z1x, z2x, z3x, z4x, z5x, z6x, z7x, z8x, z9x, z10x⟩ := f11 HUS.out.rb
   have hlr := HUS.out.rb.lt
   have hlo := HUS.out.ob.lt
   go_wp2
   obtain ⟨_, rfl, hoz, hotz, _, _, hbz⟩ := put11 HUS.out.rb (.slice D1 X.m.t.bs.length r1) (.slice D2 X.m.t.fs.length r2) (.slice D3 X.m.c.ls.length r3) (.int .i64 X.m.c.hand) (.int .i64 X.m.g.count) (.int .i64 X.m.g.next) (.int .i64 X.m.g.round) (.slice D4 X.m.g.os.length r4) (.int .i64 X.m.sp) (.slice D5 X.mk.length r5) (.int .i64 X.h)
   obtain ⟨q0t, q1t, q2t, q3t, q4t, q5t, q6t, q7t, q8t, q9t, q10t⟩ := c11 hoz
   have hcl : cs.length = 5 := usL_len hst.out
   refine bodyPost_ret (v := .tuple #[.agg #[.slice D1 X.m.t.bs.length r1, .slice D2 X.m.t.fs.length r2, .slice D3 X.m.c.ls.length r3, .int .i64 X.m.c.hand, .int .i64 X.m.g.count, .int .i64 X.m.g.next, .int .i64 X.m.g.round, .slice D4 X.m.g.os.length r4, .int .i64 X.m.sp, .slice D5 X.mk.length r5, .int .i64 X.h], .slice (some ⟨gc, 0, none⟩) 5 5, .bool true]) (by simp [results, Tryz.results22, go_sem, q0t, q1t, q2t, q3t, q4t, q5t, q6t, q7t, q8t, q9t, q10t]) rfl ⟨_, rfl, _, _, _, _, _, .slice (some ⟨gc, 0, none⟩) 5 5, by rw [HE.out.1, HE.out.2.1], by rw [HE.out.2.1]; exact (HUS.out.mm.othm hotz).mono (by omega), ?_, HAP.out, hbz w (by omega) HUS.out.bl⟩
   rw [HE.out.2.2]
   exact (slm_of (n := 5) hcl.symm (by show cs.length ≤ 5; omega) (by unfold maxLen; omega) (HMI.out.oth hotz (by decide))).mono (by omega)
end Go.Proofs.YtfbnokjdkhcgoaaGreatDoor
namespace Go.Proofs.YtfbnokjdkhcgoaaGreatDoor.lExactUsePages
open Go.ChangeShapes Go.WideShapes Go.ChangeAt Go.RowKit Go.Joins
theorem usL_len2 {M : Me} {ps : List Int} (hM : mev M = true) : ∀ {k : Nat} {x : Me × List Int}, usL M ps k = some x → mav x.1.m = true ∧ x.1.mk.length = M.mk.length
  | 0, x, e => by
    rw [usL] at e
    injection e with e
    subst e
    exact ⟨mav_MV.2 (mev_MEV.1 hM).m, rfl⟩
  | k + 1, x, e => by
    rw [usL] at e
    cases h : usL M ps k with
    | none => rw [h] at e; cases e
    | some y =>
      rw [h] at e
      have hy := usL_len2 hM h
      cases h2 : ps[k]? with
      | none => rw [h2] at e; cases e
      | some p =>
        rw [h2] at e
        simp only at e
        split at e
        · rename_i hO
          injection e with e
          subst e
          refine ⟨mev_use hO, ?_⟩
          obtain ⟨g1, g2, g3, g4, N, g5⟩ := useO_parts hO
          show (useV y.1 p 1 1).mk.length = _
          rw [(useO_some g1 g2 g3 g4 g5).2.1]
          show (N.mk.set _ true).length = _
          rw [List.length_set, (useN_at (mev_MEV.1 g1) g5).2.1]
          exact hy.2
        · cases e
theorem usV_small (M : Me) (ps : List Int) : smallE (usV M ps) ∧ (usC M ps).length ≤ 1048576 := by
 cases h : usA M ps with
 | none =>
  obtain ⟨_, h2, h3⟩ := usA_no h
  rw [h2, h3]
  exact ⟨smallE_z, by simp⟩
 | some x =>
  obtain ⟨_, h2, h3⟩ := usA_yes h
  rw [h2, h3]
  unfold usA at h
  split at h
  ·rename_i hc
   obtain ⟨h4, h5⟩ := usL_len2 hc.1 h
   obtain ⟨a1, a2, a3, a4⟩ := mav_len h4
   have h6 := usL_len h
   have h7 := (mev_len hc.1).2.2.2.2.1
   exact ⟨⟨a1, a2, a3, a4, by omega⟩, by omega⟩
  ·cases h
theorem walk (vb vf vl vo vk : Value) (M : Me) (A0 : Option Addr) (c0 : Nat) (ps : List Int) (w : World) (hM : MeR w vb vf vl vo vk M) (hR : Rs intE w.heap.size w A0 ps) (hpl : ps.length ≤ 9223372036854775807) (hfree : Free w) :
  Calls Tryz.prog 7 #[.agg #[vb, vf, vl, .int .i64 M.m.c.hand, .int .i64 M.m.g.count, .int .i64 M.m.g.next, .int .i64 M.m.g.round, vo, .int .i64 M.m.sp, vk, .int .i64 M.h], .slice A0 ps.length c0] w fun e w' => e = .returned (.bool true) ∧ Below w.heap.size w w' :=
 walk0 vb vf vl vo vk M (usV M ps) A0 c0 ps (usC M ps) _ w hM hR hpl hfree (usV_small M ps).1 (usV_small M ps).2
  (fun e1 e2 e3 e4 e5 A c W h hr => sUsePages_any e1 e2 e3 e4 e5 M A c ps W h hr hpl) (fun e1 e2 e3 e4 e5 A c W h hr hf => UsePages_any e1 e2 e3 e4 e5 M A c ps W h hr hpl hf)
set_option maxRecDepth 100000 in
theorem lifted (os : Os) (started : os.Started) (H : Type) (enc : TypeId × Value → H) :
  ReturnsInHanded {} Tryz.checked os 7 .any (fun w args => (Rows.fnExactUsePagesSpec.pre enc Tryz.prog Tryz.f7 Rows.fnExactUsePagesRow.domain false w args ∧ laidMet Tryz.prog [("loop.example/invertedpages/impl.free", Rows.laid_loop_example_invertedpages_impl_free)] w) ∧ sizedMet enc Tryz.prog Tryz.f7 (OpenSpec.ofChange Rows.fnExactUsePagesSpec) false w args)
   (Rows.fnExactUsePagesSpec.post enc Tryz.prog Tryz.f7 false true false false) := by
 refine returnsInHanded_of_change_and (C := Tryz.checked) (X := fun w _ => laidMet Tryz.prog [("loop.example/invertedpages/impl.free", Rows.laid_loop_example_invertedpages_impl_free)] w) (fun _ _ _ hh h => h.of_heap hh) own_ started (by kernel_rfl) Tryz.func7
  (ChangeSpec.witness_at (enc := enc) (C := Tryz.checked) (os := os) (X := fun w _ => laidMet Tryz.prog [("loop.example/invertedpages/impl.free", Rows.laid_loop_example_invertedpages_impl_free)] w) false (laidWorld os) #[.agg #[.slice none 0 0, .slice none 0 0, .slice none 0 0, .int .i64 0, .int .i64 0, .int .i64 0, .int .i64 0, .slice none 0 0, .int .i64 0, .slice none 0 0, .int .i64 0], .slice none 0 0] 8 rfl (by kernel_rfl) (by kernel_rfl) (by kernel_rfl) (by kernel_rfl) (by kernel_rfl) (laid_met os _)) ?_
 intro W base args ds gs before hval0 hW hcnd _ hL _
 have hval : ∀ (j : Nat) t v, Tryz.f7.params[j]? = some t → args[j]? = some v → Value.okWide Tryz.prog W .any base t v := hval0
 have hW' := hW
 obtain ⟨p, q, hA0, hV0, rfl, hfz, hnd⟩ := hW
 have hA : DataW.TrodAll enc Tryz.prog W 0 (fun _ => true) true Tryz.f7.params.toList args.toList ds p := hA0
 have hV : DataW.TrodVars enc Tryz.prog W (fun _ => true) ["loop.example/invertedpages/impl.free"] gs q := hV0
 rw [Tryz.params7] at hA hval
 obtain ⟨v0, vs0, d0, ds0, p0, q0, hargs, rfl, rfl, h0, r0⟩ := trodAll_cons hA
 obtain ⟨v1, vs1, d1, ds1, p1, q1, rfl, rfl, rfl, h1, r1⟩ := trodAll_cons r0
 obtain ⟨rfl, rfl, rfl⟩ := trodAll_nil r1
 obtain rfl : args = #[v0, v1] := by cases args; simp_all
 obtain ⟨hvar0, hfree⟩ := free_of_laid hL
 obtain ⟨g, t, cs, fuel, d, p', rfl, hg, ht, hvar, hd, rfl⟩ := trodVars_one hV
 obtain rfl := Option.some.inj (free_named.symm.trans hg)
 obtain rfl := Option.some.inj (free_type.symm.trans ht)
 obtain rfl : cs = freeCells := Option.some.inj (hvar.symm.trans hvar0)
 have k0 := h0
 have lt0 : ∀ x ∈ p0, x.block < W.heap.size := by obtain ⟨m, hm⟩ := k0; exact DataW.trod_lt m _ _ _ hm
 have k1 := h1
 have lt1 : ∀ x ∈ p1, x.block < W.heap.size := by obtain ⟨m, hm⟩ := k1; exact DataW.trod_lt m _ _ _ hm
 have kd : DataW.Trod enc Tryz.prog W 0 (fun _ => true) true 80 (.agg freeCells) d p' := ⟨fuel, hd⟩
 have ltd : ∀ x ∈ p', x.block < W.heap.size := DataW.trod_lt fuel _ _ _ hd
 obtain ⟨vb, vf, vl, vo, vk, M, rfl, hM⟩ := open_memory (hval 0 67 v0 rfl rfl) h0
 obtain ⟨l, A, c, rfl, hlc, hcm, hR⟩ := open_ints_ (hval 1 23 v1 rfl rfl) h1
 have hlm : l.length ≤ 9223372036854775807 := by simp only [maxLen] at hcm; omega
 clear hA0 hV0 hval0
 refine (walk vb vf vl vo vk M A c l W hM hR hlm hfree).mono fun e W' ⟨he, bel⟩ => ?_
 subst he
 have hvar' := var_stays hg hvar bel (Nat.le_refl _)
 obtain ⟨fuel', hd'⟩ := Below.trod laidOut (by kernel_rfl) (of_decide_eq_true (by kernel_rfl)) kd bel ltd
 exact ⟨_, rfl, _, _, _, [], _, _, hW', trodAll_mk1 (shut_bool Tryz.underlying4 _), (trodAll_cons_mk (Below.trod laidOut (by kernel_rfl) (of_decide_eq_true (by kernel_rfl)) k0 bel lt0) (trodAll_cons_mk (Below.trod laidOut (by kernel_rfl) (of_decide_eq_true (by kernel_rfl)) k1 bel lt1) trodAll_mk0)), ⟨0, 80, freeCells, fuel', _, _, hg, ht, hvar', hd', rfl, rfl⟩, bel.frame _, fun h => by cases h⟩
theorem over : Rows.fnExactUsePagesRow.holds Tryz.pinned (OpenSpec.ofChange Rows.fnExactUsePagesSpec) :=
 OpenClaim.holds_of_wide 7 Tryz.f7 rfl rfl rfl rfl rfl rfl rfl ⟨rfl, rfl, rfl, rfl, rfl⟩ rfl rfl rfl rfl rfl (by kernel_rfl) Tryz.func7 closed
  (of_decide_eq_true (by kernel_rfl)) (by unfold Func.isWrapper; rw [if_neg (of_decide_eq_false (by kernel_rfl))]; exact ⟨rfl, rfl⟩)
  (fun os started H enc _ => lifted os started H enc)
end Go.Proofs.YtfbnokjdkhcgoaaGreatDoor.lExactUsePages
