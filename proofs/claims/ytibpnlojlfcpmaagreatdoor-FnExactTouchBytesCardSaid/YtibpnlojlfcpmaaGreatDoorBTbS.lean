/- A part of the proofs of this seat: TbS. -/
import Derived.Deep.RegionHeldLaw
import Derived.Below
import Derived.Test.YtibpnlojlfcpmaaGreatDoorBTbI
set_option linter.unusedVariables false
set_option linter.unusedSimpArgs false
set_option maxRecDepth 1000000
namespace Go.Proofs.YtibpnlojlfcpmaaGreatDoor
open Go.RowKit
def isF (V : Ma) (aa rr : Int) (m : Ma) (e1 e2 e3 e4 u : Value) : Prop := m = V ∧ u = .tuple #[.agg #[e1, e2, e3, .int .i64 m.c.hand, .int .i64 m.g.count, .int .i64 m.g.next, .int .i64 m.g.round, e4, .int .i64 m.sp], .int .i64 aa, .int .i64 rr, .bool true]
theorem slm_emp {B : Nat} {w : World} (A : Option Addr) : SlM intE 3 B w (.slice A 0 0) [] :=
 ⟨A, 0, rfl, Nat.le_refl _, by simp [maxLen], ⟨⟨rfl, fun h => absurd h (by simp)⟩, fun h => absurd h (by simp)⟩⟩
set_option maxHeartbeats 4000000 in
theorem sTouchBytes_any (vb vf vl vo : Value) (m : Ma) (p o b n : Int) (w : World) (hM : MaR w vb vf vl vo m) :
  Calls Tryz.prog 46 #[.agg #[vb, vf, vl, .int .i64 m.c.hand, .int .i64 m.g.count, .int .i64 m.g.next, .int .i64 m.g.round, vo, .int .i64 m.sp], .int .i64 p, .int .i64 o, .int .i64 b, .int .i64 n] w (Post2 fun v w' => TBR w.heap.size (tbX m p o b n) (tbO m p o b n) v w' ∧ Below w.heap.size w w') := by
 have HM := Hd hM
 clear hM
 obtain ⟨A1, c1, rfl, _⟩ := HM.out.t.b
 obtain ⟨A2, c2, rfl, _⟩ := HM.out.t.f
 obtain ⟨A3, c3, rfl, _⟩ := HM.out.l
 obtain ⟨A4, c4, rfl, _⟩ := HM.out.o
 obtain ⟨W0, hW, hbx, hbo, hb0, hs0⟩ := box2 w #[.slice A1 m.t.bs.length c1, .slice A2 m.t.fs.length c2, .slice A3 m.c.ls.length c3, .int .i64 m.c.hand, .int .i64 m.g.count, .int .i64 m.g.next, .int .i64 m.g.round, .slice A4 m.g.os.length c4, .int .i64 m.sp] 48 #[.slice none 0 0, .slice none 0 0, .slice none 0 0, .int .i64 0, .int .i64 0, .int .i64 0, .int .i64 0, .slice none 0 0, .int .i64 0] 48
 have HX0 := Hd hbx
 have HR0 := Hd hbo
 have HB0 := Hd hb0
 clear hbx hbo hb0
 go_enter Tryz.func46, Tryz.ntmps46
 go_wp2_with fail
 refine (sSplitBytes_any 0 p o b W0).mono ?_
 rintro e w1 ⟨A5, c5, rfl, hlc5, hmi, hb1⟩
 have HX1 := Hd (HX0.out.below hb1)
 have HR1 := Hd (HR0.out.below hb1)
 have HB1 := Hd (bT HB0.out hb1)
 have HPC := Hd hmi
 have hs1 := hb1.size
 clear hb1 HX0 HR0 HB0 hmi
 cases h3 : pval 0 p o b with
 | false =>
  have HOE : Hid (tbO m p o b n = false) := by
   show _ = _
   unfold tbO
   cases h1 : mav m with
   | false => rfl
   | true => rw [pval_sp (mav_sp h1), h3]; simp
  clear HPC
  have HXE : Hid (tbX m p o b n = (maz, [], 0)) := tbO_no HOE.out
  obtain ⟨r0x, r1x, r2x, r3x, r4x, r5x, r6x, r7x, r8x⟩ := cells9 HR1.out
  obtain ⟨z0x, z1x, z2x, z3x, z4x, z5x, z6x, z7x, z8x⟩ := free9 HR1.out
  have hlr := HR1.out.lt
  have hsz9 := (HB1.out).size
  go_wp2
  have o3 := (set9z HR1.out).alloc (o := .cells #[] 3)
  obtain ⟨t0, t1, t2, t3, t4, t5, t6, t7, t8⟩ := cells9 o3
  refine bodyPost_ret (v := .tuple #[.agg #[.slice none 0 0, .slice none 0 0, .slice none 0 0, .int .i64 0, .int .i64 0, .int .i64 0, .int .i64 0, .slice none 0 0, .int .i64 0], .slice (some ⟨w1.heap.size, 0, none⟩) 0 0, .int .i64 0, .bool false]) (by simp [results, Tryz.results46, go_sem, t0, t1, t2, t3, t4, t5, t6, t7, t8]) rfl ⟨_, rfl, ⟨_, _, _, _, _, 0, by rw [HXE.out, HOE.out]; rfl, by rw [HXE.out]; exact mam_z, by rw [HXE.out]; exact slm_emp _⟩, ?_⟩
  refine bA ?_
  repeat (refine bS ?_ (by simp <;> omega))
  exact HB1.out
 | true =>
 obtain ⟨p0a, p1a, p2a, p3a, p4a, p5a, p6a, p7a, p8a⟩ := cells9 HX1.out
 go_wp2_with fail
 refine (sMachineValid_any _ _ _ _ m _ (HM.out.now HB1.out)).mono ?_
 rintro e w2 ⟨rfl, hb2⟩
 clear p0a p1a p2a p3a p4a p5a p6a p7a p8a
 have HX2 := Hd (HX1.out.below hb2)
 have HR2 := Hd (HR1.out.below hb2)
 have HB2 := Hd (bT HB1.out hb2)
 have hb12 := hb2
 have HPC2 := HPC
 have hs2 := hb2.size
 have HB12 := Hd hb12
 clear hb2 hb12 HX1 HR1 HB1 HPC
 cases h1 : mav m with
 | false =>
  have HOE : Hid (tbO m p o b n = false) := by show _ = _; unfold tbO; rw [h1]; rfl
  clear HPC2
  have HXE : Hid (tbX m p o b n = (maz, [], 0)) := tbO_no HOE.out
  obtain ⟨r0x, r1x, r2x, r3x, r4x, r5x, r6x, r7x, r8x⟩ := cells9 HR2.out
  obtain ⟨z0x, z1x, z2x, z3x, z4x, z5x, z6x, z7x, z8x⟩ := free9 HR2.out
  have hlr := HR2.out.lt
  have hsz9 := (HB2.out).size
  go_wp2
  have o3 := (set9z HR2.out).alloc (o := .cells #[] 3)
  obtain ⟨t0, t1, t2, t3, t4, t5, t6, t7, t8⟩ := cells9 o3
  refine bodyPost_ret (v := .tuple #[.agg #[.slice none 0 0, .slice none 0 0, .slice none 0 0, .int .i64 0, .int .i64 0, .int .i64 0, .int .i64 0, .slice none 0 0, .int .i64 0], .slice (some ⟨w2.heap.size, 0, none⟩) 0 0, .int .i64 0, .bool false]) (by simp [results, Tryz.results46, go_sem, t0, t1, t2, t3, t4, t5, t6, t7, t8]) rfl ⟨_, rfl, ⟨_, _, _, _, _, 0, by rw [HXE.out, HOE.out]; rfl, by rw [HXE.out]; exact mam_z, by rw [HXE.out]; exact slm_emp _⟩, ?_⟩
  refine bA ?_
  repeat (refine bS ?_ (by simp <;> omega))
  exact HB2.out
 | true =>
 go_wp2_with fail
 refine (sRightsValid_any _ _).mono ?_
 rintro e w' ⟨rfl, rfl⟩
 cases h2 : inR n 8 with
 | false =>
  have HOE : Hid (tbO m p o b n = false) := by show _ = _; unfold tbO; rw [h1, h2]; rfl
  clear HPC2
  have HXE : Hid (tbX m p o b n = (maz, [], 0)) := tbO_no HOE.out
  obtain ⟨r0x, r1x, r2x, r3x, r4x, r5x, r6x, r7x, r8x⟩ := cells9 HR2.out
  obtain ⟨z0x, z1x, z2x, z3x, z4x, z5x, z6x, z7x, z8x⟩ := free9 HR2.out
  have hlr := HR2.out.lt
  have hsz9 := (HB2.out).size
  go_wp2
  have o3 := (set9z HR2.out).alloc (o := .cells #[] 3)
  obtain ⟨t0, t1, t2, t3, t4, t5, t6, t7, t8⟩ := cells9 o3
  refine bodyPost_ret (v := .tuple #[.agg #[.slice none 0 0, .slice none 0 0, .slice none 0 0, .int .i64 0, .int .i64 0, .int .i64 0, .int .i64 0, .slice none 0 0, .int .i64 0], .slice (some ⟨w2.heap.size, 0, none⟩) 0 0, .int .i64 0, .bool false]) (by simp [results, Tryz.results46, go_sem, t0, t1, t2, t3, t4, t5, t6, t7, t8]) rfl ⟨_, rfl, ⟨_, _, _, _, _, 0, by rw [HXE.out, HOE.out]; rfl, by rw [HXE.out]; exact mam_z, by rw [HXE.out]; exact slm_emp _⟩, ?_⟩
  refine bA ?_
  repeat (refine bS ?_ (by simp <;> omega))
  exact HB2.out
 | true =>
 have HOE : Hid (tbO m p o b n = true) := by show _ = _; unfold tbO; rw [h1, h2, pval_sp (mav_sp h1), h3]; rfl
 have HXS := Hd (tbO_yes HOE.out).2.2.2
 have HOK := Hd (pcs_ok h3)
 have hN := pcn_le h3
 have hpv : pcv 0 p o b = pcs p o b := by unfold pcv; rw [if_pos h3]
 rw [hpv] at HPC2 hlc5 ⊢
 rw [pcs_length] at hlc5 ⊢
 have HN1 := hN.1
 have HN2 := hN.2.1
 clear hN hpv
 generalize hNN : pcn p o b = N at *
 obtain ⟨a1, a2, a3, a4⟩ := mav_len h1
 obtain ⟨p0a, p1a, p2a, p3a, p4a, p5a, p6a, p7a, p8a⟩ := cells9 HX2.out
 go_wp2_with fail
 refine (l6Copy_any _ _ _ _ m _ (HM.out.now HB2.out) a1 a2 a3 a4).mono ?_
 rintro e w3 ⟨_, rfl, q1, q2, q3, q4, rfl, hM3, hb3⟩
 obtain ⟨D1, d1, rfl, _⟩ := hM3.t.b
 obtain ⟨D2, d2, rfl, _⟩ := hM3.t.f
 obtain ⟨D3, d3, rfl, _⟩ := hM3.l
 obtain ⟨D4, d4, rfl, _⟩ := hM3.o
 clear p0a p1a p2a p3a p4a p5a p6a p7a p8a a1 a2 a3 a4
 have HBW := Hd (bT HB2.out hb3)
 have HPC := Hd (HPC2.out.now (Nat.le_refl _) (bT HB12.out hb3))
 have hs3 := hb3.size
 have HR3 := HR2.out.below hb3
 obtain ⟨w4, hW4, ho4, hb4, hs4⟩ := box1 w3 #[.slice D1 m.t.bs.length d1, .slice D2 m.t.fs.length d2, .slice D3 m.c.ls.length d3, .int .i64 m.c.hand, .int .i64 m.g.count, .int .i64 m.g.next, .int .i64 m.g.round, .slice D4 m.g.os.length d4, .int .i64 m.sp] 48
 have hrow := owns_lit (base := w3.heap.size + 1) (e := 3) w4 1 (by omega)
 have hb5' : Below w3.heap.size w3 (w4.alloc (.cells #[] 3)) := bT hb4 (bA bR)
 have hm5 := (hM3.now hb5').mono (show w.heap.size ≤ w2.heap.size by omega)
 have HTB0 : Hid (TBs w w3 0 m [] (.slice D1 m.t.bs.length d1) (.slice D2 m.t.fs.length d2) (.slice D3 m.c.ls.length d3) (.slice D4 m.g.os.length d4) (.slice (some ⟨w4.heap.size, 0, none⟩) 0 0) (w4.alloc (.cells #[] 3))) := ⟨ho4.alloc, hm5.r, fun _ => hm5, hrow, HR3.below hb5', hb5', apart_far hM3 (fun k hk => by have e : w4.heap.size = k := Option.some.inj hk; omega)⟩
 rw [hs4] at HTB0
 have hw3 : w.heap.size + 2 ≤ w3.heap.size := by omega
 clear ho4 hb4 hM3 hb3 HR3 hrow hb5' hm5 HPC2 HX2 HR2 HB2
 go_upto_region 5 with fail
 try rw [hW4]
 clear hW4
 go_wp2
 go_loopw [17, 18, 19] (fun pl la u wr => ∃ (k : Nat) (mk : Ma) (l : List Int) (c1 c2 c3 c4 : Value) (la' : Int), k ≤ N ∧ u = .int .i64 k ∧ la = .int .i64 la' ∧ Hid (l.length = k) ∧ Hid (tbS n (pcs p o b) m [] 1 = tbS n ((pcs p o b).drop k) mk l la') ∧ Hid (mav mk = true) ∧ Hid (TBs w w3 k mk l c1 c2 c3 c4 pl wr)) (fun _ _ u _ => N - (intOf u).toNat)
 case atStart => exact ⟨0, m, [], _, _, _, _, 1, by omega, rfl, rfl, rfl, rfl, h1, HTB0⟩
 case round =>
  obtain ⟨k, mk, l, q1, q2, q3, q4, la, hk, rfl, rfl, hlk, HST, HMK, HTB⟩ := hrel
  clear HTB0
  obtain ⟨G1, g1, rfl, _⟩ := HTB.out.mr.t.b
  obtain ⟨G2, g2, rfl, _⟩ := HTB.out.mr.t.f
  obtain ⟨G3, g3, rfl, _⟩ := HTB.out.mr.l
  obtain ⟨G4, g4, rfl, _⟩ := HTB.out.mr.o
  obtain ⟨A8, c8, rfl, hlc8, hcm8, _⟩ := rs_own (E := intE) (l := l) rfl HTB.out.row
  by_cases hlt : k < N
  ·skip
   obtain ⟨q, eq⟩ : ∃ q, (pcs p o b)[k]? = some q := ⟨_, List.getElem?_eq_getElem (by rw [pcs_length]; omega)⟩
   have hstp := Hd (tbS_step (n := n) (m := mk) (l := l) (la := la) eq)
   obtain ⟨hq1, hq2⟩ := HOK.out q (List.mem_of_getElem? eq)
   have hfO : fbO mk q.1 q.2.1 n = true := by unfold fbO tchO; rw [HMK.out, hq1, hq2, h2]; rfl
   have HMV2 : Hid (mav (fbV mk q.1 q.2.1 n) = true) := by show _ = _; rw [(fbO_yes hfO).1]; exact mav_tch (fbO_parts hfO).1
   obtain ⟨b5, o5, hA5, hb5, hc5⟩ := (HPC.out.below HTB.out.bl).el eq
   subst hA5
   have y0 : Hid (wr.cell? ⟨b5, o5 + k * 3, none⟩ = some (.int .i64 q.1)) := hc5 0 _ rfl
   have y1 : Hid (wr.cell? ⟨b5, o5 + k * 3 + 1, none⟩ = some (.int .i64 q.2.1)) := hc5 1 _ rfl
   have hki : (k : Int) < (N : Int) := by omega
   have hk00 : (0 : Int) ≤ (k : Int) := by omega
   have hsw : w3.heap.size ≤ wr.heap.size := HTB.out.bl.size
   have KF : Hid (∀ W, Below wr.heap.size wr W → Calls Tryz.prog 120 #[.agg #[.slice G1 mk.t.bs.length g1, .slice G2 mk.t.fs.length g2, .slice G3 mk.c.ls.length g3, .int .i64 mk.c.hand, .int .i64 mk.g.count, .int .i64 mk.g.next, .int .i64 mk.g.round, .slice G4 mk.g.os.length g4, .int .i64 mk.sp], .int .i64 q.1, .int .i64 q.2.1, .int .i64 n] W (Post2 fun v w' => ∃ v1 v2 v3 v4, v = .tuple #[.agg #[v1, v2, v3, .int .i64 (fbV mk q.1 q.2.1 n).c.hand, .int .i64 (fbV mk q.1 q.2.1 n).g.count, .int .i64 (fbV mk q.1 q.2.1 n).g.next, .int .i64 (fbV mk q.1 q.2.1 n).g.round, v4, .int .i64 (fbV mk q.1 q.2.1 n).sp], .int .i64 (fbA mk q.1 q.2.1 n), .int .i64 (fbR mk q.1 q.2.1 n), .bool true] ∧ MaM W.heap.size w' v1 v2 v3 v4 (fbV mk q.1 q.2.1 n) ∧ Below W.heap.size W w')) := by
    intro W hb
    have h := sFindByte_any _ _ _ _ mk q.1 q.2.1 n W (HTB.out.mr.now hb)
    rw [hfO] at h
    exact h
   clear hc5 eq hq1 hq2 hfO
   generalize hV : fbV mk q.1 q.2.1 n = V at *
   generalize hrr : fbR mk q.1 q.2.1 n = rr at *
   generalize haa : fbA mk q.1 q.2.1 n = aa at *
   clear hV hrr haa
   go_upto_region 10 with fail
   refine wp_region_rel2 (by kernel_rfl) [56, 57, 58, 59, 60, 61, 62, 63, 64, 65, 66, 67, 68, 55, 69, 70, 71, 72, 20, 21, 22, 23] [[56], [57], [58], [59], [60], [61], [62], [63], [64], [65], [66], [67], [68], [55], [55, 69], [70], [71], [72], [20], [55, 20], [21], [22], [23]] (fun _ v => Below wr.heap.size wr v) (kxs (si := 19) [KX.eq 56 (.agg #[.slice G1 mk.t.bs.length g1, .slice G2 mk.t.fs.length g2, .slice G3 mk.c.ls.length g3, .int .i64 mk.c.hand, .int .i64 mk.g.count, .int .i64 mk.g.next, .int .i64 mk.g.round, .slice G4 mk.g.os.length g4, .int .i64 mk.sp]), KX.eq 57 (.slice (some ⟨b5, o5, none⟩) N c5), KX.eq 58 (.int .i64 (k : Int)), KX.eq 59 (.pointer (some ⟨b5, o5 + k * 3, none⟩)), KX.eq 60 (.pointer (some ⟨b5, o5 + k * 3, none⟩)), KX.eq 61 (.int .i64 q.1), KX.eq 62 (.slice (some ⟨b5, o5, none⟩) N c5), KX.eq 63 (.int .i64 (k : Int)), KX.eq 64 (.pointer (some ⟨b5, o5 + k * 3, none⟩)), KX.eq 65 (.pointer (some ⟨b5, o5 + k * 3 + 1, none⟩)), KX.eq 66 (.int .i64 q.2.1), KX.eq 67 (.int .i64 n), KX.tup 68 wr.heap.size (isF V aa rr), KX.tup 55 wr.heap.size (isF V aa rr), KX.fst 55 69 wr.heap.size (isF V aa rr), KX.eq 70 (.int .i64 aa), KX.eq 71 (.int .i64 rr), KX.eq 72 (.bool true), KX.box 20 wr.heap.size, KX.stored 55 20 wr.heap.size wr.heap.size (isF V aa rr), KX.eq 21 (.int .i64 aa), KX.eq 22 (.int .i64 rr), KX.eq 23 (.bool true)]) (tX 19) (by kernel_rfl) (bD bR) (kxs_loc (si := 19) (ks := [KX.eq 56 (.agg #[.slice G1 mk.t.bs.length g1, .slice G2 mk.t.fs.length g2, .slice G3 mk.c.ls.length g3, .int .i64 mk.c.hand, .int .i64 mk.g.count, .int .i64 mk.g.next, .int .i64 mk.g.round, .slice G4 mk.g.os.length g4, .int .i64 mk.sp]), KX.eq 57 (.slice (some ⟨b5, o5, none⟩) N c5), KX.eq 58 (.int .i64 (k : Int)), KX.eq 59 (.pointer (some ⟨b5, o5 + k * 3, none⟩)), KX.eq 60 (.pointer (some ⟨b5, o5 + k * 3, none⟩)), KX.eq 61 (.int .i64 q.1), KX.eq 62 (.slice (some ⟨b5, o5, none⟩) N c5), KX.eq 63 (.int .i64 (k : Int)), KX.eq 64 (.pointer (some ⟨b5, o5 + k * 3, none⟩)), KX.eq 65 (.pointer (some ⟨b5, o5 + k * 3 + 1, none⟩)), KX.eq 66 (.int .i64 q.2.1), KX.eq 67 (.int .i64 n), KX.tup 68 wr.heap.size (isF V aa rr), KX.tup 55 wr.heap.size (isF V aa rr), KX.fst 55 69 wr.heap.size (isF V aa rr), KX.eq 70 (.int .i64 aa), KX.eq 71 (.int .i64 rr), KX.eq 72 (.bool true), KX.box 20 wr.heap.size, KX.stored 55 20 wr.heap.size wr.heap.size (isF V aa rr), KX.eq 21 (.int .i64 aa), KX.eq 22 (.int .i64 rr), KX.eq 23 (.bool true)])) kxs_keep ?_ ?_
   ·intro i o ho D x v hD hC hd K hK
    match i, ho with
    | 0, ho =>
     cases ho
     simp only [fillA, Act.put, sA9, sB9, sC9] at hK ⊢
     have hx := HTB.out.ob.below hC
     obtain ⟨z0, z1, z2, z3, z4, z5, z6, z7, z8⟩ := cells9 hx
     go_simp
     exact hK _ _ (tX_same (by decide)) hC rfl
    | 1, ho =>
     cases ho
     simp only [fillA, Act.put, sA9, sB9, sC9] at hK ⊢
     go_simp
     exact hK _ _ (tX_same (by decide)) hC rfl
    | 2, ho =>
     cases ho
     simp only [fillA, Act.put, sA9, sB9, sC9] at hK ⊢
     go_simp
     exact hK _ _ (tX_same (by decide)) hC rfl
    | 3, ho =>
     cases ho
     simp only [fillA, Act.put, sA9, sB9, sC9] at hK ⊢
     have d0 := hd 1 ⟨⟨1, .data⟩, by simp, rfl, rfl⟩
     change x 57 = .slice (some ⟨b5, o5, none⟩) N c5 at d0
     have d1 := hd 2 ⟨⟨2, .data⟩, by simp, rfl, rfl⟩
     change x 58 = .int .i64 (k : Int) at d1
     simp only [d0, d1] at hK ⊢
     go_simp
     exact hK _ _ (tX_same (by decide)) hC rfl
    | 4, ho =>
     cases ho
     simp only [fillA, Act.put, sA9, sB9, sC9] at hK ⊢
     have d0 := hd 3 ⟨⟨3, .data⟩, by simp, rfl, rfl⟩
     change x 59 = .pointer (some ⟨b5, o5 + k * 3, none⟩) at d0
     simp only [d0] at hK ⊢
     go_simp
     exact hK _ _ (tX_same (by decide)) hC rfl
    | 5, ho =>
     cases ho
     simp only [fillA, Act.put, sA9, sB9, sC9] at hK ⊢
     have d0 := hd 4 ⟨⟨4, .data⟩, by simp, rfl, rfl⟩
     change x 60 = .pointer (some ⟨b5, o5 + k * 3, none⟩) at d0
     simp only [d0] at hK ⊢
     have y := (hC.cell (by show b5 < wr.heap.size; omega)).trans y0.out
     go_simp
     exact hK _ _ (tX_same (by decide)) hC rfl
    | 6, ho =>
     cases ho
     simp only [fillA, Act.put, sA9, sB9, sC9] at hK ⊢
     go_simp
     exact hK _ _ (tX_same (by decide)) hC rfl
    | 7, ho =>
     cases ho
     simp only [fillA, Act.put, sA9, sB9, sC9] at hK ⊢
     go_simp
     exact hK _ _ (tX_same (by decide)) hC rfl
    | 8, ho =>
     cases ho
     simp only [fillA, Act.put, sA9, sB9, sC9] at hK ⊢
     have d0 := hd 6 ⟨⟨6, .data⟩, by simp, rfl, rfl⟩
     change x 62 = .slice (some ⟨b5, o5, none⟩) N c5 at d0
     have d1 := hd 7 ⟨⟨7, .data⟩, by simp, rfl, rfl⟩
     change x 63 = .int .i64 (k : Int) at d1
     simp only [d0, d1] at hK ⊢
     go_simp
     exact hK _ _ (tX_same (by decide)) hC rfl
    | 9, ho =>
     cases ho
     simp only [fillA, Act.put, sA9, sB9, sC9] at hK ⊢
     have d0 := hd 8 ⟨⟨8, .data⟩, by simp, rfl, rfl⟩
     change x 64 = .pointer (some ⟨b5, o5 + k * 3, none⟩) at d0
     simp only [d0] at hK ⊢
     go_simp
     exact hK _ _ (tX_same (by decide)) hC rfl
    | 10, ho =>
     cases ho
     simp only [fillA, Act.put, sA9, sB9, sC9] at hK ⊢
     have d0 := hd 9 ⟨⟨9, .data⟩, by simp, rfl, rfl⟩
     change x 65 = .pointer (some ⟨b5, o5 + k * 3 + 1, none⟩) at d0
     simp only [d0] at hK ⊢
     have y := (hC.cell (by show b5 < wr.heap.size; omega)).trans y1.out
     go_simp
     exact hK _ _ (tX_same (by decide)) hC rfl
    | 11, ho =>
     cases ho
     simp only [fillA, Act.put, sA9, sB9, sC9] at hK ⊢
     go_simp
     exact hK _ _ (tX_same (by decide)) hC rfl
    | 12, ho =>
     cases ho
     simp only [fillA, Act.put, sA9, sB9, sC9] at hK ⊢
     have d0 := hd 0 ⟨⟨0, .data⟩, by simp, rfl, rfl⟩
     change x 56 = .agg #[.slice G1 mk.t.bs.length g1, .slice G2 mk.t.fs.length g2, .slice G3 mk.c.ls.length g3, .int .i64 mk.c.hand, .int .i64 mk.g.count, .int .i64 mk.g.next, .int .i64 mk.g.round, .slice G4 mk.g.os.length g4, .int .i64 mk.sp] at d0
     have d1 := hd 5 ⟨⟨5, .data⟩, by simp, rfl, rfl⟩
     change x 61 = .int .i64 q.1 at d1
     have d2 := hd 10 ⟨⟨10, .data⟩, by simp, rfl, rfl⟩
     change x 66 = .int .i64 q.2.1 at d2
     have d3 := hd 11 ⟨⟨11, .data⟩, by simp, rfl, rfl⟩
     change x 67 = .int .i64 n at d3
     simp only [d0, d1, d2, d3] at hK ⊢
     go_wp2_with fail
     refine (KF.out v hC).mono ?_
     rintro e v' ⟨_, rfl, f1, f2, f3, f4, rfl, hm2, hb⟩
     go_simp
     exact hK _ _ (tX_below (by decide) hb) (bT hC hb) ⟨V, f1, f2, f3, f4, ⟨rfl, rfl⟩, hm2.mono hC.size⟩
    | 13, ho =>
     cases ho
     simp only [fillA, Act.put, sA9, sB9, sC9] at hK ⊢
     obtain ⟨m', e1, e2, e3, e4, ⟨rfl, hx⟩, hm⟩ := hd 12 ⟨⟨12, .data⟩, by simp, rfl, rfl⟩
     change x 68 = _ at hx
     simp only [hx] at hK ⊢
     go_simp
     exact hK _ _ (tX_same (by decide)) hC ⟨_, e1, e2, e3, e4, ⟨rfl, rfl⟩, hm⟩
    | 14, ho =>
     cases ho
     simp only [fillA, Act.put, sA9, sB9, sC9] at hK ⊢
     obtain ⟨m', e1, e2, e3, e4, ⟨rfl, hx⟩, hm⟩ := hd 13 ⟨⟨13, .data⟩, by simp, rfl, rfl⟩
     change x 55 = _ at hx
     have hx' := hx
     simp only [hx'] at hK ⊢
     go_simp
     exact hK _ _ (tX_same (by decide)) hC ⟨_, e1, e2, e3, e4, ⟨rfl, hx⟩, rfl, hm⟩
    | 15, ho =>
     cases ho
     simp only [fillA, Act.put, sA9, sB9, sC9] at hK ⊢
     obtain ⟨m', e1, e2, e3, e4, ⟨rfl, hx⟩, hm⟩ := hd 13 ⟨⟨13, .data⟩, by simp, rfl, rfl⟩
     change x 55 = _ at hx
     simp only [hx] at hK ⊢
     go_simp
     exact hK _ _ (tX_same (by decide)) hC rfl
    | 16, ho =>
     cases ho
     simp only [fillA, Act.put, sA9, sB9, sC9] at hK ⊢
     obtain ⟨m', e1, e2, e3, e4, ⟨rfl, hx⟩, hm⟩ := hd 13 ⟨⟨13, .data⟩, by simp, rfl, rfl⟩
     change x 55 = _ at hx
     simp only [hx] at hK ⊢
     go_simp
     exact hK _ _ (tX_same (by decide)) hC rfl
    | 17, ho =>
     cases ho
     simp only [fillA, Act.put, sA9, sB9, sC9] at hK ⊢
     obtain ⟨m', e1, e2, e3, e4, ⟨rfl, hx⟩, hm⟩ := hd 13 ⟨⟨13, .data⟩, by simp, rfl, rfl⟩
     change x 55 = _ at hx
     simp only [hx] at hK ⊢
     go_simp
     exact hK _ _ (tX_same (by decide)) hC rfl
    | 18, ho =>
     cases ho
     simp only [fillA, Act.put, sA9, sB9, sC9] at hK ⊢
     go_simp
     exact hK _ _ (tX_below (by decide) (bA bR)) (bA hC) ⟨_, _, rfl, hC.size, rfl, Own.new_ _ _ _⟩
    | 19, ho =>
     cases ho
     simp only [fillA, Act.put, sA9, sB9, sC9] at hK ⊢
     obtain ⟨m', e1, e2, e3, e4, ⟨rfl, hf⟩, hx, hm⟩ := hd 14 ⟨⟨14, .data⟩, by simp, rfl, rfl⟩
     change x 69 = _ at hx
     change x 55 = _ at hf
     obtain ⟨gb, cs, db, hgb, hcs, ho⟩ := hd 18 ⟨⟨18, .data⟩, by simp, rfl, rfl⟩
     change x 20 = _ at db
     obtain ⟨E1, n1, rfl, _⟩ := hm.t.b
     obtain ⟨E2, n2, rfl, _⟩ := hm.t.f
     obtain ⟨E3, n3, rfl, _⟩ := hm.l
     obtain ⟨E4, n4, rfl, _⟩ := hm.o
     obtain ⟨cs⟩ := cs
     obtain ⟨k0, k1, k2, k3, k4, k5, k6, k7, k8, rfl⟩ := len_nine hcs
     obtain ⟨z0, z1, z2, z3, z4, z5, z6, z7, z8⟩ := cells9 ho
     obtain ⟨y0', y1', y2', y3', y4', y5', y6', y7', y8'⟩ := free9 ho
     have hlo := ho.lt
     have hf' := Hd hf
     clear hf
     simp only [hx, db] at hK ⊢
     go_simp
     refine hK undef _ (tX_store (stS_set9 ho _ _ _ _ _ _ _ _ _)) ?_ ⟨rfl, gb, _, _, _, _, _, db, hgb, ⟨rfl, hf'.out⟩, hm.oth (stS_set9 ho _ _ _ _ _ _ _ _ _).1 (by decide) (by decide) (by decide) (by decide), ho.set9 _ _ _ _ _ _ _ _ _⟩
     repeat (refine bS ?_ (by exact hgb))
     exact hC
    | 20, ho =>
     cases ho
     simp only [fillA, Act.put, sA9, sB9, sC9] at hK ⊢
     have d0 := hd 15 ⟨⟨15, .data⟩, by simp, rfl, rfl⟩
     change x 70 = .int .i64 aa at d0
     simp only [d0] at hK ⊢
     go_simp
     exact hK _ _ (tX_same (by decide)) hC rfl
    | 21, ho =>
     cases ho
     simp only [fillA, Act.put, sA9, sB9, sC9] at hK ⊢
     have d0 := hd 16 ⟨⟨16, .data⟩, by simp, rfl, rfl⟩
     change x 71 = .int .i64 rr at d0
     simp only [d0] at hK ⊢
     go_simp
     exact hK _ _ (tX_same (by decide)) hC rfl
    | 22, ho =>
     cases ho
     simp only [fillA, Act.put, sA9, sB9, sC9] at hK ⊢
     have d0 := hd 17 ⟨⟨17, .data⟩, by simp, rfl, rfl⟩
     change x 72 = .bool true at d0
     simp only [d0] at hK ⊢
     go_simp
     exact hK _ _ (tX_same (by decide)) hC rfl
    | _ + 23, ho => simp at ho
   intro D xa w7 hD hC hd
   obtain ⟨_, gb, V, q1, q2, q3, q4, db, hgb, ⟨rfl, hf⟩, hmm, hob⟩ := hd 19 (by decide)
   change xa 20 = _ at db
   clear hf
   have dA := hd 20 (by decide)
   change xa 21 = .int .i64 aa at dA
   have dB := hd 21 (by decide)
   change xa 22 = .int .i64 rr at dB
   have dC := hd 22 (by decide)
   change xa 23 = .bool true at dC
   simp only [fillA, Act.put, sA9, sB9, sC9, db, dA, dB, dC]
   clear hd hD db dA dB dC
   obtain ⟨L1, l1, rfl, _⟩ := hmm.t.b
   obtain ⟨L2, l2, rfl, _⟩ := hmm.t.f
   obtain ⟨L3, l3, rfl, _⟩ := hmm.l
   obtain ⟨L4, l4, rfl, _⟩ := hmm.o
   have HTB7 := Hd (HTB.out.below hC)
   have HM7 := Hd hmm
   have HO7 := Hd hob
   have HRB := Hd (row_lt HTB.out.row)
   clear hmm hob hC KF y0 y1
   obtain ⟨p0a, p1a, p2a, p3a, p4a, p5a, p6a, p7a, p8a⟩ := cells9 HO7.out
   obtain ⟨p0c, p1c, p2c, p3c, p4c, p5c, p6c, p7c, p8c⟩ := cells9 HTB7.out.ob
   obtain ⟨w0c, w1c, w2c, w3c, w4c, w5c, w6c, w7c, w8c⟩ := free9 HTB7.out.ob
   have hlo := HTB7.out.ob.lt
   have HM8 := Hd (HM7.out.chg (GT.set9 (q := chg) (B := w3.heap.size) HTB7.out.ob chg_ma (by decide) (Nat.le_refl _) (.slice L1 V.t.bs.length l1) (.slice L2 V.t.fs.length l2) (.slice L3 V.c.ls.length l3) (.int .i64 V.c.hand) (.int .i64 V.g.count) (.int .i64 V.g.next) (.int .i64 V.g.round) (.slice L4 V.g.os.length l4) (.int .i64 V.sp)).oth)
   have HTB8 := Hd (HTB7.out.put hw3 (HM7.out.mono (show w.heap.size ≤ wr.heap.size by omega)) (apart_new HM7.out HRB.out))
   go_upto_region 12 with fail
   clear p0a p1a p2a p3a p4a p5a p6a p7a p8a p0c p1c p2c p3c p4c p5c p6c p7c p8c w0c w1c w2c w3c w4c w5c w6c w7c w8c hlo HM7 HO7
   generalize (((((((((w7.setCell ⟨w3.heap.size, 0, none⟩ (.slice L1 V.t.bs.length l1)).setCell ⟨w3.heap.size, 1, none⟩ (.slice L2 V.t.fs.length l2)).setCell ⟨w3.heap.size, 2, none⟩ (.slice L3 V.c.ls.length l3)).setCell ⟨w3.heap.size, 3, none⟩ (.int .i64 V.c.hand)).setCell ⟨w3.heap.size, 4, none⟩ (.int .i64 V.g.count)).setCell ⟨w3.heap.size, 5, none⟩ (.int .i64 V.g.next)).setCell ⟨w3.heap.size, 6, none⟩ (.int .i64 V.g.round)).setCell ⟨w3.heap.size, 7, none⟩ (.slice L4 V.g.os.length l4)).setCell ⟨w3.heap.size, 8, none⟩ (.int .i64 V.sp)) = w8 at *
   clear HTB7
   go_cut [79] from 49 to 89 (fun u wx => u = .bool (decide (rr = 3 ∨ rr = 4)) ∧ wx = w8)
   case first =>
    by_cases h3r : rr = 3
    ·subst h3r
     go_wp2
     go_meet
     exact ⟨by simp, rfl⟩
    ·have e3 : (rr == 3) = false := beq_eq_false_iff_ne.2 h3r
     by_cases h4r : rr = 4
     ·subst h4r
      go_wp2
      go_meet
      exact ⟨by simp, rfl⟩
     ·have e4 : (rr == 4) = false := beq_eq_false_iff_ne.2 h4r
      have HD : Hid (decide (rr = 3 ∨ rr = 4) = false) := decide_eq_false (by omega)
      go_wp2
      go_meet
      exact ⟨by rw [HD.out], rfl⟩
   case rest =>
    obtain ⟨rfl, rfl⟩ := hcut
    have HSL := Hd (slm_own (l := l) rfl HTB8.out.row |>.mono (show w.heap.size ≤ w3.heap.size + 1 by omega))
    by_cases hs : rr = 3 ∨ rr = 4
    ·have HXE : Hid (tbX m p o b n = (V, l, rr)) := by show _ = _; rw [HXS.out, HST.out, hstp.out, if_pos hs]
     have hd : decide (rr = 3 ∨ rr = 4) = true := decide_eq_true hs
     rw [hd]
     have hk0 : 0 < k + 1 := Nat.succ_pos k
     have HTBE := HTB8
     clear hs hd HM8
     obtain ⟨p0a, p1a, p2a, p3a, p4a, p5a, p6a, p7a, p8a⟩ := cells9 HTBE.out.ob
     obtain ⟨r0x, r1x, r2x, r3x, r4x, r5x, r6x, r7x, r8x⟩ := cells9 HTBE.out.rb
     obtain ⟨z0x, z1x, z2x, z3x, z4x, z5x, z6x, z7x, z8x⟩ := free9 HTBE.out.rb
     have hlr := HTBE.out.rb.lt
     have hlo := HTBE.out.ob.lt
     have HSE := Hd (HSL.out.oth (GT.set9 (q := chg) (B := w.heap.size) HTBE.out.rb chg_ma (by decide) (by omega) (.slice L1 V.t.bs.length l1) (.slice L2 V.t.fs.length l2) (.slice L3 V.c.ls.length l3) (.int .i64 V.c.hand) (.int .i64 V.g.count) (.int .i64 V.g.next) (.int .i64 V.g.round) (.slice L4 V.g.os.length l4) (.int .i64 V.sp)).oth chg_int)
     go_wp2
     have o3 := HTBE.out.rb.set9 (.slice L1 V.t.bs.length l1) (.slice L2 V.t.fs.length l2) (.slice L3 V.c.ls.length l3) (.int .i64 V.c.hand) (.int .i64 V.g.count) (.int .i64 V.g.next) (.int .i64 V.g.round) (.slice L4 V.g.os.length l4) (.int .i64 V.sp)
     obtain ⟨t0, t1, t2, t3, t4, t5, t6, t7, t8⟩ := cells9 o3
     refine bodyPost_ret (v := .tuple #[.agg #[.slice L1 V.t.bs.length l1, .slice L2 V.t.fs.length l2, .slice L3 V.c.ls.length l3, .int .i64 V.c.hand, .int .i64 V.g.count, .int .i64 V.g.next, .int .i64 V.g.round, .slice L4 V.g.os.length l4, .int .i64 V.sp], .slice A8 l.length c8, .int .i64 rr, .bool true]) (by simp [results, Tryz.results46, go_sem, t0, t1, t2, t3, t4, t5, t6, t7, t8]) rfl ⟨_, rfl, ⟨_, _, _, _, A8, c8, by rw [HXE.out, HOE.out], by rw [HXE.out]; exact (HTBE.out.mm hk0).far9 HTBE.out.rb _ _ _ _ _ _ _ _ _, by rw [HXE.out]; exact HSE.out⟩, ?_⟩
     repeat (refine bS ?_ (by simp <;> omega))
     exact bT HBW.out HTBE.out.bl
    ·have HNX := Hd (HST.out.trans (hstp.out.trans (if_neg hs)))
     have hd : decide (rr = 3 ∨ rr = 4) = false := decide_eq_false hs
     rw [hd]
     have hw8 : w3.heap.size + 1 ≤ wc.heap.size := HTB8.out.ob.lt
     obtain ⟨v9, w9, hrun, hown9, hg9, h49⟩ := run_append_i (w3.heap.size + 1) wc (.slice A8 l.length c8) l.length l aa HTB8.out.row rfl (by have := hlk.out; omega) hw8
     have hbl : ∀ x, (Value.slice A8 l.length c8).ownBlock = some x → w3.heap.size + 1 ≤ x := own_block HTB8.out.row
     have ho9 := own_other (HTB8.out.ob.alloc (o := .cells #[.int .i64 aa] 3)) hg9 (fun h2 => by have := hbl _ h2.symm; omega)
     have hr9 := own_other (HTB8.out.rb.alloc (o := .cells #[.int .i64 aa] 3)) hg9 (fun h2 => by have := hbl _ h2.symm; omega)
     have hb9 := bG (bA HTB8.out.bl (o := .cells #[.int .i64 aa] 3)) hg9 (fun x hx => by have := hbl x hx; omega)
     have hm9 := ((HM8.out.now (bA (bR (w := wc)) (o := .cells #[.int .i64 aa] 3))).grow hg9 HRB.out).mono (show w.heap.size ≤ wr.heap.size by omega)
     have hap9 := apart_app HM8.out HTB8.out.ap h49
     clear h49
     obtain ⟨A9, c9, rfl, _⟩ := own_rd hown9
     have hown9' : w9.ownsRow (w3.heap.size + 1) 3 1 (.slice A9 (l.length + 1) c9) (l ++ [aa]).length (intE.cells (l ++ [aa])) := by rw [show (l ++ [aa]).length = l.length + 1 by simp]; exact hown9
     have HTB9 : Hid (TBs w w3 (k + 1) V (l ++ [aa]) _ _ _ _ (.slice A9 (l.length + 1) c9) w9) := ⟨ho9, hm9.r, fun _ => hm9, hown9', hr9, hb9, hap9⟩
     clear ho9 hr9 hb9 hm9 hown9 hown9' hg9 hap9 hbl HTB8 HM8 hs HSL
     by_cases h2r : rr = 2
     ·subst h2r
      have HN2x : Hid (tbS n (pcs p o b) m [] 1 = tbS n ((pcs p o b).drop (k + 1)) V (l ++ [aa]) 2) := Hd (by simpa using HNX.out)
      go_wp2_with (at_builtin; refine wpList_append_run _ rfl (.tmp 86) (.tmp 88) 22 rfl _ _ _ _ rfl rfl hrun ?_)
      go_roundw
      case rel => exact ⟨k + 1, V, l ++ [aa], _, _, _, _, 2, by omega, by simp, rfl, Hd (by have := hlk.out; simp; omega), HN2x, HMV2, HTB9⟩
      case measure => simp [intOf]; omega
     ·have e2 : (rr == 2) = false := beq_eq_false_iff_ne.2 h2r
      have HN2x : Hid (tbS n (pcs p o b) m [] 1 = tbS n ((pcs p o b).drop (k + 1)) V (l ++ [aa]) la) := Hd (by have h := HNX.out; rw [if_neg h2r] at h; exact h)
      go_wp2_with (at_builtin; refine wpList_append_run _ rfl (.tmp 86) (.tmp 88) 22 rfl _ _ _ _ rfl rfl hrun ?_)
      go_roundw
      case rel => exact ⟨k + 1, V, l ++ [aa], _, _, _, _, la, by omega, by simp, rfl, Hd (by have := hlk.out; simp; omega), HN2x, HMV2, HTB9⟩
      case measure => simp [intOf]; omega
  ·obtain rfl : k = N := by omega
   have hk0 : 0 < k := by omega
   have HXE : Hid (tbX m p o b n = (mk, l, la)) := by
    show _ = _
    rw [HXS.out, HST.out, List.drop_of_length_le (by rw [pcs_length]; omega)]
    rfl
   have HSL := Hd (slm_own (l := l) rfl HTB.out.row |>.mono (show w.heap.size ≤ w3.heap.size + 1 by omega))
   have hki : decide ((k : Int) < (k : Int)) = false := by simp
   have HTBE := HTB
   obtain ⟨p0a, p1a, p2a, p3a, p4a, p5a, p6a, p7a, p8a⟩ := cells9 HTBE.out.ob
   obtain ⟨r0x, r1x, r2x, r3x, r4x, r5x, r6x, r7x, r8x⟩ := cells9 HTBE.out.rb
   obtain ⟨z0x, z1x, z2x, z3x, z4x, z5x, z6x, z7x, z8x⟩ := free9 HTBE.out.rb
   have hlr := HTBE.out.rb.lt
   have hlo := HTBE.out.ob.lt
   have HSE := Hd (HSL.out.oth (GT.set9 (q := chg) (B := w.heap.size) HTBE.out.rb chg_ma (by decide) (by omega) (.slice G1 mk.t.bs.length g1) (.slice G2 mk.t.fs.length g2) (.slice G3 mk.c.ls.length g3) (.int .i64 mk.c.hand) (.int .i64 mk.g.count) (.int .i64 mk.g.next) (.int .i64 mk.g.round) (.slice G4 mk.g.os.length g4) (.int .i64 mk.sp)).oth chg_int)
   go_wp2
   have o3 := HTBE.out.rb.set9 (.slice G1 mk.t.bs.length g1) (.slice G2 mk.t.fs.length g2) (.slice G3 mk.c.ls.length g3) (.int .i64 mk.c.hand) (.int .i64 mk.g.count) (.int .i64 mk.g.next) (.int .i64 mk.g.round) (.slice G4 mk.g.os.length g4) (.int .i64 mk.sp)
   obtain ⟨t0, t1, t2, t3, t4, t5, t6, t7, t8⟩ := cells9 o3
   refine bodyPost_ret (v := .tuple #[.agg #[.slice G1 mk.t.bs.length g1, .slice G2 mk.t.fs.length g2, .slice G3 mk.c.ls.length g3, .int .i64 mk.c.hand, .int .i64 mk.g.count, .int .i64 mk.g.next, .int .i64 mk.g.round, .slice G4 mk.g.os.length g4, .int .i64 mk.sp], .slice A8 l.length c8, .int .i64 la, .bool true]) (by simp [results, Tryz.results46, go_sem, t0, t1, t2, t3, t4, t5, t6, t7, t8]) rfl ⟨_, rfl, ⟨_, _, _, _, A8, c8, by rw [HXE.out, HOE.out], by rw [HXE.out]; exact (HTBE.out.mm hk0).far9 HTBE.out.rb _ _ _ _ _ _ _ _ _, by rw [HXE.out]; exact HSE.out⟩, ?_⟩
   repeat (refine bS ?_ (by simp <;> omega))
   exact bT HBW.out HTBE.out.bl
end Go.Proofs.YtibpnlojlfcpmaaGreatDoor
