/- A part of the proofs of this seat: UpS. -/
import Derived.Test.YtfbnokjdkhcgoaaGreatDoorVBrS
set_option linter.unusedVariables false
set_option linter.unusedSimpArgs false
set_option maxRecDepth 1000000
namespace Go.Proofs.YtfbnokjdkhcgoaaGreatDoor
open Go.RowKit
theorem use_br {M N : Me} {p r : Int} {ok : Bool} (hm : misM M p = true) (h : brO M p r = if ok = true then some N else none) : useN M p r = if ok = true then some N else none := by unfold useN; rw [if_pos hm, h]
theorem key_kval {m : Ma} (h : MV m) {p : Int} (hp : inR p 256 = true) : kval (keyI m.sp p, p) = true := by
 have h1 := h.sp16
 unfold kval keyI
 split
 ·simp only [hp]; decide
 ·simp only [h1, hp]; rfl
set_option maxHeartbeats 16000000 in
theorem sUsePage_any (vb vf vl vo vk : Value) (M : Me) (p n r : Int) (w : World) (hM : MeR w vb vf vl vo vk M) :
  Calls Tryz.prog 14 #[.agg #[vb, vf, vl, .int .i64 M.m.c.hand, .int .i64 M.m.g.count, .int .i64 M.m.g.next, .int .i64 M.m.g.round, vo, .int .i64 M.m.sp, vk, .int .i64 M.h], .int .i64 p, .int .i64 n, .int .i64 r] w (Post2 fun v w' => ∃ v1 v2 v3 v4 v5, v = .tuple #[.agg #[v1, v2, v3, .int .i64 (useV M p n r).m.c.hand, .int .i64 (useV M p n r).m.g.count, .int .i64 (useV M p n r).m.g.next, .int .i64 (useV M p n r).m.g.round, v4, .int .i64 (useV M p n r).m.sp, v5, .int .i64 (useV M p n r).h], .int .i64 (useF M p n r), .int .i64 (useR M p n r), .bool (useO M p n r)] ∧ MeM w.heap.size w' v1 v2 v3 v4 v5 (useV M p n r) ∧ Below w.heap.size w w') := by
 have HM := Hd hM
 clear hM
 obtain ⟨W0, hW, hbx, hbo, hb0, hs0⟩ := box2 w #[vb, vf, vl, .int .i64 M.m.c.hand, .int .i64 M.m.g.count, .int .i64 M.m.g.next, .int .i64 M.m.g.round, vo, .int .i64 M.m.sp, vk, .int .i64 M.h] 37 #[.slice none 0 0, .slice none 0 0, .slice none 0 0, .int .i64 0, .int .i64 0, .int .i64 0, .int .i64 0, .slice none 0 0, .int .i64 0, .slice none 0 0, .int .i64 0] 37
 have HX0 := Hd hbx
 have HO0 := Hd hbo
 have HB0 := Hd hb0
 clear hbx hbo hb0
 obtain ⟨q0a, q1a, q2a, q3a, q4a, q5a, q6a, q7a, q8a, q9a, q10a⟩ := c11 HX0.out
 go_enter Tryz.func14, Tryz.ntmps14
 go_wp2_with fail
 refine (sMemoryValid_any vb vf vl vo vk M _ (HM.out.now HB0.out)).mono ?_
 rintro e w1 ⟨rfl, hb1⟩
 clear q0a q1a q2a q3a q4a q5a q6a q7a q8a q9a q10a
 have HX1 := Hd (HX0.out.below hb1)
 have HO1 := Hd (HO0.out.below hb1)
 have HB1 := Hd (bT HB0.out hb1)
 have hs1 : w.heap.size + 2 ≤ w1.heap.size := by have := hb1.size; omega
 clear hb1 HX0 HO0 HB0 hW
 cases h1 : mev M with
 | false =>
  have HA : Hid (useO M p n r = false) := useO_v h1
  have HV := Hd (useO_no HA.out)
  obtain ⟨q0x, q1x, q2x, q3x, q4x, q5x, q6x, q7x, q8x, q9x, q10x⟩ := c11 HO1.out
  obtain ⟨z0x, z1x, z2x, z3x, z4x, z5x, z6x, z7x, z8x, z9x, z10x⟩ := f11 HO1.out
  have hlr := HO1.out.lt
  go_wp2
  obtain ⟨_, rfl, hoz, _, _, _, _⟩ := put11 HO1.out (.slice none 0 0) (.slice none 0 0) (.slice none 0 0) (.int .i64 0) (.int .i64 0) (.int .i64 0) (.int .i64 0) (.slice none 0 0) (.int .i64 0) (.slice none 0 0) (.int .i64 0)
  obtain ⟨q0t, q1t, q2t, q3t, q4t, q5t, q6t, q7t, q8t, q9t, q10t⟩ := c11 hoz
  refine bodyPost_ret (v := .tuple #[.agg #[.slice none 0 0, .slice none 0 0, .slice none 0 0, .int .i64 0, .int .i64 0, .int .i64 0, .int .i64 0, .slice none 0 0, .int .i64 0, .slice none 0 0, .int .i64 0], .int .i64 0, .int .i64 0, .bool false]) (by simp [results, Tryz.results14, go_sem, q0t, q1t, q2t, q3t, q4t, q5t, q6t, q7t, q8t, q9t, q10t]) rfl ⟨_, rfl, _, _, _, _, _, by rw [HV.out.1, HV.out.2.1, HV.out.2.2, HA.out]; rfl, by rw [HV.out.1]; exact mem_z, ?_⟩
  repeat (refine bS ?_ (by simp <;> omega))
  exact HB1.out
 | true =>
 cases h2 : inR p 256 with
 | false =>
  go_wp2_with fail
  refine (l1Page_any _ _).mono ?_
  rintro e w' ⟨rfl, rfl⟩
  rw [h2]
  have HA : Hid (useO M p n r = false) := useO_p h2
  have HV := Hd (useO_no HA.out)
  obtain ⟨q0x, q1x, q2x, q3x, q4x, q5x, q6x, q7x, q8x, q9x, q10x⟩ := c11 HO1.out
  obtain ⟨z0x, z1x, z2x, z3x, z4x, z5x, z6x, z7x, z8x, z9x, z10x⟩ := f11 HO1.out
  have hlr := HO1.out.lt
  go_wp2
  obtain ⟨_, rfl, hoz, _, _, _, _⟩ := put11 HO1.out (.slice none 0 0) (.slice none 0 0) (.slice none 0 0) (.int .i64 0) (.int .i64 0) (.int .i64 0) (.int .i64 0) (.slice none 0 0) (.int .i64 0) (.slice none 0 0) (.int .i64 0)
  obtain ⟨q0t, q1t, q2t, q3t, q4t, q5t, q6t, q7t, q8t, q9t, q10t⟩ := c11 hoz
  refine bodyPost_ret (v := .tuple #[.agg #[.slice none 0 0, .slice none 0 0, .slice none 0 0, .int .i64 0, .int .i64 0, .int .i64 0, .int .i64 0, .slice none 0 0, .int .i64 0, .slice none 0 0, .int .i64 0], .int .i64 0, .int .i64 0, .bool false]) (by simp [results, Tryz.results14, go_sem, q0t, q1t, q2t, q3t, q4t, q5t, q6t, q7t, q8t, q9t, q10t]) rfl ⟨_, rfl, _, _, _, _, _, by rw [HV.out.1, HV.out.2.1, HV.out.2.2, HA.out]; rfl, by rw [HV.out.1]; exact mem_z, ?_⟩
  repeat (refine bS ?_ (by simp <;> omega))
  exact HB1.out
 | true =>
 go_wp2_with fail
 refine (l1Page_any _ _).mono ?_
 rintro e w' ⟨rfl, rfl⟩
 rw [h2]
 cases h3 : inR n 8 with
 | false =>
  go_wp2_with fail
  refine (sRightsValid_any _ _).mono ?_
  rintro e w' ⟨rfl, rfl⟩
  rw [h3]
  have HA : Hid (useO M p n r = false) := useO_n h3
  have HV := Hd (useO_no HA.out)
  obtain ⟨q0x, q1x, q2x, q3x, q4x, q5x, q6x, q7x, q8x, q9x, q10x⟩ := c11 HO1.out
  obtain ⟨z0x, z1x, z2x, z3x, z4x, z5x, z6x, z7x, z8x, z9x, z10x⟩ := f11 HO1.out
  have hlr := HO1.out.lt
  go_wp2
  obtain ⟨_, rfl, hoz, _, _, _, _⟩ := put11 HO1.out (.slice none 0 0) (.slice none 0 0) (.slice none 0 0) (.int .i64 0) (.int .i64 0) (.int .i64 0) (.int .i64 0) (.slice none 0 0) (.int .i64 0) (.slice none 0 0) (.int .i64 0)
  obtain ⟨q0t, q1t, q2t, q3t, q4t, q5t, q6t, q7t, q8t, q9t, q10t⟩ := c11 hoz
  refine bodyPost_ret (v := .tuple #[.agg #[.slice none 0 0, .slice none 0 0, .slice none 0 0, .int .i64 0, .int .i64 0, .int .i64 0, .int .i64 0, .slice none 0 0, .int .i64 0, .slice none 0 0, .int .i64 0], .int .i64 0, .int .i64 0, .bool false]) (by simp [results, Tryz.results14, go_sem, q0t, q1t, q2t, q3t, q4t, q5t, q6t, q7t, q8t, q9t, q10t]) rfl ⟨_, rfl, _, _, _, _, _, by rw [HV.out.1, HV.out.2.1, HV.out.2.2, HA.out]; rfl, by rw [HV.out.1]; exact mem_z, ?_⟩
  repeat (refine bS ?_ (by simp <;> omega))
  exact HB1.out
 | true =>
 go_wp2_with fail
 refine (sRightsValid_any _ _).mono ?_
 rintro e w' ⟨rfl, rfl⟩
 rw [h3]
 cases h4 : inR r 8 with
 | false =>
  go_wp2_with fail
  refine (sRightsValid_any _ _).mono ?_
  rintro e w' ⟨rfl, rfl⟩
  rw [h4]
  have HA : Hid (useO M p n r = false) := useO_r h4
  have HV := Hd (useO_no HA.out)
  obtain ⟨q0x, q1x, q2x, q3x, q4x, q5x, q6x, q7x, q8x, q9x, q10x⟩ := c11 HO1.out
  obtain ⟨z0x, z1x, z2x, z3x, z4x, z5x, z6x, z7x, z8x, z9x, z10x⟩ := f11 HO1.out
  have hlr := HO1.out.lt
  go_wp2
  obtain ⟨_, rfl, hoz, _, _, _, _⟩ := put11 HO1.out (.slice none 0 0) (.slice none 0 0) (.slice none 0 0) (.int .i64 0) (.int .i64 0) (.int .i64 0) (.int .i64 0) (.slice none 0 0) (.int .i64 0) (.slice none 0 0) (.int .i64 0)
  obtain ⟨q0t, q1t, q2t, q3t, q4t, q5t, q6t, q7t, q8t, q9t, q10t⟩ := c11 hoz
  refine bodyPost_ret (v := .tuple #[.agg #[.slice none 0 0, .slice none 0 0, .slice none 0 0, .int .i64 0, .int .i64 0, .int .i64 0, .int .i64 0, .slice none 0 0, .int .i64 0, .slice none 0 0, .int .i64 0], .int .i64 0, .int .i64 0, .bool false]) (by simp [results, Tryz.results14, go_sem, q0t, q1t, q2t, q3t, q4t, q5t, q6t, q7t, q8t, q9t, q10t]) rfl ⟨_, rfl, _, _, _, _, _, by rw [HV.out.1, HV.out.2.1, HV.out.2.2, HA.out]; rfl, by rw [HV.out.1]; exact mem_z, ?_⟩
  repeat (refine bS ?_ (by simp <;> omega))
  exact HB1.out
 | true =>
 go_wp2_with fail
 refine (sRightsValid_any _ _).mono ?_
 rintro e w' ⟨rfl, rfl⟩
 rw [h4]
 obtain ⟨a1, a2, a3, a4, a5, a6⟩ := mev_len h1
 obtain ⟨q0b, q1b, q2b, q3b, q4b, q5b, q6b, q7b, q8b, q9b, q10b⟩ := c11 HX1.out
 go_wp2_with fail
 refine (l7Copy_any vb vf vl vo vk M _ (HM.out.now HB1.out) a1 a2 a3 a4 (by omega) a6).mono ?_
 rintro e w3 ⟨_, rfl, q1, q2, q3, q4, q5, rfl, hM3, hb3⟩
 clear q0b q1b q2b q3b q4b q5b q6b q7b q8b q9b q10b
 have hM3' := hM3.mono hs1
 obtain ⟨A1, c1, A2, c2, A3, c3, A4, c4, g5, c5, rfl, rfl, rfl, rfl, rfl⟩ := hM3'.open a6
 obtain ⟨w4, hW4, ho4, hb4, hs4⟩ := box1 w3 #[.slice A1 M.m.t.bs.length c1, .slice A2 M.m.t.fs.length c2, .slice A3 M.m.c.ls.length c3, .int .i64 M.m.c.hand, .int .i64 M.m.g.count, .int .i64 M.m.g.next, .int .i64 M.m.g.round, .slice A4 M.m.g.os.length c4, .int .i64 M.m.sp, .slice (some ⟨g5, 0, none⟩) M.mk.length c5, .int .i64 M.h] 37
 have U4 : Hid (Us w w3.heap.size (.slice A1 M.m.t.bs.length c1) (.slice A2 M.m.t.fs.length c2) (.slice A3 M.m.c.ls.length c3) (.slice A4 M.m.g.os.length c4) (.slice (some ⟨g5, 0, none⟩) M.mk.length c5) M w4) := ⟨ho4, hM3'.now hb4, (HO1.out.below hb3).below hb4, bT (bT HB1.out hb3) hb4⟩
 have HX4 := Hd ((HX1.out.below hb3).below hb4)
 have HB4 := Hd U4.out.bl
 have hG : w.heap.size + 2 ≤ w3.heap.size := by have := hb3.size; omega
 have HV1 := Hd (And.intro h1 (And.intro h2 (And.intro h3 h4)))
 have HMV := Hd (mev_MEV.1 h1)
 have HTV := Hd (And.intro (mav_parts (mav_MV.2 (mev_MEV.1 h1).m)).1 (key_kval (mev_MEV.1 h1).m h2))
 clear hM3 hM3' hb3 ho4 hb4 HX1 HO1 HB1 h1 h2 h3 h4
 go_upto_region 4 with fail
 try rw [hW4]
 clear hW4
 refine wp_region_kp (by kernel_rfl) [44, 45, 46, 47, 48, 49, 50, 51, 52, 43, 53, 54, 13, 14] [44, 45, 46, 47, 48, 49, 50, 51, 52, 43, 53, 54, 13, 14] 34 (fun _ => True) (w4.heap.size) 99 [KP.eq (.pointer (some ⟨w.heap.size, 0, none⟩)), KP.eq (.pointer (some ⟨w.heap.size, 0, none⟩)), KP.eq (.agg #[vb, vf]), KP.eq (.pointer (some ⟨w.heap.size, 0, none⟩)), KP.eq (.pointer (some ⟨w.heap.size, 8, none⟩)), KP.eq (.int .i64 M.m.sp), KP.eq (.int .i64 p), KP.eq (.agg #[.int .i64 (keyI M.m.sp p), .int .i64 p]), KP.tun (fndI M.m.t.fs (keyI M.m.sp p) p), KP.tun (fndI M.m.t.fs (keyI M.m.sp p) p), KP.eq (.int .i64 (fndI M.m.t.fs (keyI M.m.sp p) p)), KP.int, KP.eq (.int .i64 (fndI M.m.t.fs (keyI M.m.sp p) p)), KP.int] (fun _ _ => True) (fun v => (Below (w4.heap.size) w4 v) ∧ (Own v (w.heap.size) 37 #[vb, vf, vl, .int .i64 M.m.c.hand, .int .i64 M.m.g.count, .int .i64 M.m.g.next, .int .i64 M.m.g.round, vo, .int .i64 M.m.sp, vk, .int .i64 M.h])) (by kernel_rfl) rfl ⟨bD bR, HX4.out.drew⟩ (fun v h => Nat.le_trans (by omega) h.1.size) (fun v v' ht ⟨hb, h_x⟩ => ⟨hb.trans ht.bel, ht.oth.2 _ _ _ h_x (by decide)⟩) (fun _ _ _ _ h => h) ?_ ?_
 ·intro i o ho x v hC hd K hK
  match i, ho with
  | 0, ho =>
   cases ho
   simp only [fillA, Act.put, sA9, sB9, sC9] at hK ⊢
   go_simp
   exact hK _ _ kpT_same rfl
  | 1, ho =>
   cases ho
   simp only [fillA, Act.put, sA9, sB9, sC9] at hK ⊢
   have d0 := hd 0 ⟨⟨0, .data⟩, by simp, rfl, rfl⟩ (by decide)
   change x 44 = .pointer (some ⟨w.heap.size, 0, none⟩) at d0
   simp only [d0] at hK ⊢
   go_simp
   exact hK _ _ kpT_same rfl
  | 2, ho =>
   cases ho
   simp only [fillA, Act.put, sA9, sB9, sC9] at hK ⊢
   obtain ⟨hbw, hx_x⟩ := hC
   have z0 := hx_x.cell_ 0 (v := vb) rfl
   have z1 := hx_x.cell_ 1 (v := vf) rfl
   have d0 := hd 1 ⟨⟨1, .data⟩, by simp, rfl, rfl⟩ (by decide)
   change x 45 = .pointer (some ⟨w.heap.size, 0, none⟩) at d0
   simp only [d0] at hK ⊢
   go_simp
   exact hK _ _ kpT_same rfl
  | 3, ho =>
   cases ho
   simp only [fillA, Act.put, sA9, sB9, sC9] at hK ⊢
   go_simp
   exact hK _ _ kpT_same rfl
  | 4, ho =>
   cases ho
   simp only [fillA, Act.put, sA9, sB9, sC9] at hK ⊢
   have d0 := hd 3 ⟨⟨3, .data⟩, by simp, rfl, rfl⟩ (by decide)
   change x 47 = .pointer (some ⟨w.heap.size, 0, none⟩) at d0
   simp only [d0] at hK ⊢
   go_simp
   exact hK _ _ kpT_same rfl
  | 5, ho =>
   cases ho
   simp only [fillA, Act.put, sA9, sB9, sC9] at hK ⊢
   obtain ⟨hbw, hx_x⟩ := hC
   have z8 := hx_x.cell_ 8 (v := .int .i64 M.m.sp) rfl
   have d0 := hd 4 ⟨⟨4, .data⟩, by simp, rfl, rfl⟩ (by decide)
   change x 48 = .pointer (some ⟨w.heap.size, 8, none⟩) at d0
   simp only [d0] at hK ⊢
   go_simp
   exact hK _ _ kpT_same rfl
  | 6, ho =>
   cases ho
   simp only [fillA, Act.put, sA9, sB9, sC9] at hK ⊢
   go_simp
   exact hK _ _ kpT_same rfl
  | 7, ho =>
   cases ho
   simp only [fillA, Act.put, sA9, sB9, sC9] at hK ⊢
   obtain ⟨hbw, hx_x⟩ := hC
   have d0 := hd 5 ⟨⟨5, .data⟩, by simp, rfl, rfl⟩ (by decide)
   change x 49 = .int .i64 M.m.sp at d0
   have d1 := hd 6 ⟨⟨6, .data⟩, by simp, rfl, rfl⟩ (by decide)
   change x 50 = .int .i64 p at d1
   simp only [d0, d1] at hK ⊢
   go_wp2_with fail
   refine (sKeyFor_any M.m.sp p v).mono ?_
   rintro e v' ⟨rfl, hb⟩
   go_simp
   exact hK _ _ (kpT_below (by decide) hb) rfl
  | 8, ho =>
   cases ho
   simp only [fillA, Act.put, sA9, sB9, sC9] at hK ⊢
   obtain ⟨hbw, hx_x⟩ := hC
   have d0 := hd 2 ⟨⟨2, .data⟩, by simp, rfl, rfl⟩ (by decide)
   change x 46 = .agg #[vb, vf] at d0
   have d1 := hd 7 ⟨⟨7, .data⟩, by simp, rfl, rfl⟩ (by decide)
   change x 51 = .agg #[.int .i64 (keyI M.m.sp p), .int .i64 p] at d1
   simp only [d0, d1] at hK ⊢
   go_wp2_with fail
   refine (l3Find_any vb vf M.m.t (keyI M.m.sp p) p v (HM.out.m.t.now (bT HB4.out hbw)) HTV.out.1 HTV.out.2).mono ?_
   rintro e v' ⟨nn, rfl, hb⟩
   go_simp
   exact hK _ _ (kpT_below (by decide) hb) ⟨_, rfl⟩
  | 9, ho =>
   cases ho
   simp only [fillA, Act.put, sA9, sB9, sC9] at hK ⊢
   have d0 := hd 8 ⟨⟨8, .data⟩, by simp, rfl, rfl⟩ (by decide)
   obtain ⟨nX, d0⟩ := d0
   change x 52 = _ at d0
   simp only [d0] at hK ⊢
   go_simp
   exact hK _ _ kpT_same ⟨_, rfl⟩
  | 10, ho =>
   cases ho
   simp only [fillA, Act.put, sA9, sB9, sC9] at hK ⊢
   have d0 := hd 9 ⟨⟨9, .data⟩, by simp, rfl, rfl⟩ (by decide)
   obtain ⟨nX, d0⟩ := d0
   change x 43 = _ at d0
   simp only [d0] at hK ⊢
   go_simp
   exact hK _ _ kpT_same rfl
  | 11, ho =>
   cases ho
   simp only [fillA, Act.put, sA9, sB9, sC9] at hK ⊢
   have d0 := hd 9 ⟨⟨9, .data⟩, by simp, rfl, rfl⟩ (by decide)
   obtain ⟨nX, d0⟩ := d0
   change x 43 = _ at d0
   simp only [d0] at hK ⊢
   go_simp
   exact hK _ _ kpT_same ⟨_, rfl⟩
  | 12, ho =>
   cases ho
   simp only [fillA, Act.put, sA9, sB9, sC9] at hK ⊢
   have d0 := hd 10 ⟨⟨10, .data⟩, by simp, rfl, rfl⟩ (by decide)
   change x 53 = .int .i64 (fndI M.m.t.fs (keyI M.m.sp p) p) at d0
   simp only [d0] at hK ⊢
   go_simp
   exact hK _ _ kpT_same rfl
  | 13, ho =>
   cases ho
   simp only [fillA, Act.put, sA9, sB9, sC9] at hK ⊢
   have d0 := hd 11 ⟨⟨11, .data⟩, by simp, rfl, rfl⟩ (by decide)
   obtain ⟨nX, d0⟩ := d0
   change x 54 = _ at d0
   simp only [d0] at hK ⊢
   go_simp
   exact hK _ _ kpT_same ⟨_, rfl⟩
  | _ + 14, ho => simp at ho
 intro xa wz hC hd
 obtain ⟨hbz, hoz⟩ := hC
 have dL13 := hd 12 (by decide)
 change xa 13 = .int .i64 (fndI M.m.t.fs (keyI M.m.sp p) p) at dL13
 have dL14 := hd 13 (by decide)
 obtain ⟨n14, dL14⟩ := dL14
 change xa 14 = _ at dL14
 simp only [fillA, Act.put, sA9, sB9, sC9, dL13, dL14]
 clear hd dL13 dL14
 have U5 := Hd (U4.out.below hbz)
 have HX5 : Hid (Own wz w.heap.size 37 #[vb, vf, vl, .int .i64 M.m.c.hand, .int .i64 M.m.g.count, .int .i64 M.m.g.next, .int .i64 M.m.g.round, vo, .int .i64 M.m.sp, vk, .int .i64 M.h]) := hoz
 have hmis : misM M p = decide (fndI M.m.t.fs (keyI M.m.sp p) p < 0) := rfl
 clear hbz hoz U4 HX4 hs4 HB4 HTV
 generalize hZ : fndI M.m.t.fs (keyI M.m.sp p) p = Z at hmis ⊢
 have HMIS := Hd hmis
 clear hZ hmis
 go_upto_if 57 with fail
 go_cut [15] from 16 (fun u wx => ∃ (N : Me) (v1 v2 v3 v4 v5 : Value), u = .bool (misM M p) ∧ Hid (useN M p r = some N) ∧ Hid (Us w w3.heap.size v1 v2 v3 v4 v5 N wx))
 case first =>
  by_cases hz : Z < 0
  ·have HM1 : Hid (misM M p = true) := by show _ = _; rw [HMIS.out]; exact decide_eq_true hz
   obtain ⟨q0o, q1o, q2o, q3o, q4o, q5o, q6o, q7o, q8o, q9o, q10o⟩ := c11 HX5.out
   go_wp2_with fail
   refine (l7Bring_any vb vf vl vo vk M p r _ (HM.out.now U5.out.bl) HV1.out.1).mono ?_
   rintro e w8 ⟨_, rfl, q1, q2, q3, q4, q5, N0, ok, rfl, hM9, hbr, hb8⟩
   clear q0o q1o q2o q3o q4o q5o q6o q7o q8o q9o q10o
   have HBR := Hd (use_br HM1.out hbr)
   have hM9' := hM9.mono (show w.heap.size + 2 ≤ wz.heap.size by have := U5.out.ob.lt; omega)
   obtain ⟨D1, r1, rfl, _⟩ := id hM9'.m.t.b
   obtain ⟨D2, r2, rfl, _⟩ := id hM9'.m.t.f
   obtain ⟨D3, r3, rfl, _⟩ := id hM9'.m.l
   obtain ⟨D4, r4, rfl, _⟩ := id hM9'.m.o
   obtain ⟨D5, r5, rfl, _⟩ := id hM9'.k
   obtain ⟨wb, hWb, hob, hbb, hsb⟩ := box1 w8 #[.slice D1 N0.m.t.bs.length r1, .slice D2 N0.m.t.fs.length r2, .slice D3 N0.m.c.ls.length r3, .int .i64 N0.m.c.hand, .int .i64 N0.m.g.count, .int .i64 N0.m.g.next, .int .i64 N0.m.g.round, .slice D4 N0.m.g.os.length r4, .int .i64 N0.m.sp, .slice D5 N0.mk.length r5, .int .i64 N0.h] 37
   have UB := Hd ((U5.out.below hb8).below hbb)
   have HNB := Hd hob
   have HMB := Hd (hM9'.now hbb)
   clear hob hbb hM9 hM9' hb8 U5 HX5 hbr
   go_upto_region 8 with fail
   try rw [hWb]
   clear hWb
   cases ok with
   | false =>
    have hno := HBR.out
    rw [if_neg (by decide)] at hno
    have HA : Hid (useO M p n r = false) := useO_none hno
    have HV := Hd (useO_no HA.out)
    have HRR := Hd UB.out.rb
    have HBB := Hd UB.out.bl
    clear hno
    obtain ⟨q0x, q1x, q2x, q3x, q4x, q5x, q6x, q7x, q8x, q9x, q10x⟩ := c11 HRR.out
    obtain ⟨z0x, z1x, z2x, z3x, z4x, z5x, z6x, z7x, z8x, z9x, z10x⟩ := f11 HRR.out
    have hlr := HRR.out.lt
    go_wp2
    obtain ⟨_, rfl, hoz, _, _, _, _⟩ := put11 HRR.out (.slice none 0 0) (.slice none 0 0) (.slice none 0 0) (.int .i64 0) (.int .i64 0) (.int .i64 0) (.int .i64 0) (.slice none 0 0) (.int .i64 0) (.slice none 0 0) (.int .i64 0)
    obtain ⟨q0t, q1t, q2t, q3t, q4t, q5t, q6t, q7t, q8t, q9t, q10t⟩ := c11 hoz
    refine bodyPost_ret (v := .tuple #[.agg #[.slice none 0 0, .slice none 0 0, .slice none 0 0, .int .i64 0, .int .i64 0, .int .i64 0, .int .i64 0, .slice none 0 0, .int .i64 0, .slice none 0 0, .int .i64 0], .int .i64 0, .int .i64 0, .bool false]) (by simp [results, Tryz.results14, go_sem, q0t, q1t, q2t, q3t, q4t, q5t, q6t, q7t, q8t, q9t, q10t]) rfl ⟨_, rfl, _, _, _, _, _, by rw [HV.out.1, HV.out.2.1, HV.out.2.2, HA.out]; rfl, by rw [HV.out.1]; exact mem_z, ?_⟩
    repeat (refine bS ?_ (by simp <;> omega))
    exact HBB.out
   | true =>
    have hyes := HBR.out
    rw [if_pos rfl] at hyes
    have HN := Hd hyes
    clear hyes HBR
    obtain ⟨q0y, q1y, q2y, q3y, q4y, q5y, q6y, q7y, q8y, q9y, q10y⟩ := c11 HNB.out
    obtain ⟨z0x, z1x, z2x, z3x, z4x, z5x, z6x, z7x, z8x, z9x, z10x⟩ := f11 UB.out.ob
    obtain ⟨q0x, q1x, q2x, q3x, q4x, q5x, q6x, q7x, q8x, q9x, q10x⟩ := c11 UB.out.ob
    have hlo := UB.out.ob.lt
    have hly := HNB.out.lt
    obtain ⟨_, rfl, u9, hs9, hfar9⟩ := UB.out.all hG HMB.out
    go_wp2
    go_meet
    exact ⟨N0, _, _, _, _, _, by rw [HM1.out], HN, Hd u9⟩
  ·have HM1 : Hid (misM M p = false) := by show _ = _; rw [HMIS.out]; exact decide_eq_false hz
   have HN := Hd (use_stay (r := r) HM1.out)
   go_wp2
   go_meet
   exact ⟨M, _, _, _, _, _, by rw [HM1.out, decide_eq_false (show ¬ Z < 0 by omega)], HN, U5⟩
 case rest =>
  obtain ⟨N, v1, v2, v3, v4, v5, rfl, HN, UN⟩ := hcut
  have hna := useN_at HMV.out HN.out
  obtain ⟨htO, k, hk, hkl⟩ := useN_tch HMV.out HN.out HV1.out.2.1 HV1.out.2.2.1
  obtain ⟨hO, hVV, hFF, hRR⟩ := useO_some HV1.out.1 HV1.out.2.1 HV1.out.2.2.1 HV1.out.2.2.2 HN.out
  rw [hk] at hFF
  rw [hk, Int.toNat_natCast] at hVV
  have HTP := Hd (sTouchPage_any v1 v2 v3 v4 N.m p n wc UN.out.mm.m.r)
  obtain ⟨T2, hT2⟩ : ∃ T2, tchV N.m p n = T2 := ⟨_, rfl⟩
  obtain ⟨R, hR⟩ : ∃ R, tchR N.m p n = R := ⟨_, rfl⟩
  rw [htO, hk, hT2, hR] at HTP
  rw [hT2] at hVV
  rw [hR] at hRR
  have hmk1 : 1 ≤ N.mk.length := by rw [hna.2.1]; exact a6
  have hmk16 : N.mk.length ≤ 16 := by rw [hna.2.1]; exact a5
  obtain ⟨x, ex⟩ : ∃ x, N.mk[k]? = some x := ⟨_, List.getElem?_eq_getElem hkl⟩
  have EX := Hd ex
  have hRng : 0 ≤ R ∧ R ≤ 4 := by rw [← hR]; exact tchR_rng _ _ _
  have HRES := Hd (And.intro hO (And.intro hVV (And.intro hFF hRR)))
  have hswc := UN.out.ob.lt
  clear hna htO hk hO hVV hFF hRR hT2 hR ex U5
  obtain ⟨q0o, q1o, q2o, q3o, q4o, q5o, q6o, q7o, q8o, q9o, q10o⟩ := c11 UN.out.ob
  go_wp2_with fail
  refine HTP.out.mono ?_
  rintro e w12 ⟨_, rfl, q1, q2, q3, q4, rfl, hM12, hb12⟩
  clear q0o q1o q2o q3o q4o q5o q6o q7o q8o q9o q10o
  clear HTP
  obtain ⟨E1, s1, E2, s2, E3, s3, E4, s4, rfl, rfl, rfl, rfl⟩ := hM12.open
  obtain ⟨w13, hW13, ho13, hb13, hs13⟩ := box1 w12 #[.slice E1 T2.t.bs.length s1, .slice E2 T2.t.fs.length s2, .slice E3 T2.c.ls.length s3, .int .i64 T2.c.hand, .int .i64 T2.g.count, .int .i64 T2.g.next, .int .i64 T2.g.round, .slice E4 T2.g.os.length s4, .int .i64 T2.sp] 34
  have U13 := Hd ((UN.out.below hb12).below hb13)
  have HQ13 := Hd ho13
  have HM13 := Hd ((hM12.now hb13).mono (show w.heap.size + 2 ≤ wc.heap.size by omega))
  have hs12 := hb12.size
  clear hM12 hb12 ho13 hb13 UN
  go_upto_region 12 with fail
  try rw [hW13]
  clear hW13
  obtain ⟨y0, y1, y2, y3, y4, y5, y6, y7, y8⟩ := cells9 HQ13.out
  obtain ⟨q0x, q1x, q2x, q3x, q4x, q5x, q6x, q7x, q8x, q9x, q10x⟩ := c11 U13.out.ob
  obtain ⟨z0x, z1x, z2x, z3x, z4x, z5x, z6x, z7x, z8x, z9x, z10x⟩ := f11 U13.out.ob
  have hlo := U13.out.ob.lt
  have hlq := (HQ13.out).lt
  obtain ⟨_, rfl, u11, hs11, hfar11⟩ := U13.out.mach hG (MaM.mono HM13.out (Nat.le_refl _))
  obtain ⟨w14, hW14⟩ : ∃ W, ((((((((w13.setCell ⟨w3.heap.size, 0, none⟩ (.slice E1 T2.t.bs.length s1)).setCell ⟨w3.heap.size, 1, none⟩ (.slice E2 T2.t.fs.length s2)).setCell ⟨w3.heap.size, 2, none⟩ (.slice E3 T2.c.ls.length s3)).setCell ⟨w3.heap.size, 3, none⟩ (.int .i64 T2.c.hand)).setCell ⟨w3.heap.size, 4, none⟩ (.int .i64 T2.g.count)).setCell ⟨w3.heap.size, 5, none⟩ (.int .i64 T2.g.next)).setCell ⟨w3.heap.size, 6, none⟩ (.int .i64 T2.g.round)).setCell ⟨w3.heap.size, 7, none⟩ (.slice E4 T2.g.os.length s4)).setCell ⟨w3.heap.size, 8, none⟩ (.int .i64 T2.sp) = W := ⟨_, rfl⟩
  rw [hW14] at u11
  have U14 := Hd u11
  go_upto_region 13 with fail
  try rw [hW14]
  clear hW14 u11 hfar11 hs11 U13 HQ13 HM13
  clear y0 y1 y2 y3 y4 y5 y6 y7 y8 hlo hlq
  clear q0x q1x q2x q3x q4x q5x q6x q7x q8x q9x q10x
  clear z0x z1x z2x z3x z4x z5x z6x z7x z8x z9x z10x
  obtain ⟨g5, c5, e5⟩ := U14.out.mm.mk5 (show 1 ≤ N.mk.length from hmk1)
  subst e5
  have U14' : Us w w3.heap.size _ _ _ _ (.slice (some ⟨g5, 0, none⟩) N.mk.length c5) ⟨T2, N.mk, N.h⟩ w14 := U14.out
  obtain ⟨w15, hW15, u15, hs15⟩ := U14'.mark EX.out true
  obtain ⟨d0, d1, d2⟩ := U14'.fz EX.out
  have n9 := U14'.ob.cell_ 9 (v := .slice (some ⟨g5, 0, none⟩) N.mk.length c5) rfl
  have hlo := U14'.ob.lt
  obtain ⟨Z2, hZ2⟩ : ∃ Z2 : Me, (⟨T2, N.mk.set k true, N.h⟩ : Me) = Z2 := ⟨_, rfl⟩
  have u15' : Us w w3.heap.size _ _ _ _ _ (⟨T2, N.mk.set k true, N.h⟩ : Me) w15 := u15
  rw [hZ2] at u15'
  have hV2 := HRES.out.2.1
  rw [hZ2] at hV2
  have U15 := Hd u15'
  have HVV := Hd hV2
  have HOO := Hd HRES.out.1
  have HFF := Hd HRES.out.2.2.1
  have HRR := Hd HRES.out.2.2.2
  clear u15 u15' hV2 hZ2 HRES
  go_upto_region 14 with fail
  try rw [hW15]
  clear hW15 d0 d1 d2 n9 hlo U14 U14'
  generalize misM M p = mb at HRR ⊢
  cases mb with
  | false =>
   have HRV : Hid (useR M p n r = R) := by show _ = _; rw [HRR.out]; simp
   obtain ⟨q0o, q1o, q2o, q3o, q4o, q5o, q6o, q7o, q8o, q9o, q10o⟩ := c11 U15.out.ob
   obtain ⟨q0x, q1x, q2x, q3x, q4x, q5x, q6x, q7x, q8x, q9x, q10x⟩ := c11 U15.out.rb
   obtain ⟨z0x, z1x, z2x, z3x, z4x, z5x, z6x, z7x, z8x, z9x, z10x⟩ := f11 U15.out.rb
   have hlr := U15.out.rb.lt
   have hlo := U15.out.ob.lt
   go_wp2
   obtain ⟨_, rfl, hoz, hotz, _, _, hbz⟩ := put11 U15.out.rb (.slice E1 T2.t.bs.length s1) (.slice E2 T2.t.fs.length s2) (.slice E3 T2.c.ls.length s3) (.int .i64 Z2.m.c.hand) (.int .i64 Z2.m.g.count) (.int .i64 Z2.m.g.next) (.int .i64 Z2.m.g.round) (.slice E4 T2.g.os.length s4) (.int .i64 Z2.m.sp) (.slice (some ⟨g5, 0, none⟩) N.mk.length c5) (.int .i64 Z2.h)
   obtain ⟨q0t, q1t, q2t, q3t, q4t, q5t, q6t, q7t, q8t, q9t, q10t⟩ := c11 hoz
   refine bodyPost_ret (v := .tuple #[.agg #[.slice E1 T2.t.bs.length s1, .slice E2 T2.t.fs.length s2, .slice E3 T2.c.ls.length s3, .int .i64 Z2.m.c.hand, .int .i64 Z2.m.g.count, .int .i64 Z2.m.g.next, .int .i64 Z2.m.g.round, .slice E4 T2.g.os.length s4, .int .i64 Z2.m.sp, .slice (some ⟨g5, 0, none⟩) N.mk.length c5, .int .i64 Z2.h], .int .i64 k, .int .i64 R, .bool true]) (by simp [results, Tryz.results14, go_sem, q0t, q1t, q2t, q3t, q4t, q5t, q6t, q7t, q8t, q9t, q10t]) rfl ⟨_, rfl, _, _, _, _, _, by rw [HVV.out, HFF.out, HRV.out, HOO.out], by rw [HVV.out]; exact (U15.out.mm.othm hotz).mono (by omega), hbz w (by omega) U15.out.bl⟩
  | true =>
   by_cases hR : R = 2
   ·subst hR
    have HRV : Hid (useR M p n r = 3) := by show _ = _; rw [HRR.out]; simp
    obtain ⟨q0o, q1o, q2o, q3o, q4o, q5o, q6o, q7o, q8o, q9o, q10o⟩ := c11 U15.out.ob
    obtain ⟨q0x, q1x, q2x, q3x, q4x, q5x, q6x, q7x, q8x, q9x, q10x⟩ := c11 U15.out.rb
    obtain ⟨z0x, z1x, z2x, z3x, z4x, z5x, z6x, z7x, z8x, z9x, z10x⟩ := f11 U15.out.rb
    have hlr := U15.out.rb.lt
    have hlo := U15.out.ob.lt
    go_wp2
    obtain ⟨_, rfl, hoz, hotz, _, _, hbz⟩ := put11 U15.out.rb (.slice E1 T2.t.bs.length s1) (.slice E2 T2.t.fs.length s2) (.slice E3 T2.c.ls.length s3) (.int .i64 Z2.m.c.hand) (.int .i64 Z2.m.g.count) (.int .i64 Z2.m.g.next) (.int .i64 Z2.m.g.round) (.slice E4 T2.g.os.length s4) (.int .i64 Z2.m.sp) (.slice (some ⟨g5, 0, none⟩) N.mk.length c5) (.int .i64 Z2.h)
    obtain ⟨q0t, q1t, q2t, q3t, q4t, q5t, q6t, q7t, q8t, q9t, q10t⟩ := c11 hoz
    refine bodyPost_ret (v := .tuple #[.agg #[.slice E1 T2.t.bs.length s1, .slice E2 T2.t.fs.length s2, .slice E3 T2.c.ls.length s3, .int .i64 Z2.m.c.hand, .int .i64 Z2.m.g.count, .int .i64 Z2.m.g.next, .int .i64 Z2.m.g.round, .slice E4 T2.g.os.length s4, .int .i64 Z2.m.sp, .slice (some ⟨g5, 0, none⟩) N.mk.length c5, .int .i64 Z2.h], .int .i64 k, .int .i64 3, .bool true]) (by simp [results, Tryz.results14, go_sem, q0t, q1t, q2t, q3t, q4t, q5t, q6t, q7t, q8t, q9t, q10t]) rfl ⟨_, rfl, _, _, _, _, _, by rw [HVV.out, HFF.out, HRV.out, HOO.out], by rw [HVV.out]; exact (U15.out.mm.othm hotz).mono (by omega), hbz w (by omega) U15.out.bl⟩
   ·have HRV : Hid (useR M p n r = R) := by show _ = _; rw [HRR.out, if_neg (fun h => hR h.2)]
    have hRb : (R == 2) = false := by rw [beq_eq_false_iff_ne]; exact hR
    clear hR
    obtain ⟨q0o, q1o, q2o, q3o, q4o, q5o, q6o, q7o, q8o, q9o, q10o⟩ := c11 U15.out.ob
    obtain ⟨q0x, q1x, q2x, q3x, q4x, q5x, q6x, q7x, q8x, q9x, q10x⟩ := c11 U15.out.rb
    obtain ⟨z0x, z1x, z2x, z3x, z4x, z5x, z6x, z7x, z8x, z9x, z10x⟩ := f11 U15.out.rb
    have hlr := U15.out.rb.lt
    have hlo := U15.out.ob.lt
    go_wp2
    obtain ⟨_, rfl, hoz, hotz, _, _, hbz⟩ := put11 U15.out.rb (.slice E1 T2.t.bs.length s1) (.slice E2 T2.t.fs.length s2) (.slice E3 T2.c.ls.length s3) (.int .i64 Z2.m.c.hand) (.int .i64 Z2.m.g.count) (.int .i64 Z2.m.g.next) (.int .i64 Z2.m.g.round) (.slice E4 T2.g.os.length s4) (.int .i64 Z2.m.sp) (.slice (some ⟨g5, 0, none⟩) N.mk.length c5) (.int .i64 Z2.h)
    obtain ⟨q0t, q1t, q2t, q3t, q4t, q5t, q6t, q7t, q8t, q9t, q10t⟩ := c11 hoz
    refine bodyPost_ret (v := .tuple #[.agg #[.slice E1 T2.t.bs.length s1, .slice E2 T2.t.fs.length s2, .slice E3 T2.c.ls.length s3, .int .i64 Z2.m.c.hand, .int .i64 Z2.m.g.count, .int .i64 Z2.m.g.next, .int .i64 Z2.m.g.round, .slice E4 T2.g.os.length s4, .int .i64 Z2.m.sp, .slice (some ⟨g5, 0, none⟩) N.mk.length c5, .int .i64 Z2.h], .int .i64 k, .int .i64 R, .bool true]) (by simp [results, Tryz.results14, go_sem, q0t, q1t, q2t, q3t, q4t, q5t, q6t, q7t, q8t, q9t, q10t]) rfl ⟨_, rfl, _, _, _, _, _, by rw [HVV.out, HFF.out, HRV.out, HOO.out], by rw [HVV.out]; exact (U15.out.mm.othm hotz).mono (by omega), hbz w (by omega) U15.out.bl⟩
end Go.Proofs.YtfbnokjdkhcgoaaGreatDoor
