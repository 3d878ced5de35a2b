/- A part of the proofs of this seat: UsI. -/
import Derived.Test.YtfbnokjdkhcgoaaGreatDoorVUpI
set_option linter.unusedVariables false
set_option linter.unusedSimpArgs false
set_option maxRecDepth 1000000
namespace Go.Proofs.YtfbnokjdkhcgoaaGreatDoor
open Go.RowKit
theorem mine_of {α : Type} {E : Enc α} {e : TypeId} {B g : Nat} {W : World} {cs : Array Value} {l : List α} (ho : Own W g e cs) (hc : cs.toList = E.cells l) (hB : B ≤ g) : MineE E e B W (some ⟨g, 0, none⟩) l :=
 ⟨⟨by rw [Enc.cells_length], fun _ => ⟨g, 0, rfl, ho.lt, fun j u hu => by rw [Nat.zero_add, ho.cell j, ← Array.getElem?_toList, hc]; exact hu⟩⟩, fun _ => ⟨g, cs, rfl, hB, ho, by rw [← Array.length_toList, hc, Enc.cells_length]; exact Nat.le_refl _⟩⟩
theorem made_five : (madeCells #[.int .i64 0] (5 * 1)).toList = intE.cells [0, 0, 0, 0, 0] := by kernel_rfl
theorem make_five : ∃ cs : Array Value, cs.toList = intE.cells [0, 0, 0, 0, 0] ∧ ∀ w : World, (Instr.makeSlice 23 (.int .i64 5) (.int .i64 5)).run Tryz.prog w = .ok (.slice (some ⟨w.heap.size, 0, none⟩) 5 5) (w.alloc (.cells cs 3)) := by
 refine ⟨_, made_five, fun w => ?_⟩
 obtain ⟨i0, hi0, hz0, hz1, hz2⟩ := info_parts int_info2
 have hb : (i0.bytes : Int) * ((5 : Nat) : Int) ≤ 281474976710656 := by rw [hz2]; decide
 have hr := run_make (P := Tryz.prog) w 23 3 i0 _ Tryz.underlying23 hi0 hz0 .i64 .i64 5 5 (by omega) (by omega) hb (by omega)
 simp only [Int.toNat_natCast, hz1] at hr
 exact hr
theorem usL_bd {M : Me} {ps : List Int} : ∀ {k : Nat} {x : Me × List Int}, usL M ps k = some x → ∀ (i : Nat) (c : Int), x.2[i]? = some c → 0 ≤ c ∧ c ≤ k
  | 0, x, e, i, c, hc => by
    rw [usL] at e
    injection e with e
    subst e
    have : ∀ z ∈ ([0, 0, 0, 0, 0] : List Int), z = 0 := by decide
    have := this c (List.mem_of_getElem? hc)
    omega
  | k + 1, x, e, i, c, hc => by
    rw [usL] at e
    cases h : usL M ps k with
    | none => rw [h] at e; cases e
    | some y =>
      rw [h] at e
      have hy := usL_bd h
      cases h2 : ps[k]? with
      | none => rw [h2] at e; cases e
      | some p =>
        rw [h2] at e
        simp only at e
        split at e
        · injection e with e
          subst e
          have hc : (bmp y.2 (useR y.1 p 1 1).toNat)[i]? = some c := hc
          unfold bmp at hc
          rw [List.getElem?_set] at hc
          split at hc
          · rename_i hi
            split at hc
            · rename_i hl
              injection hc with hc
              rw [List.getD_eq_getElem?_getD, List.getElem?_eq_getElem hl] at hc
              have := hy _ _ (List.getElem?_eq_getElem hl)
              simp only [Option.getD_some] at hc
              omega
            · cases hc
          · have := hy i c hc
            omega
        · cases e
theorem usA_bad {M : Me} {ps : List Int} {k : Nat} (h : usL M ps k = none) (hk : k ≤ ps.length) : usA M ps = none := by
 unfold usA
 rw [usL_bad h hk]
 split <;> rfl
theorem usA_v {M : Me} {ps : List Int} (h : mev M = false) : usA M ps = none := by unfold usA; rw [h]; rfl
theorem usA_l {M : Me} {ps : List Int} (h : ¬ ps.length ≤ 64) : usA M ps = none := by unfold usA; rw [if_neg (fun x => h x.2)]
theorem usA_end {M : Me} {ps : List Int} {x : Me × List Int} (h1 : mev M = true) (h2 : ps.length ≤ 64) (h : usL M ps ps.length = some x) : usA M ps = some x := by unfold usA; rw [if_pos ⟨h1, h2⟩, h]
section
variable {w : World} {G : Nat} {v1 v2 v3 v4 v5 : Value} {N : Me} {v v' : World}
theorem Us.allo (k : Us w G v1 v2 v3 v4 v5 N v) (hG : w.heap.size + 2 ≤ G) {u1 u2 u3 u4 u5 : Value} {M : Me} (hm : MeM (w.heap.size + 2) v u1 u2 u3 u4 u5 M) :
  ∃ W, ((((((((((v.setCell ⟨G, 0, none⟩ u1).setCell ⟨G, 1, none⟩ u2).setCell ⟨G, 2, none⟩ u3).setCell ⟨G, 3, none⟩ (.int .i64 M.m.c.hand)).setCell ⟨G, 4, none⟩ (.int .i64 M.m.g.count)).setCell ⟨G, 5, none⟩ (.int .i64 M.m.g.next)).setCell ⟨G, 6, none⟩ (.int .i64 M.m.g.round)).setCell ⟨G, 7, none⟩ u4).setCell ⟨G, 8, none⟩ (.int .i64 M.m.sp)).setCell ⟨G, 9, none⟩ u5).setCell ⟨G, 10, none⟩ (.int .i64 M.h) = W ∧
   Us w G u1 u2 u3 u4 u5 M W ∧ Oth (fun e => e = 37) v W := by
 obtain ⟨W, e, h1, h2, h3, h4, h5⟩ := put11 k.ob u1 u2 u3 (.int .i64 M.m.c.hand) (.int .i64 M.m.g.count) (.int .i64 M.m.g.next) (.int .i64 M.m.g.round) u4 (.int .i64 M.m.sp) u5 (.int .i64 M.h)
 exact ⟨W, e, ⟨h1, hm.othm h2, h4 _ _ _ (by omega) k.rb, h5 w (by omega) k.bl⟩, h2⟩
theorem Us.cnt {gc : Nat} {cs : List Int} (k : Us w G v1 v2 v3 v4 v5 N v) (hm : MineE intE 3 (w.heap.size + 2) v (some ⟨gc, 0, none⟩) cs) {B : Nat} (hB : gc < B) (hN : MeM B v v1 v2 v3 v4 v5 N) {i : Nat} (hi : i < cs.length) (x : Int) :
  ∃ W, v.setCell ⟨gc, i, none⟩ (.int .i64 x) = W ∧ Us w G v1 v2 v3 v4 v5 N W ∧ MineE intE 3 (w.heap.size + 2) W (some ⟨gc, 0, none⟩) (cs.set i x) ∧ MeM B W v1 v2 v3 v4 v5 N := by
 obtain ⟨g, cc, e, hg, ho, hs⟩ := hm.own (by omega)
 injection e with e
 injection e with e1 _ _
 subst e1
 have hf : MeM B (v.setCell ⟨gc, i, none⟩ (.int .i64 x)) v1 v2 v3 v4 v5 N := by
  obtain ⟨⟨⟨⟨A1, c1, r1, l1, k1, m1⟩, ⟨A2, c2, r2, l2, k2, m2⟩⟩, ⟨A3, c3, r3, l3, k3, m3⟩, ⟨A4, c4, r4, l4, k4, m4⟩⟩, ⟨A5, c5, r5, l5, k5, m5⟩⟩ := hN
  exact ⟨⟨⟨⟨A1, c1, r1, l1, k1, m1.far (p := ⟨gc, i, none⟩) hB⟩, ⟨A2, c2, r2, l2, k2, m2.far (p := ⟨gc, i, none⟩) hB⟩⟩, ⟨A3, c3, r3, l3, k3, m3.far (p := ⟨gc, i, none⟩) hB⟩, ⟨A4, c4, r4, l4, k4, m4.far (p := ⟨gc, i, none⟩) hB⟩⟩, ⟨A5, c5, r5, l5, k5, m5.far (p := ⟨gc, i, none⟩) hB⟩⟩
 exact ⟨_, rfl, ⟨k.ob.far (p := ⟨gc, i, none⟩) (k.ob.ne ho (by decide)), hf.mono (by omega), k.rb.far (p := ⟨gc, i, none⟩) (k.rb.ne ho (by decide)), bS k.bl (by show w.heap.size ≤ gc; omega)⟩, hm.wint hi x, hf⟩
theorem MineE.ifz {gc B : Nat} {cs : List Int} {W : World} (hm : MineE intE 3 B W (some ⟨gc, 0, none⟩) cs) {i : Nat} {c : Int} (hk : cs[i]? = some c) : W.cell? ⟨gc, i, none⟩ = some (.int .i64 c) ∧ W.frozen? ⟨gc, i, none⟩ = false ∧ gc < W.heap.size := by
 obtain ⟨g, cc, e, hg, ho, hs⟩ := hm.own (by have := (List.getElem?_eq_some_iff.1 hk).1; omega)
 injection e with e
 injection e with e1 _ _
 subst e1
 obtain ⟨b, o, e2, hb, hc⟩ := Rd.i1 hm.is hk
 injection e2 with e2
 injection e2 with e3 e4 _
 subst e3 e4
 exact ⟨by simpa using hc, ho.free i, ho.lt⟩
end
theorem getD_i {cs : List Int} {i : Nat} {c : Int} (h : cs[i]? = some c) : cs.getD i 0 = c := by rw [List.getD_eq_getElem?_getD, h]; rfl
set_option maxHeartbeats 8000000 in
theorem UsePages_any (vb vf vl vo vk : Value) (M : Me) (A : Option Addr) (cp : Nat) (ps : List Int) (w : World) (hM : MeR w vb vf vl vo vk M) (hps : Rs intE w.heap.size w A ps) (hpl : ps.length ≤ 9223372036854775807) (hfree : Free w) :
  Calls Tryz.prog 24 #[.agg #[vb, vf, vl, .int .i64 M.m.c.hand, .int .i64 M.m.g.count, .int .i64 M.m.g.next, .int .i64 M.m.g.round, vo, .int .i64 M.m.sp, vk, .int .i64 M.h], .slice A ps.length cp] w (Post2 fun v w' => ∃ v1 v2 v3 v4 v5 pl, v = .tuple #[.agg #[v1, v2, v3, .int .i64 (usV M ps).m.c.hand, .int .i64 (usV M ps).m.g.count, .int .i64 (usV M ps).m.g.next, .int .i64 (usV M ps).m.g.round, v4, .int .i64 (usV M ps).m.sp, v5, .int .i64 (usV M ps).h], pl, .bool (usO M ps)] ∧ MeM w.heap.size w' v1 v2 v3 v4 v5 (usV M ps) ∧ SlM intE 3 w.heap.size w' pl (usC M ps) ∧ Apart v1 pl ∧ Below w.heap.size w w') := by
 have HFR := Hd hfree
 clear hfree
 have HM := Hd hM
 have HPS := Hd hps
 clear hM hps
 obtain ⟨W0, hW, hbx, hbo, hb0, hs0⟩ := box2 w #[vb, vf, vl, .int .i64 M.m.c.hand, .int .i64 M.m.g.count, .int .i64 M.m.g.next, .int .i64 M.m.g.round, vo, .int .i64 M.m.sp, vk, .int .i64 M.h] 37 #[.slice none 0 0, .slice none 0 0, .slice none 0 0, .int .i64 0, .int .i64 0, .int .i64 0, .int .i64 0, .slice none 0 0, .int .i64 0, .slice none 0 0, .int .i64 0] 37
 have HX0 := Hd hbx
 have HO0 := Hd hbo
 have HB0 := Hd hb0
 clear hbx hbo hb0
 obtain ⟨q0a, q1a, q2a, q3a, q4a, q5a, q6a, q7a, q8a, q9a, q10a⟩ := c11 HX0.out
 go_enter Tryz.func24, Tryz.ntmps24
 go_wp2_with fail
 refine (MemoryValid_any vb vf vl vo vk M _ (HM.out.now HB0.out) (HFR.out.now HB0.out)).mono ?_
 rintro e w1 ⟨rfl, hb1⟩
 clear q0a q1a q2a q3a q4a q5a q6a q7a q8a q9a q10a
 have HX1 := Hd (HX0.out.below hb1)
 have HO1 := Hd (HO0.out.below hb1)
 have HB1 := Hd (bT HB0.out hb1)
 have hs1 : w.heap.size + 2 ≤ w1.heap.size := by have := hb1.size; omega
 clear hb1 HX0 HO0 HB0 hW
 cases h1 : mev M with
 | false =>
  have HA : Hid (usA M ps = none) := usA_v h1
  have HV := Hd (usA_no HA.out)
  obtain ⟨q0x, q1x, q2x, q3x, q4x, q5x, q6x, q7x, q8x, q9x, q10x⟩ := c11 HO1.out
  obtain ⟨z0x, z1x, z2x, z3x, z4x, z5x, z6x, z7x, z8x, z9x, z10x⟩ := f11 HO1.out
  have hlr := HO1.out.lt
  go_wp2
  obtain ⟨_, rfl, hoz, _, _, _, _⟩ := put11 HO1.out (.slice none 0 0) (.slice none 0 0) (.slice none 0 0) (.int .i64 0) (.int .i64 0) (.int .i64 0) (.int .i64 0) (.slice none 0 0) (.int .i64 0) (.slice none 0 0) (.int .i64 0)
  obtain ⟨q0t, q1t, q2t, q3t, q4t, q5t, q6t, q7t, q8t, q9t, q10t⟩ := c11 hoz
  refine bodyPost_ret (v := .tuple #[.agg #[.slice none 0 0, .slice none 0 0, .slice none 0 0, .int .i64 0, .int .i64 0, .int .i64 0, .int .i64 0, .slice none 0 0, .int .i64 0, .slice none 0 0, .int .i64 0], .slice none 0 0, .bool false]) (by simp [results, Tryz.results24, go_sem, q0t, q1t, q2t, q3t, q4t, q5t, q6t, q7t, q8t, q9t, q10t]) rfl ⟨_, rfl, _, _, _, _, _, .slice none 0 0, by rw [HV.out.1, HV.out.2.1]; rfl, by rw [HV.out.2.1]; exact mem_z, by rw [HV.out.2.2]; exact SlM.nil_ _, apart_none, ?_⟩
  repeat (refine bS ?_ (by simp <;> omega))
  exact HB1.out
 | true =>
 by_cases h2 : ps.length ≤ 64
 case neg =>
  have h2i : (64 : Int) < (ps.length : Int) := by omega
  have HH2 := Hd h2
  clear h2
  have HA : Hid (usA M ps = none) := usA_l HH2.out
  have HV := Hd (usA_no HA.out)
  obtain ⟨q0x, q1x, q2x, q3x, q4x, q5x, q6x, q7x, q8x, q9x, q10x⟩ := c11 HO1.out
  obtain ⟨z0x, z1x, z2x, z3x, z4x, z5x, z6x, z7x, z8x, z9x, z10x⟩ := f11 HO1.out
  have hlr := HO1.out.lt
  go_wp2
  obtain ⟨_, rfl, hoz, _, _, _, _⟩ := put11 HO1.out (.slice none 0 0) (.slice none 0 0) (.slice none 0 0) (.int .i64 0) (.int .i64 0) (.int .i64 0) (.int .i64 0) (.slice none 0 0) (.int .i64 0) (.slice none 0 0) (.int .i64 0)
  obtain ⟨q0t, q1t, q2t, q3t, q4t, q5t, q6t, q7t, q8t, q9t, q10t⟩ := c11 hoz
  refine bodyPost_ret (v := .tuple #[.agg #[.slice none 0 0, .slice none 0 0, .slice none 0 0, .int .i64 0, .int .i64 0, .int .i64 0, .int .i64 0, .slice none 0 0, .int .i64 0, .slice none 0 0, .int .i64 0], .slice none 0 0, .bool false]) (by simp [results, Tryz.results24, go_sem, q0t, q1t, q2t, q3t, q4t, q5t, q6t, q7t, q8t, q9t, q10t]) rfl ⟨_, rfl, _, _, _, _, _, .slice none 0 0, by rw [HV.out.1, HV.out.2.1]; rfl, by rw [HV.out.2.1]; exact mem_z, by rw [HV.out.2.2]; exact SlM.nil_ _, apart_none, ?_⟩
  repeat (refine bS ?_ (by simp <;> omega))
  exact HB1.out
 case pos =>
 have h2i : ¬ (64 : Int) < (ps.length : Int) := by omega
 obtain ⟨a1, a2, a3, a4, a5, a6⟩ := mev_len h1
 have HMV := Hd h1
 obtain ⟨q0b, q1b, q2b, q3b, q4b, q5b, q6b, q7b, q8b, q9b, q10b⟩ := c11 HX1.out
 go_wp2_with fail
 refine (Mclone_any vb vf vl vo vk M _ (HM.out.now HB1.out) a1 a2 a3 a4 (by omega)).mono ?_
 rintro e w3 ⟨_, rfl, q1, q2, q3, q4, q5, rfl, hM3, hb3⟩
 clear q0b q1b q2b q3b q4b q5b q6b q7b q8b q9b q10b
 have hM3' := hM3.mono hs1
 obtain ⟨A1, c1, A2, c2, A3, c3, A4, c4, g5, c5, rfl, rfl, rfl, rfl, rfl⟩ := hM3'.open a6
 obtain ⟨w4, hW4, ho4, hb4, hs4⟩ := box1 w3 #[.slice A1 M.m.t.bs.length c1, .slice A2 M.m.t.fs.length c2, .slice A3 M.m.c.ls.length c3, .int .i64 M.m.c.hand, .int .i64 M.m.g.count, .int .i64 M.m.g.next, .int .i64 M.m.g.round, .slice A4 M.m.g.os.length c4, .int .i64 M.m.sp, .slice (some ⟨g5, 0, none⟩) M.mk.length c5, .int .i64 M.h] 37
 have U4 : Hid (Us w w3.heap.size (.slice A1 M.m.t.bs.length c1) (.slice A2 M.m.t.fs.length c2) (.slice A3 M.m.c.ls.length c3) (.slice A4 M.m.g.os.length c4) (.slice (some ⟨g5, 0, none⟩) M.mk.length c5) M w4) := ⟨ho4, hM3'.now hb4, (HO1.out.below hb3).below hb4, bT (bT HB1.out hb3) hb4⟩
 have hG : w.heap.size + 2 ≤ w3.heap.size := by have := hb3.size; omega
 clear hM3 hM3' hb3 ho4 hb4 HX1 HO1 HB1 h1
 go_upto_region 4 with fail
 try rw [hW4]
 clear hW4 h2i
 obtain ⟨cs5, hcs5, hmk5⟩ := make_five
 obtain ⟨w5, hW5, ho5, hb5, hs5⟩ := box1 w4 cs5 3
 go_upto_region 5 with fail
 try rw [hW5]
 have U5 := Hd (U4.out.below hb5)
 have HC5 : Hid (MineE intE 3 (w.heap.size + 2) w5 (some ⟨w4.heap.size, 0, none⟩) [0, 0, 0, 0, 0]) := mine_of ho5 hcs5 (by omega)
 have HAP : Hid (Apart (.slice A1 M.m.t.bs.length c1) (.slice (some ⟨w4.heap.size, 0, none⟩) 5 5)) := apart_far U4.out.mm.m (fun k hk => by injection hk with hk; subst hk; exact Nat.le_refl _)
 clear hW5 ho5 hb5 hmk5 hcs5 U4
 rw [hs4] at HC5 HAP
 obtain ⟨gc, hgc⟩ : ∃ gc, w3.heap.size + 1 = gc := ⟨_, rfl⟩
 rw [hgc] at HC5 HAP ⊢
 have hgc2 : w.heap.size + 2 ≤ gc := by omega
 have hgc3 : gc + 1 ≤ w5.heap.size := by omega
 clear hgc hs4 hs5
 go_wp2
 go_loopw [29] (fun u wr => ∃ (k : Nat) (x : Me × List Int) (v1 v2 v3 v4 v5 : Value), k ≤ ps.length ∧ u = .int .i64 k ∧ Hid (usL M ps k = some x) ∧ Us w w3.heap.size v1 v2 v3 v4 v5 x.1 wr ∧ MineE intE 3 (w.heap.size + 2) wr (some ⟨gc, 0, none⟩) x.2 ∧ Apart v1 (.slice (some ⟨gc, 0, none⟩) 5 5)) (fun u _ => ps.length - (intOf u).toNat)
 case atStart => exact ⟨0, (M, [0, 0, 0, 0, 0]), _, _, _, _, _, by omega, rfl, rfl, U5.out, HC5.out, HAP.out⟩
 case round =>
  obtain ⟨k, ⟨X, cs⟩, v1, v2, v3, v4, v5, hk, rfl, hst, hus, hmi, hap⟩ := hrel
  simp only at hus hmi
  have HUS := Hd hus
  have HMI := Hd hmi
  clear HAP
  have HAP := Hd hap
  clear hus hmi hap U5 HC5
  by_cases hlt : k < ps.length
  ·have hlti : (k : Int) < (ps.length : Int) := by omega
   obtain ⟨p, ep⟩ : ∃ p, ps[k]? = some p := ⟨_, List.getElem?_eq_getElem hlt⟩
   have HSTEP := Hd (usL_step hst.out ep)
   have HEP := Hd ep
   obtain ⟨bp, op, eA, hbp, d0⟩ := Rd.i1 (HPS.out.below HUS.out.bl) ep
   subst eA
   clear ep
   have hgw : gc < wr.heap.size := by
    obtain ⟨g, cc, e, hg, ho, hs⟩ := HMI.out.own (by have := usL_len hst.out; simp only at this; omega)
    injection e with e
    injection e with e1 _ _
    have := ho.lt
    omega
   have hup := UsePage_any v1 v2 v3 v4 v5 X p 1 1 wr HUS.out.mm.r (HFR.out.now HUS.out.bl)
   obtain ⟨Z, hZ⟩ : ∃ Z, useV X p 1 1 = Z := ⟨_, rfl⟩
   obtain ⟨F, hF⟩ : ∃ F, useF X p 1 1 = F := ⟨_, rfl⟩
   obtain ⟨R, hR⟩ : ∃ R, useR X p 1 1 = R := ⟨_, rfl⟩
   obtain ⟨O, hO⟩ : ∃ O, useO X p 1 1 = O := ⟨_, rfl⟩
   have hRr := useR_rng X p 1 1
   simp only at HSTEP
   rw [hZ, hF, hR, hO] at hup
   rw [hZ, hR, hO] at HSTEP
   rw [hR] at hRr
   have HUP := Hd hup
   have hmz : O = true → 1 ≤ Z.mk.length := by
    intro ho
    rw [ho] at hO
    obtain ⟨g1, g2, g3, g4, N, g5⟩ := useO_parts hO
    rw [← hZ, (useO_some g1 g2 g3 g4 g5).2.1]
    show 1 ≤ (N.mk.set _ true).length
    rw [List.length_set, (useN_at (mev_MEV.1 g1) g5).2.1]
    exact (mev_len g1).2.2.2.2.2
   have HMZ := Hd hmz
   clear hZ hF hR hO hup hmz
   obtain ⟨R, rfl⟩ : ∃ r : Nat, R = (r : Int) := Int.eq_ofNat_of_zero_le hRr.1
   have hR5 : R < 5 := by omega
   rw [Int.toNat_natCast] at HSTEP
   obtain ⟨q0o, q1o, q2o, q3o, q4o, q5o, q6o, q7o, q8o, q9o, q10o⟩ := c11 HUS.out.ob
   have hki : (0 : Int) ≤ (k : Int) := by omega
   go_wp2_with fail
   refine HUP.out.mono ?_
   rintro e w9 ⟨_, rfl, q1, q2, q3, q4, q5, rfl, hM9, hb9⟩
   clear q0o q1o q2o q3o q4o q5o q6o q7o q8o q9o q10o
   clear d0 HUP
   obtain ⟨D1, r1, rfl, _⟩ := id hM9.m.t.b
   obtain ⟨D2, r2, rfl, _⟩ := id hM9.m.t.f
   obtain ⟨D3, r3, rfl, _⟩ := id hM9.m.l
   obtain ⟨D4, r4, rfl, _⟩ := id hM9.m.o
   obtain ⟨D5, r5, rfl, _⟩ := id hM9.k
   obtain ⟨wb, hWb, hob, hbb, hsb⟩ := box1 w9 #[.slice D1 Z.m.t.bs.length r1, .slice D2 Z.m.t.fs.length r2, .slice D3 Z.m.c.ls.length r3, .int .i64 Z.m.c.hand, .int .i64 Z.m.g.count, .int .i64 Z.m.g.next, .int .i64 Z.m.g.round, .slice D4 Z.m.g.os.length r4, .int .i64 Z.m.sp, .slice D5 Z.mk.length r5, .int .i64 Z.h] 37
   have UB := Hd ((HUS.out.below hb9).below hbb)
   have HNB := Hd hob
   have HMB := Hd (hM9.now hbb)
   have HIB := Hd ((HMI.out.below hb9).below hbb)
   clear hob hbb hM9 hb9 HUS HMI HAP hsb
   go_upto_region 9 with fail
   try rw [hWb]
   clear hWb
   cases O with
   | false =>
    have hno := HSTEP.out
    rw [if_neg (by decide)] at hno
    have HNO := Hd (usA_bad hno (by omega))
    have HRR := Hd UB.out.rb
    have HBC := Hd UB.out.bl
    clear hno HSTEP
    have HA : Hid (usA M ps = none) := HNO.out
    have HV := Hd (usA_no HA.out)
    obtain ⟨q0x, q1x, q2x, q3x, q4x, q5x, q6x, q7x, q8x, q9x, q10x⟩ := c11 HRR.out
    obtain ⟨z0x, z1x, z2x, z3x, z4x, z5x, z6x, z7x, z8x, z9x, z10x⟩ := f11 HRR.out
    have hlr := HRR.out.lt
    go_wp2
    obtain ⟨_, rfl, hoz, _, _, _, _⟩ := put11 HRR.out (.slice none 0 0) (.slice none 0 0) (.slice none 0 0) (.int .i64 0) (.int .i64 0) (.int .i64 0) (.int .i64 0) (.slice none 0 0) (.int .i64 0) (.slice none 0 0) (.int .i64 0)
    obtain ⟨q0t, q1t, q2t, q3t, q4t, q5t, q6t, q7t, q8t, q9t, q10t⟩ := c11 hoz
    refine bodyPost_ret (v := .tuple #[.agg #[.slice none 0 0, .slice none 0 0, .slice none 0 0, .int .i64 0, .int .i64 0, .int .i64 0, .int .i64 0, .slice none 0 0, .int .i64 0, .slice none 0 0, .int .i64 0], .slice none 0 0, .bool false]) (by simp [results, Tryz.results24, go_sem, q0t, q1t, q2t, q3t, q4t, q5t, q6t, q7t, q8t, q9t, q10t]) rfl ⟨_, rfl, _, _, _, _, _, .slice none 0 0, by rw [HV.out.1, HV.out.2.1]; rfl, by rw [HV.out.2.1]; exact mem_z, by rw [HV.out.2.2]; exact SlM.nil_ _, apart_none, ?_⟩
    repeat (refine bS ?_ (by simp <;> omega))
    exact HBC.out
   | true =>
    have hyes := HSTEP.out
    rw [if_pos rfl] at hyes
    have HNX := Hd hyes
    have hcl : cs.length = 5 := usL_len hst.out
    obtain ⟨c, ec⟩ : ∃ c, cs[R]? = some c := ⟨_, List.getElem?_eq_getElem (by omega)⟩
    have hcb := usL_bd hst.out R c ec
    have hrl : R < cs.length := by omega
    have hgd : bmp cs R = cs.set R (c + 1) := by unfold bmp; rw [getD_i ec]
    rw [hgd] at HNX
    have HEC := Hd ec
    clear hyes HSTEP ec hcl hgd
    obtain ⟨q0y, q1y, q2y, q3y, q4y, q5y, q6y, q7y, q8y, q9y, q10y⟩ := c11 HNB.out
    obtain ⟨z0x, z1x, z2x, z3x, z4x, z5x, z6x, z7x, z8x, z9x, z10x⟩ := f11 UB.out.ob
    obtain ⟨q0x, q1x, q2x, q3x, q4x, q5x, q6x, q7x, q8x, q9x, q10x⟩ := c11 UB.out.ob
    have hlo := UB.out.ob.lt
    have hly := HNB.out.lt
    obtain ⟨w10, hW10, u10, hoth⟩ := UB.out.allo hG (HMB.out.mono (show w.heap.size + 2 ≤ wr.heap.size by omega))
    have HI10 := Hd (HIB.out.oth hoth (by decide))
    have HN10 := Hd (HMB.out.othm hoth)
    have U10 := Hd u10
    go_upto_region 12 with fail
    try rw [hW10]
    clear q0y q1y q2y q3y q4y q5y q6y q7y q8y q9y q10y
    clear q0x q1x q2x q3x q4x q5x q6x q7x q8x q9x q10x
    clear z0x z1x z2x z3x z4x z5x z6x z7x z8x z9x z10x
    clear hW10 u10 hoth hlo hly UB HNB HMB HIB
    obtain ⟨d0, d1, d2⟩ := HI10.out.ifz HEC.out
    obtain ⟨w11, hW11, u11, hi11, hn11⟩ := U10.out.cnt HI10.out (show gc < wr.heap.size by omega) HN10.out hrl (c + 1)
    have hR0 : (0 : Int) ≤ (R : Int) := by omega
    have hRl : (R : Int) < 5 := by omega
    go_upto_region 13 with fail
    try rw [hW11]
    clear hW11 d0 d1 d2 U10 HI10 HN10
    go_wp2
    go_roundw
    case rel => exact ⟨k + 1, (Z, cs.set R (c + 1)), _, _, _, _, _, by omega, by go_num, HNX, u11, hi11, apart_new (B := wr.heap.size) hn11.m (fun q hq => by injection hq with hq; subst hq; exact hgw)⟩
    case measure => simp [intOf]; omega
  ·obtain rfl : k = ps.length := by omega
   have HE := Hd (usA_yes (usA_end HMV.out h2 hst.out))
   obtain ⟨D1, r1, rfl, _⟩ := id HUS.out.mm.m.t.b
   obtain ⟨D2, r2, rfl, _⟩ := id HUS.out.mm.m.t.f
   obtain ⟨D3, r3, rfl, _⟩ := id HUS.out.mm.m.l
   obtain ⟨D4, r4, rfl, _⟩ := id HUS.out.mm.m.o
   obtain ⟨D5, r5, rfl, _⟩ := id HUS.out.mm.k
   obtain ⟨q0o, q1o, q2o, q3o, q4o, q5o, q6o, q7o, q8o, q9o, q10o⟩ := c11 HUS.out.ob
   obtain ⟨q0x, q1x, q2x, q3x, q4x, q5x, q6x, q7x, q8x, q9x, q10x⟩ := c11 HUS.out.rb
   obtain ⟨z0x, z1x, z2x, z3x, z4x, z5x, z6x, z7x, z8x, z9x, z10x⟩ := f11 HUS.out.rb
   have hlr := HUS.out.rb.lt
   have hlo := HUS.out.ob.lt
   go_wp2
   obtain ⟨_, rfl, hoz, hotz, _, _, hbz⟩ := put11 HUS.out.rb (.slice D1 X.m.t.bs.length r1) (.slice D2 X.m.t.fs.length r2) (.slice D3 X.m.c.ls.length r3) (.int .i64 X.m.c.hand) (.int .i64 X.m.g.count) (.int .i64 X.m.g.next) (.int .i64 X.m.g.round) (.slice D4 X.m.g.os.length r4) (.int .i64 X.m.sp) (.slice D5 X.mk.length r5) (.int .i64 X.h)
   obtain ⟨q0t, q1t, q2t, q3t, q4t, q5t, q6t, q7t, q8t, q9t, q10t⟩ := c11 hoz
   have hcl : cs.length = 5 := usL_len hst.out
   refine bodyPost_ret (v := .tuple #[.agg #[.slice D1 X.m.t.bs.length r1, .slice D2 X.m.t.fs.length r2, .slice D3 X.m.c.ls.length r3, .int .i64 X.m.c.hand, .int .i64 X.m.g.count, .int .i64 X.m.g.next, .int .i64 X.m.g.round, .slice D4 X.m.g.os.length r4, .int .i64 X.m.sp, .slice D5 X.mk.length r5, .int .i64 X.h], .slice (some ⟨gc, 0, none⟩) 5 5, .bool true]) (by simp [results, Tryz.results24, go_sem, q0t, q1t, q2t, q3t, q4t, q5t, q6t, q7t, q8t, q9t, q10t]) rfl ⟨_, rfl, _, _, _, _, _, .slice (some ⟨gc, 0, none⟩) 5 5, by rw [HE.out.1, HE.out.2.1], by rw [HE.out.2.1]; exact (HUS.out.mm.othm hotz).mono (by omega), ?_, HAP.out, hbz w (by omega) HUS.out.bl⟩
   rw [HE.out.2.2]
   exact (slm_of (n := 5) hcl.symm (by show cs.length ≤ 5; omega) (by unfold maxLen; omega) (HMI.out.oth hotz (by decide))).mono (by omega)
end Go.Proofs.YtfbnokjdkhcgoaaGreatDoor
