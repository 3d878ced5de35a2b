/- A part of the proofs of this seat: ClkS, TkI, Us. -/
import Derived.Test.YtfbnokjdkhcgoaaGreatDoorVMeK
import Derived.Test.YtfbnokjdkhcgoaaGreatDoorVClk
set_option linter.unusedVariables false
set_option linter.unusedSimpArgs false
set_option maxRecDepth 1000000
namespace Go.Proofs.YtfbnokjdkhcgoaaGreatDoor
open Go.RowKit
theorem wno_step {ls : List Ln} {k : Nat} {x : Ln} {i : Int} (h : ∀ (j : Nat) (y : Ln), j < k → ls[j]? = some y → wfit i y = false) (e : ls[k]? = some x) (hx : wfit i x = false) : ∀ (j : Nat) (y : Ln), j < k + 1 → ls[j]? = some y → wfit i y = false := by
 intro j y hj ey
 rcases Nat.lt_or_ge j k with h1 | h1
 ·exact h j y h1 ey
 ·obtain rfl : j = k := by omega
  rw [e] at ey
  injection ey with ey
  rw [← ey]; exact hx
theorem wir_yes {ls : List Ln} {k : Nat} {x : Ln} {i : Int} (e : ls[k]? = some x) (hx : wfit i x = true) : wirA ls i = true := List.any_eq_true.2 ⟨x, List.mem_of_getElem? e, hx⟩
theorem wir_no {ls : List Ln} {i : Int} (h : ∀ (j : Nat) (y : Ln), j < ls.length → ls[j]? = some y → wfit i y = false) : wirA ls i = false := by
 refine bool_ff fun hh => ?_
 obtain ⟨x, hx, h1⟩ := List.any_eq_true.1 hh
 obtain ⟨j, hj, e⟩ := List.getElem_of_mem hx
 have := h j x hj (by rw [List.getElem?_eq_getElem hj, e])
 unfold wfit at this
 rw [this] at h1
 cases h1
set_option maxHeartbeats 4000000 in
theorem l7Wired_any (vb vf vl vo : Value) (m : Ma) (i : Int) (w : World) (hM : MaR w vb vf vl vo m) (hc : cav m.c = true) :
  Calls Tryz.prog 160 #[.agg #[vb, vf, vl, .int .i64 m.c.hand, .int .i64 m.g.count, .int .i64 m.g.next, .int .i64 m.g.round, vo, .int .i64 m.sp], .int .i64 i] w fun r w' => r = .returned (.bool (wirA m.c.ls i)) ∧ Below w.heap.size w w' := by
 have HM := Hd hM
 obtain ⟨Al, cl, rfl, hlc, hlm, hL⟩ := hM.l
 have HLS := Hd hL
 have HC := Hd hc
 have hll : m.c.ls.length ≤ 8 := (cav_parts hc).2.1
 clear hM hL hc
 obtain ⟨W0, hW, hbx, hbz, _⟩ := box1 w #[vb, vf, .slice Al m.c.ls.length cl, .int .i64 m.c.hand, .int .i64 m.g.count, .int .i64 m.g.next, .int .i64 m.g.round, vo, .int .i64 m.sp] 34
 have HX0 := Hd hbx
 have HB0 := Hd hbz
 clear hbx hbz
 go_enter Tryz.func160, Tryz.ntmps160
 go_upto_region 1 with fail
 try rw [hW]
 clear hW
 go_wp2
 go_loopw [5] (fun u wr => ∃ k : Nat, k ≤ m.c.ls.length ∧ u = .int .i64 k ∧ Hid (∀ (j : Nat) (y : Ln), j < k → m.c.ls[j]? = some y → wfit i y = false) ∧ Below W0.heap.size W0 wr) (fun u _ => m.c.ls.length - (intOf u).toNat)
 case atStart => exact ⟨0, by omega, rfl, fun j g h => absurd h (by omega), bR⟩
 case round =>
  obtain ⟨k, hk, rfl, hall, hb5⟩ := hrel
  have HX5 := Hd (HX0.out.below hb5)
  have n2 := HX5.out.cell_ 2 (v := .slice Al m.c.ls.length cl) rfl
  by_cases hlt : k < m.c.ls.length
  ·obtain ⟨x, ex⟩ : ∃ x, m.c.ls[k]? = some x := ⟨_, List.getElem?_eq_getElem hlt⟩
   obtain ⟨x', ex', hok, _⟩ := lok_at (cav_parts HC.out).2.2.2.1 hlt
   rw [ex] at ex'
   injection ex' with ex'
   subst ex'
   obtain ⟨xv, xt, xp, xf, xr, xw⟩ := x
   obtain ⟨b, o, rfl, hbb, d0, d1, d2, d3, d4, d5⟩ := (HLS.out.below (bT HB0.out hb5)).ln ex
   obtain ⟨wf, hWF, hf, hbf, _⟩ := box1 wr #[.bool xv, .int .i64 xt, .int .i64 xp, .int .i64 xf, .int .i64 xr, .bool xw] 50
   have EX := Hd ex
   have HOK := Hd hok
   clear ex hok
   go_upto_region 5 with fail
   try rw [hWF]
   clear hWF d0 d1 d2 d3 d4 d5 n2
   have x0 := hf.cell_ 0 (v := .bool xv) rfl
   have x3 := hf.cell_ 3 (v := .int .i64 xf) rfl
   have x5 := hf.cell_ 5 (v := .bool xw) rfl
   have HBN := Hd (bT hb5 hbf)
   clear hf hbf hb5
   cases xv with
   | false =>
    have hz : wfit i ⟨false, xt, xp, xf, xr, xw⟩ = false := by
     have h := HOK.out
     unfold lnok at h
     simp only [if_false, Bool.false_eq_true, decide_eq_true_eq] at h
     rw [h]; rfl
    have HA := Hd (wno_step hall.out EX.out hz)
    clear hz
    go_wp2
    go_roundw
    case rel => exact ⟨k + 1, by omega, by go_num, HA, HBN.out⟩
    case measure => simp [intOf]; omega
   | true =>
    cases xw with
    | false =>
     have HA := Hd (wno_step hall.out EX.out (show wfit i ⟨true, xt, xp, xf, xr, false⟩ = false from rfl))
     go_wp2
     go_roundw
     case rel => exact ⟨k + 1, by omega, by go_num, HA, HBN.out⟩
     case measure => simp [intOf]; omega
    | true =>
     by_cases hq : xf = i
     ·have hqb : (xf == i) = true := by rw [beq_iff_eq]; exact hq
      have HE : Hid (wirA m.c.ls i = true) := wir_yes EX.out (by unfold wfit; rw [hq]; simp)
      have HQ := Hd hq
      clear hq
      go_wp2
      go_ret
      exact ⟨by rw [HE.out]; rfl, bT HB0.out HBN.out⟩
     ·have hqb : (xf == i) = false := by rw [beq_eq_false_iff_ne]; exact hq
      have HA := Hd (wno_step hall.out EX.out (show wfit i ⟨true, xt, xp, xf, xr, true⟩ = false by unfold wfit; simp [hq]))
      clear hq
      go_wp2
      go_roundw
      case rel => exact ⟨k + 1, by omega, by go_num, HA, HBN.out⟩
      case measure => simp [intOf]; omega
  ·obtain rfl : k = m.c.ls.length := by omega
   have HE : Hid (wirA m.c.ls i = false) := wir_no hall.out
   go_wp2
   go_ret
   exact ⟨by rw [HE.out]; rfl, bT HB0.out hb5⟩
set_option maxHeartbeats 8000000 in
theorem l7Clock_any (vb vf vl vo vk : Value) (M : Me) (w : World) (hM : MeR w vb vf vl vo vk M) (hv : mev M = true) :
  Calls Tryz.prog 95 #[.agg #[vb, vf, vl, .int .i64 M.m.c.hand, .int .i64 M.m.g.count, .int .i64 M.m.g.next, .int .i64 M.m.g.round, vo, .int .i64 M.m.sp, vk, .int .i64 M.h]] w (Post2 fun v w' => ∃ v1 v2 v3 v4 v5 N a, v = .tuple #[.agg #[v1, v2, v3, .int .i64 N.m.c.hand, .int .i64 N.m.g.count, .int .i64 N.m.g.next, .int .i64 N.m.g.round, v4, .int .i64 N.m.sp, v5, .int .i64 N.h], .int .i64 a] ∧ MeM w.heap.size w' v1 v2 v3 v4 v5 N ∧ (∀ mk (h i : Nat), clR M = some (mk, h, i) → N = ⟨M.m, mk, h⟩ ∧ a = i) ∧ (clR M = none → a = -1) ∧ Below w.heap.size w w') := by
 have HM := Hd hM
 clear hM
 obtain ⟨W0, hW, hbx, hbo, hb0, hs0⟩ := box2 w #[vb, vf, vl, .int .i64 M.m.c.hand, .int .i64 M.m.g.count, .int .i64 M.m.g.next, .int .i64 M.m.g.round, vo, .int .i64 M.m.sp, vk, .int .i64 M.h] 37 #[.slice none 0 0, .slice none 0 0, .slice none 0 0, .int .i64 0, .int .i64 0, .int .i64 0, .int .i64 0, .slice none 0 0, .int .i64 0, .slice none 0 0, .int .i64 0] 37
 have HX0 := Hd hbx
 have HO0 := Hd hbo
 have HB0 := Hd hb0
 clear hbx hbo hb0
 obtain ⟨a1, a2, a3, a4, a5, a6⟩ := mev_len hv
 obtain ⟨q0a, q1a, q2a, q3a, q4a, q5a, q6a, q7a, q8a, q9a, q10a⟩ := c11 HX0.out
 go_enter Tryz.func95, Tryz.ntmps95
 go_wp2_with fail
 refine (l7Copy_any vb vf vl vo vk M _ (HM.out.now HB0.out) a1 a2 a3 a4 (by omega) a6).mono ?_
 rintro e w3 ⟨_, rfl, q1, q2, q3, q4, q5, rfl, hM3, hb3⟩
 clear q0a q1a q2a q3a q4a q5a q6a q7a q8a q9a q10a
 clear hW
 have hM3' := hM3.mono (show w.heap.size + 2 ≤ W0.heap.size by omega)
 obtain ⟨A1, c1, rfl, _⟩ := hM3'.m.t.b
 obtain ⟨A2, c2, rfl, _⟩ := hM3'.m.t.f
 obtain ⟨A3, c3, rfl, _⟩ := hM3'.m.l
 obtain ⟨A4, c4, rfl, _⟩ := hM3'.m.o
 obtain ⟨A5, c5, rfl, hc5, hm5, hK5⟩ := id hM3'.k
 obtain ⟨g5, cs5, rfl, _, _, _⟩ := hK5.own (by omega)
 obtain ⟨w4, hW4, ho4, hb4, hs4⟩ := box1 w3 #[.slice A1 M.m.t.bs.length c1, .slice A2 M.m.t.fs.length c2, .slice A3 M.m.c.ls.length c3, .int .i64 M.m.c.hand, .int .i64 M.m.g.count, .int .i64 M.m.g.next, .int .i64 M.m.g.round, .slice A4 M.m.g.os.length c4, .int .i64 M.m.sp, .slice (some ⟨g5, 0, none⟩) M.mk.length c5, .int .i64 M.h] 37
 have HK : Hid (Ck w w3.heap.size g5 (.slice A1 M.m.t.bs.length c1) (.slice A2 M.m.t.fs.length c2) (.slice A3 M.m.c.ls.length c3) (.slice A4 M.m.g.os.length c4) c5 M.m M.mk.length M.mk M.h w4) := ⟨ho4, hM3'.m.now hb4, hK5.below hb4, (HO0.out.below hb3).below hb4, bT (bT HB0.out hb3) hb4⟩
 have hG : w.heap.size + 2 ≤ w3.heap.size := by have := hb3.size; omega
 have hML : Hid (M.mk.length = M.m.t.fs.length) := (mev_MEV.1 hv).ln
 have HMV := Hd hv
 obtain ⟨hh0, hh1⟩ := inR_iff.1 (mev_MEV.1 hv).h
 have hhn : (M.h.toNat : Int) = M.h := Int.toNat_of_nonneg hh0
 clear hM3 hM3' hb3 ho4 hb4 hK5 hv HX0 HO0 HB0
 go_upto_region 2 with fail
 try rw [hW4]
 clear hW4
 have n9 := HK.out.ob.cell_ 9 (v := .slice (some ⟨g5, 0, none⟩) M.mk.length c5) rfl
 go_wp2
 clear n9
 go_loopw [6] (fun u wr => ∃ (k : Nat) (mk : List Bool) (h : Nat), k ≤ 2 * M.mk.length ∧ u = .int .i64 k ∧ Hid (clk M.m.t.fs M.m.c.ls (2 * M.mk.length - k) mk h = clR M) ∧ Hid (mk.length = M.mk.length) ∧ h < M.mk.length ∧ Ck w w3.heap.size g5 (.slice A1 M.m.t.bs.length c1) (.slice A2 M.m.t.fs.length c2) (.slice A3 M.m.c.ls.length c3) (.slice A4 M.m.g.os.length c4) c5 M.m M.mk.length mk h wr) (fun u _ => 2 * M.mk.length - (intOf u).toNat)
 case atStart => exact ⟨0, M.mk, M.h.toNat, by omega, rfl, clk_two, rfl, by have := hML.out; omega, by rw [hhn]; exact HK.out⟩
 case round =>
  obtain ⟨k, mk, h, hk, rfl, hcl, hml, hh, hck⟩ := hrel
  clear HK hhn hh0 hh1
  by_cases hlt : k < 2 * M.mk.length
  ·have hci : (k : Int) < 2 * (M.mk.length : Int) := by omega
   obtain ⟨x, ex⟩ : ∃ x, mk[h]? = some x := ⟨_, List.getElem?_eq_getElem (by have := hml.out; omega)⟩
   obtain ⟨f, ef⟩ : ∃ f, M.m.t.fs[h]? = some f := ⟨_, List.getElem?_eq_getElem (by have := hML.out; omega)⟩
   have EX := Hd ex
   have EF := Hd ef
   have hlf : h < M.m.t.fs.length := (List.getElem?_eq_some_iff.1 ef).1
   clear ex ef
   have n10 := hck.ob.cell_ 10 (v := .int .i64 h) rfl
   have g10 := hck.ob.free 10
   have hlo := hck.ob.lt
   have HOTH := Hd (hck.hand hG (((h : Int) + 1) % (M.mk.length : Int)))
   go_upto_region 8 with fail
   obtain ⟨w2, hw2, ck2, hs2, hoth2⟩ := HOTH.out
   rw [hmod] at ck2
   have CK3 := Hd ck2
   try rw [hw2]
   clear hw2 hoth2 HOTH ck2 n10 g10 hck hlo
   have n1 := CK3.out.ob.cell_ 1 (v := .slice A2 M.m.t.fs.length c2) rfl
   have n9 := CK3.out.ob.cell_ 9 (v := .slice (some ⟨g5, 0, none⟩) M.mk.length c5) rfl
   have hlo := CK3.out.ob.lt
   obtain ⟨bf, of_, rfl, hbf, e0, e1, e2, e3, e4⟩ := (slm_is CK3.out.mm.t.f).fr EF.out
   clear e1 e2 e3 e4
   cases hu : f.used with
   | false =>
    rw [hu] at e0
    have HST := Hd (clk_go1 hcl.out hlt hml.out (by rw [usedAt_of EF.out, hu]; simp))
    clear hu
    go_wp2
    go_roundw
    case rel => exact ⟨k + 1, mk, (h + 1) % M.mk.length, by omega, by go_num, HST, hml, Nat.mod_lt _ (by omega), CK3.out⟩
    case measure => simp [intOf]; omega
   | true =>
    rw [hu] at e0
    have HU : Hid (usedAt M.m.t.fs h = true) := by show _ = _; rw [usedAt_of EF.out, hu]
    clear hu
    obtain ⟨q0o, q1o, q2o, q3o, q4o, q5o, q6o, q7o, q8o, q9o, q10o⟩ := c11 CK3.out.ob
    go_wp2_with fail
    refine (l7Wired_any _ _ _ _ M.m h _ CK3.out.mm.r (mav_parts (mav_MV.2 (mev_MEV.1 HMV.out).m)).2.1).mono ?_
    rintro e w5 ⟨rfl, hb5⟩
    clear q0o q1o q2o q3o q4o q5o q6o q7o q8o q9o q10o
    have CK5 := Hd (CK3.out.below hb5)
    clear n1 n9 hlo e0 CK3 hb5
    have n9 := CK5.out.ob.cell_ 9 (v := .slice (some ⟨g5, 0, none⟩) M.mk.length c5) rfl
    have hlo := CK5.out.ob.lt
    cases hw : wirA M.m.c.ls h with
    | true =>
     have HST := Hd (clk_go1 hcl.out hlt hml.out (by rw [hw]; simp))
     clear hw
     go_wp2
     go_roundw
     case rel => exact ⟨k + 1, mk, (h + 1) % M.mk.length, by omega, by go_num, HST, hml, Nat.mod_lt _ (by omega), CK5.out⟩
     case measure => simp [intOf]; omega
    | false =>
     obtain ⟨d0, d1, d2⟩ := CK5.out.fz EX.out
     cases x with
     | true =>
      have HST := Hd (clk_go2 hcl.out hlt hml.out HU.out hw EX.out)
      have HLN : Hid ((mk.set h false).length = M.mk.length) := by show _ = _; rw [List.length_set]; exact hml.out
      obtain ⟨w6, hw6, ck6, hs6⟩ := CK5.out.mark EX.out false
      clear hw
      go_upto_region 5 with fail
      try rw [hw6]
      clear hw6 n9 d0 d1 d2
      go_wp2
      go_roundw
      case rel => exact ⟨k + 1, mk.set h false, (h + 1) % M.mk.length, by omega, by go_num, HST, HLN, Nat.mod_lt _ (by omega), ck6⟩
      case measure => simp [intOf]; omega
     | false =>
      have HRES := Hd (clk_go3 hcl.out hlt hml.out HU.out hw EX.out)
      clear hw
      go_upto_region 10 with fail
      clear n9 d0 d1 d2 hlo
      obtain ⟨q0o, q1o, q2o, q3o, q4o, q5o, q6o, q7o, q8o, q9o, q10o⟩ := c11 CK5.out.ob
      obtain ⟨q0x, q1x, q2x, q3x, q4x, q5x, q6x, q7x, q8x, q9x, q10x⟩ := c11 CK5.out.rb
      obtain ⟨z0x, z1x, z2x, z3x, z4x, z5x, z6x, z7x, z8x, z9x, z10x⟩ := f11 CK5.out.rb
      have hlr := CK5.out.rb.lt
      have hlo := CK5.out.ob.lt
      go_wp2
      obtain ⟨_, rfl, hoz, hotz, _, _, hbz⟩ := put11 CK5.out.rb (.slice A1 M.m.t.bs.length c1) (.slice (some ⟨bf, of_, none⟩) M.m.t.fs.length c2) (.slice A3 M.m.c.ls.length c3) (.int .i64 M.m.c.hand) (.int .i64 M.m.g.count) (.int .i64 M.m.g.next) (.int .i64 M.m.g.round) (.slice A4 M.m.g.os.length c4) (.int .i64 M.m.sp) (.slice (some ⟨g5, 0, none⟩) M.mk.length c5) (.int .i64 (((h : Int) + 1) % (M.mk.length : Int)))
      obtain ⟨q0t, q1t, q2t, q3t, q4t, q5t, q6t, q7t, q8t, q9t, q10t⟩ := c11 hoz
      refine bodyPost_ret (v := .tuple #[.agg #[.slice A1 M.m.t.bs.length c1, .slice (some ⟨bf, of_, none⟩) M.m.t.fs.length c2, .slice A3 M.m.c.ls.length c3, .int .i64 M.m.c.hand, .int .i64 M.m.g.count, .int .i64 M.m.g.next, .int .i64 M.m.g.round, .slice A4 M.m.g.os.length c4, .int .i64 M.m.sp, .slice (some ⟨g5, 0, none⟩) M.mk.length c5, .int .i64 (((h : Int) + 1) % (M.mk.length : Int))], .int .i64 (h : Int)]) (by simp [results, Tryz.results95, go_sem, q0t, q1t, q2t, q3t, q4t, q5t, q6t, q7t, q8t, q9t, q10t]) rfl ⟨_, rfl, .slice A1 M.m.t.bs.length c1, .slice (some ⟨bf, of_, none⟩) M.m.t.fs.length c2, .slice A3 M.m.c.ls.length c3, .slice A4 M.m.g.os.length c4, .slice (some ⟨g5, 0, none⟩) M.mk.length c5, ⟨M.m, mk, (((h + 1) % M.mk.length : Nat) : Int)⟩, (h : Int), ?_, ?_, ?_, ?_, hbz w (by omega) CK5.out.bl⟩
      ·rw [hmod]
      ·exact ((CK5.out.mem hml.out.symm hc5 hm5).othm hotz).mono (by omega)
      ·intro mk' h' i' e'
       rw [HRES.out] at e'
       injection e' with e'
       injection e' with e1 e'
       injection e' with e2 e3
       subst e1 e2 e3
       exact ⟨rfl, rfl⟩
      ·intro e'
       rw [HRES.out] at e'
       cases e'
  ·obtain rfl : k = 2 * M.mk.length := by omega
   have HRES := Hd (clk_out hcl.out)
   have hcn : ¬ (((2 * M.mk.length : Nat) : Int) < 2 * (M.mk.length : Int)) := by omega
   obtain ⟨q0o, q1o, q2o, q3o, q4o, q5o, q6o, q7o, q8o, q9o, q10o⟩ := c11 hck.ob
   obtain ⟨q0x, q1x, q2x, q3x, q4x, q5x, q6x, q7x, q8x, q9x, q10x⟩ := c11 hck.rb
   obtain ⟨z0x, z1x, z2x, z3x, z4x, z5x, z6x, z7x, z8x, z9x, z10x⟩ := f11 hck.rb
   have hlr := hck.rb.lt
   have hlo := hck.ob.lt
   go_wp2
   obtain ⟨_, rfl, hoz, hotz, _, _, hbz⟩ := put11 hck.rb (.slice A1 M.m.t.bs.length c1) (.slice A2 M.m.t.fs.length c2) (.slice A3 M.m.c.ls.length c3) (.int .i64 M.m.c.hand) (.int .i64 M.m.g.count) (.int .i64 M.m.g.next) (.int .i64 M.m.g.round) (.slice A4 M.m.g.os.length c4) (.int .i64 M.m.sp) (.slice (some ⟨g5, 0, none⟩) M.mk.length c5) (.int .i64 (h : Int))
   obtain ⟨q0t, q1t, q2t, q3t, q4t, q5t, q6t, q7t, q8t, q9t, q10t⟩ := c11 hoz
   refine bodyPost_ret (v := .tuple #[.agg #[.slice A1 M.m.t.bs.length c1, .slice A2 M.m.t.fs.length c2, .slice A3 M.m.c.ls.length c3, .int .i64 M.m.c.hand, .int .i64 M.m.g.count, .int .i64 M.m.g.next, .int .i64 M.m.g.round, .slice A4 M.m.g.os.length c4, .int .i64 M.m.sp, .slice (some ⟨g5, 0, none⟩) M.mk.length c5, .int .i64 (h : Int)], .int .i64 (-1)]) (by simp [results, Tryz.results95, go_sem, q0t, q1t, q2t, q3t, q4t, q5t, q6t, q7t, q8t, q9t, q10t]) rfl ⟨_, rfl, .slice A1 M.m.t.bs.length c1, .slice A2 M.m.t.fs.length c2, .slice A3 M.m.c.ls.length c3, .slice A4 M.m.g.os.length c4, .slice (some ⟨g5, 0, none⟩) M.mk.length c5, ⟨M.m, mk, (h : Int)⟩, (-1), ?_, ?_, ?_, ?_, hbz w (by omega) hck.bl⟩
   ·rfl
   ·exact ((hck.mem hml.out.symm hc5 hm5).othm hotz).mono (by omega)
   ·intro mk' h' i' e'
    rw [HRES.out] at e'
    cases e'
   ·intro _
    rfl
structure Us (w : World) (G : Nat) (v1 v2 v3 v4 v5 : Value) (N : Me) (v : World) : Prop where
 ob : Own v G 37 #[v1, v2, v3, .int .i64 N.m.c.hand, .int .i64 N.m.g.count, .int .i64 N.m.g.next, .int .i64 N.m.g.round, v4, .int .i64 N.m.sp, v5, .int .i64 N.h]
 mm : MeM (w.heap.size + 2) v v1 v2 v3 v4 v5 N
 rb : Own v (w.heap.size + 1) 37 #[.slice none 0 0, .slice none 0 0, .slice none 0 0, .int .i64 0, .int .i64 0, .int .i64 0, .int .i64 0, .slice none 0 0, .int .i64 0, .slice none 0 0, .int .i64 0]
 bl : Below w.heap.size w v
section
variable {w : World} {G : Nat} {v1 v2 v3 v4 v5 : Value} {N : Me} {v v' : World}
theorem Us.below (k : Us w G v1 v2 v3 v4 v5 N v) (hb : Below v.heap.size v v') : Us w G v1 v2 v3 v4 v5 N v' :=
 ⟨k.ob.below hb, k.mm.now hb, k.rb.below hb, bT k.bl hb⟩
theorem Us.mach (k : Us w G v1 v2 v3 v4 v5 N v) (hG : w.heap.size + 2 ≤ G) {u1 u2 u3 u4 : Value} {m : Ma} (hm : MaM (w.heap.size + 2) v u1 u2 u3 u4 m) :
  ∃ W, ((((((((v.setCell ⟨G, 0, none⟩ u1).setCell ⟨G, 1, none⟩ u2).setCell ⟨G, 2, none⟩ u3).setCell ⟨G, 3, none⟩ (.int .i64 m.c.hand)).setCell ⟨G, 4, none⟩ (.int .i64 m.g.count)).setCell ⟨G, 5, none⟩ (.int .i64 m.g.next)).setCell ⟨G, 6, none⟩ (.int .i64 m.g.round)).setCell ⟨G, 7, none⟩ u4).setCell ⟨G, 8, none⟩ (.int .i64 m.sp) = W ∧
   Us w G u1 u2 u3 u4 v5 ⟨m, N.mk, N.h⟩ W ∧ W.heap.size = v.heap.size ∧ ∀ (g' : Nat) (t' : TypeId) (cs : Array Value), g' ≠ G → Own v g' t' cs → Own W g' t' cs := by
 obtain ⟨W, e, h1, h2, h3, h4, h5⟩ := put9 k.ob u1 u2 u3 (.int .i64 m.c.hand) (.int .i64 m.g.count) (.int .i64 m.g.next) (.int .i64 m.g.round) u4 (.int .i64 m.sp)
 exact ⟨W, e, ⟨h1, ⟨hm.othm h2, k.mm.k.oth h2 (by decide)⟩, h4 _ _ _ (by omega) k.rb, h5 w (by omega) k.bl⟩, h3, h4⟩
theorem Us.all (k : Us w G v1 v2 v3 v4 v5 N v) (hG : w.heap.size + 2 ≤ G) {u1 u2 u3 u4 u5 : Value} {M : Me} (hm : MeM (w.heap.size + 2) v u1 u2 u3 u4 u5 M) :
  ∃ W, ((((((((((v.setCell ⟨G, 0, none⟩ u1).setCell ⟨G, 1, none⟩ u2).setCell ⟨G, 2, none⟩ u3).setCell ⟨G, 3, none⟩ (.int .i64 M.m.c.hand)).setCell ⟨G, 4, none⟩ (.int .i64 M.m.g.count)).setCell ⟨G, 5, none⟩ (.int .i64 M.m.g.next)).setCell ⟨G, 6, none⟩ (.int .i64 M.m.g.round)).setCell ⟨G, 7, none⟩ u4).setCell ⟨G, 8, none⟩ (.int .i64 M.m.sp)).setCell ⟨G, 9, none⟩ u5).setCell ⟨G, 10, none⟩ (.int .i64 M.h) = W ∧
   Us w G u1 u2 u3 u4 u5 M W ∧ W.heap.size = v.heap.size ∧ ∀ (g' : Nat) (t' : TypeId) (cs : Array Value), g' ≠ G → Own v g' t' cs → Own W g' t' cs := by
 obtain ⟨W, e, h1, h2, h3, h4, h5⟩ := put11 k.ob u1 u2 u3 (.int .i64 M.m.c.hand) (.int .i64 M.m.g.count) (.int .i64 M.m.g.next) (.int .i64 M.m.g.round) u4 (.int .i64 M.m.sp) u5 (.int .i64 M.h)
 exact ⟨W, e, ⟨h1, hm.othm h2, h4 _ _ _ (by omega) k.rb, h5 w (by omega) k.bl⟩, h3, h4⟩
theorem Us.mark {g5 n c5 : Nat} (k : Us w G v1 v2 v3 v4 (.slice (some ⟨g5, 0, none⟩) n c5) N v) {i : Nat} {x : Bool} (hk : N.mk[i]? = some x) (b : Bool) :
  ∃ W, v.setCell ⟨g5, i, none⟩ (.bool b) = W ∧ Us w G v1 v2 v3 v4 (.slice (some ⟨g5, 0, none⟩) n c5) ⟨N.m, N.mk.set i b, N.h⟩ W ∧ W.heap.size = v.heap.size := by
 obtain ⟨A', c', e', hc', hm', hK⟩ := k.mm.k
 injection e' with e1 e2 e3
 subst e1 e2 e3
 obtain ⟨g, cs, e, hg, ho, hs⟩ := hK.own (by have := (List.getElem?_eq_some_iff.1 hk).1; omega)
 injection e with e
 injection e with e1 _ _
 subst e1
 have h1 := (stS_set (n := cs.size) (i := i) (u := .bool b) ho).1
 exact ⟨_, rfl, ⟨k.ob.far (p := ⟨g5, i, none⟩) (k.ob.ne ho (by decide)), ⟨k.mm.m.oth h1 (by decide) (by decide) (by decide) (by decide), slm_of (by rw [List.length_set]) (by rw [List.length_set]; exact hc') hm' (hK.wbo hk b)⟩, k.rb.far (p := ⟨g5, i, none⟩) (k.rb.ne ho (by decide)), bS k.bl (by show w.heap.size ≤ g5; omega)⟩, by simp⟩
theorem Us.fz {g5 n c5 : Nat} (k : Us w G v1 v2 v3 v4 (.slice (some ⟨g5, 0, none⟩) n c5) N v) {i : Nat} {x : Bool} (hk : N.mk[i]? = some x) : v.cell? ⟨g5, i, none⟩ = some (.bool x) ∧ v.frozen? ⟨g5, i, none⟩ = false ∧ g5 < v.heap.size := by
 obtain ⟨A', c', e', hc', hm', hK⟩ := k.mm.k
 injection e' with e1 e2 e3
 subst e1 e2 e3
 obtain ⟨g, cs, e, hg, ho, hs⟩ := hK.own (by have := (List.getElem?_eq_some_iff.1 hk).1; omega)
 injection e with e
 injection e with e1 _ _
 subst e1
 obtain ⟨b, o, e2, hb, hc⟩ := Rd.b1 hK.is hk
 injection e2 with e2
 injection e2 with e3 e4 _
 subst e3 e4
 exact ⟨by simpa using hc, ho.free i, ho.lt⟩
end
theorem MeM.open {b : Nat} {w : World} {v1 v2 v3 v4 v5 : Value} {N : Me} (h : MeM b w v1 v2 v3 v4 v5 N) (hn : 1 ≤ N.mk.length) : ∃ A1 c1 A2 c2 A3 c3 A4 c4 g5 c5, v1 = .slice A1 N.m.t.bs.length c1 ∧ v2 = .slice A2 N.m.t.fs.length c2 ∧ v3 = .slice A3 N.m.c.ls.length c3 ∧ v4 = .slice A4 N.m.g.os.length c4 ∧ v5 = .slice (some ⟨g5, 0, none⟩) N.mk.length c5 := by
 obtain ⟨A1, c1, e1, _⟩ := h.m.t.b
 obtain ⟨A2, c2, e2, _⟩ := h.m.t.f
 obtain ⟨A3, c3, e3, _⟩ := h.m.l
 obtain ⟨A4, c4, e4, _⟩ := h.m.o
 obtain ⟨A5, c5, e5, _, _, hK⟩ := h.k
 obtain ⟨g5, cs5, e6, _⟩ := hK.own (by omega)
 exact ⟨A1, c1, A2, c2, A3, c3, A4, c4, g5, c5, e1, e2, e3, e4, by rw [e5, e6]⟩
theorem MeM.mk5 {b : Nat} {w : World} {v1 v2 v3 v4 v5 : Value} {N : Me} (h : MeM b w v1 v2 v3 v4 v5 N) (hn : 1 ≤ N.mk.length) : ∃ g5 c5, v5 = .slice (some ⟨g5, 0, none⟩) N.mk.length c5 := by
 obtain ⟨_, _, _, _, _, _, _, _, g5, c5, _, _, _, _, e⟩ := h.open hn
 exact ⟨g5, c5, e⟩
theorem MaM.open {b : Nat} {w : World} {v1 v2 v3 v4 : Value} {m : Ma} (h : MaM b w v1 v2 v3 v4 m) : ∃ A1 c1 A2 c2 A3 c3 A4 c4, v1 = .slice A1 m.t.bs.length c1 ∧ v2 = .slice A2 m.t.fs.length c2 ∧ v3 = .slice A3 m.c.ls.length c3 ∧ v4 = .slice A4 m.g.os.length c4 := by
 obtain ⟨A1, c1, e1, _⟩ := h.t.b
 obtain ⟨A2, c2, e2, _⟩ := h.t.f
 obtain ⟨A3, c3, e3, _⟩ := h.l
 obtain ⟨A4, c4, e4, _⟩ := h.o
 exact ⟨A1, c1, A2, c2, A3, c3, A4, c4, e1, e2, e3, e4⟩
set_option maxHeartbeats 4000000 in
theorem TakePage_any (vb vf vl vo : Value) (m : Ma) (s p  : Int) (w : World) (hM : MaR w vb vf vl vo m) (hfree : Free w) :
  Calls Tryz.prog 43 #[.agg #[vb, vf, vl, .int .i64 m.c.hand, .int .i64 m.g.count, .int .i64 m.g.next, .int .i64 m.g.round, vo, .int .i64 m.sp], .agg #[.int .i64 s, .int .i64 p]] w (Post2 fun v w' => ∃ v1 v2 v3 v4, v = .tuple #[.agg #[v1, v2, v3, .int .i64 (takV m s p).c.hand, .int .i64 (takV m s p).g.count, .int .i64 (takV m s p).g.next, .int .i64 (takV m s p).g.round, v4, .int .i64 (takV m s p).sp], .bool (takO m s p)] ∧ MaM w.heap.size w' v1 v2 v3 v4 (takV m s p) ∧ Below w.heap.size w w') := by
 obtain ⟨W0, hW, hbx, hbk, hbo, hb0, hs0⟩ := box3 w #[vb, vf, vl, .int .i64 m.c.hand, .int .i64 m.g.count, .int .i64 m.g.next, .int .i64 m.g.round, vo, .int .i64 m.sp] 34 #[.int .i64 s, .int .i64 p] 54 #[.slice none 0 0, .slice none 0 0, .slice none 0 0, .int .i64 0, .int .i64 0, .int .i64 0, .int .i64 0, .slice none 0 0, .int .i64 0] 34
 have HX0 := Hd hbx
 have HK0 := Hd hbk
 have HR0 := Hd hbo
 have HB0 := Hd hb0
 have HS0 : Hid (w.heap.size + 3 ≤ W0.heap.size) := Nat.le_of_eq hs0.symm
 clear hbx hbk hbo hb0
 have HM := Hd hM
 have HF := Hd hfree
 clear hM hfree
 obtain ⟨m00, m10, m20, m30, m40, m50, m60, m70, m80⟩ := cells9 HX0.out
 go_enter Tryz.func43, Tryz.ntmps43
 go_wp2_with fail
 refine (MachineValid_any vb vf vl vo m _ (HM.out.now HB0.out) (HF.out.now HB0.out)).mono ?_
 rintro e w1 ⟨rfl, hb1⟩
 have HX1 := Hd (HX0.out.below hb1)
 have HK1 := Hd (HK0.out.below hb1)
 have HR1 := Hd (HR0.out.below hb1)
 have HB1 := Hd (bT HB0.out hb1)
 have HS1 := Hd (Nat.le_trans HS0.out hb1.size)
 clear hb1
 clear m00 m10 m20 m30 m40 m50 m60 m70 m80
 cases h1 : mav m with
 | false =>
  have HA : Hid (takO m s p = false) := by show _ = _; unfold takO; rw [h1]; rfl
  have HV := Hd (takO_false HA.out)
  obtain ⟨r0x, r1x, r2x, r3x, r4x, r5x, r6x, r7x, r8x⟩ := cells9 HR1.out
  obtain ⟨z0x, z1x, z2x, z3x, z4x, z5x, z6x, z7x, z8x⟩ := free9 HR1.out
  go_wp2
  obtain ⟨t0, t1, t2, t3, t4, t5, t6, t7, t8⟩ := cells9 (set9z HR1.out)
  refine bodyPost_ret (v := .tuple #[.agg #[.slice none 0 0, .slice none 0 0, .slice none 0 0, .int .i64 0, .int .i64 0, .int .i64 0, .int .i64 0, .slice none 0 0, .int .i64 0], .bool false]) (by simp [results, Tryz.results43, go_sem, t0, t1, t2, t3, t4, t5, t6, t7, t8]) rfl ⟨_, rfl, _, _, _, _, by rw [HA.out, HV.out]; rfl, by rw [HV.out]; exact mam_z, ?_⟩
  repeat (refine bS ?_ (by simp <;> omega))
  exact HB1.out
 | true =>
  obtain ⟨a1, a2, a3, a4⟩ := mav_len h1
  obtain ⟨m01, m11, m21, m31, m41, m51, m61, m71, m81⟩ := cells9 HX1.out
  have k01 := HK1.out.cell_ 0 (v := .int .i64 s) rfl
  have k11 := HK1.out.cell_ 1 (v := .int .i64 p) rfl
  go_wp2_with fail
  refine (UnmapPage_any vb vf m.t s p _ (HM.out.t.now HB1.out) (HF.out.now HB1.out)).mono ?_
  rintro e w2 ⟨_, rfl, v1, v2, rfl, hT2, hb2⟩
  obtain ⟨A1, c1, rfl, _⟩ := hT2.b
  obtain ⟨A2, c2, rfl, _⟩ := hT2.f
  have hs1 := HS1.out
  have HX2 := Hd (HX1.out.below hb2)
  have HK2 := Hd (HK1.out.below hb2)
  have HR2 := Hd (HR1.out.below hb2)
  have HB2 := Hd (bT HB1.out hb2)
  have HS2 := Hd (Nat.le_trans HS1.out hb2.size)
  clear hb2
  clear m01 m11 m21 m31 m41 m51 m61 m71 m81
  clear k01 k11
  have ho5 := Own.new_ w2 26 #[.slice A1 (unmV m.t s p).bs.length c1, .slice A2 (unmV m.t s p).fs.length c2]
  have hb5 : Below w2.heap.size w2 (w2.alloc (.cells #[.slice A1 (unmV m.t s p).bs.length c1, .slice A2 (unmV m.t s p).fs.length c2] 26)) := bA bR
  generalize hW5 : w2.alloc (.cells #[.slice A1 (unmV m.t s p).bs.length c1, .slice A2 (unmV m.t s p).fs.length c2] 26) = w5 at ho5 hb5
  have HT5 := Hd ((hT2.now hb5).mono hs1)
  clear hT2
  have HX5 := Hd (HX2.out.below hb5)
  have HK5 := Hd (HK2.out.below hb5)
  have HR5 := Hd (HR2.out.below hb5)
  have HB5 := Hd (bT HB2.out hb5)
  have HS5 := Hd (Nat.le_trans HS2.out hb5.size)
  clear hb5
  cases h3 : fOK m.t s p with
  | false =>
   have HA : Hid (takO m s p = false) := by show _ = _; unfold takO; rw [h3, Bool.and_false]
   have HV := Hd (takO_false HA.out)
   clear ho5
   obtain ⟨r0x, r1x, r2x, r3x, r4x, r5x, r6x, r7x, r8x⟩ := cells9 HR5.out
   obtain ⟨z0x, z1x, z2x, z3x, z4x, z5x, z6x, z7x, z8x⟩ := free9 HR5.out
   go_wp2
   obtain ⟨t0, t1, t2, t3, t4, t5, t6, t7, t8⟩ := cells9 (set9z HR5.out)
   refine bodyPost_ret (v := .tuple #[.agg #[.slice none 0 0, .slice none 0 0, .slice none 0 0, .int .i64 0, .int .i64 0, .int .i64 0, .int .i64 0, .slice none 0 0, .int .i64 0], .bool false]) (by simp [results, Tryz.results43, go_sem, t0, t1, t2, t3, t4, t5, t6, t7, t8]) rfl ⟨_, rfl, _, _, _, _, by rw [HA.out, HV.out]; rfl, by rw [HV.out]; exact mam_z, ?_⟩
   repeat (refine bS ?_ (by simp <;> omega))
   exact HB5.out
  | true =>
   have HA : Hid (takO m s p = true) := by show _ = _; unfold takO; rw [h1, h3]; rfl
   have HV : Hid (takV m s p = drpM m (unmV m.t s p) s p) := by show _ = _; unfold takV; rw [HA.out]; rfl
   obtain ⟨m05, m15, m25, m35, m45, m55, m65, m75, m85⟩ := cells9 HX5.out
   have k05 := HK5.out.cell_ 0 (v := .int .i64 s) rfl
   have k15 := HK5.out.cell_ 1 (v := .int .i64 p) rfl
   have u0 := ho5.cell_ 0 (v := .slice A1 (unmV m.t s p).bs.length c1) rfl
   have u1 := ho5.cell_ 1 (v := .slice A2 (unmV m.t s p).fs.length c2) rfl
   have hs5 := HS5.out
   clear ho5
   go_wp2_with fail
   refine (dropped_any vb vf vl vo _ _ m (unmV m.t s p) s p (w.heap.size + 3) _ (HM.out.now HB5.out) hs5 HT5.out a1 a2 a3 a4).mono ?_
   rintro e w3 ⟨_, rfl, q1, q2, q3, q4, rfl, hM3, hb3⟩
   have HX3 := Hd (HX5.out.below hb3)
   have HK3 := Hd (HK5.out.below hb3)
   have HR3 := Hd (HR5.out.below hb3)
   have HB3 := Hd (bT HB5.out hb3)
   have HS3 := Hd (Nat.le_trans HS5.out hb3.size)
   clear hb3
   clear m05 m15 m25 m35 m45 m55 m65 m75 m85
   clear k05 k15 u0 u1
   obtain ⟨r0x, r1x, r2x, r3x, r4x, r5x, r6x, r7x, r8x⟩ := cells9 HR3.out
   obtain ⟨z0x, z1x, z2x, z3x, z4x, z5x, z6x, z7x, z8x⟩ := free9 HR3.out
   have HM3 := Hd hM3
   obtain ⟨B1, d1, rfl, _⟩ := hM3.t.b
   obtain ⟨B2, d2, rfl, _⟩ := hM3.t.f
   obtain ⟨B3, d3, rfl, _⟩ := hM3.l
   obtain ⟨B4, d4, rfl, _⟩ := hM3.o
   clear hM3
   have hl3 := HR3.out.lt
   go_wp2
   have o3 := HR3.out.set9 (.slice B1 (drpM m (unmV m.t s p) s p).t.bs.length d1) (.slice B2 (drpM m (unmV m.t s p) s p).t.fs.length d2) (.slice B3 (drpM m (unmV m.t s p) s p).c.ls.length d3) (.int .i64 (drpM m (unmV m.t s p) s p).c.hand) (.int .i64 (drpM m (unmV m.t s p) s p).g.count) (.int .i64 (drpM m (unmV m.t s p) s p).g.next) (.int .i64 (drpM m (unmV m.t s p) s p).g.round) (.slice B4 (drpM m (unmV m.t s p) s p).g.os.length d4) (.int .i64 (drpM m (unmV m.t s p) s p).sp)
   obtain ⟨p0t, p1t, p2t, p3t, p4t, p5t, p6t, p7t, p8t⟩ := cells9 o3
   refine bodyPost_ret (v := .tuple #[.agg #[.slice B1 (drpM m (unmV m.t s p) s p).t.bs.length d1, .slice B2 (drpM m (unmV m.t s p) s p).t.fs.length d2, .slice B3 (drpM m (unmV m.t s p) s p).c.ls.length d3, .int .i64 (drpM m (unmV m.t s p) s p).c.hand, .int .i64 (drpM m (unmV m.t s p) s p).g.count, .int .i64 (drpM m (unmV m.t s p) s p).g.next, .int .i64 (drpM m (unmV m.t s p) s p).g.round, .slice B4 (drpM m (unmV m.t s p) s p).g.os.length d4, .int .i64 (drpM m (unmV m.t s p) s p).sp], .bool true]) (by simp [results, Tryz.results43, go_sem, p0t, p1t, p2t, p3t, p4t, p5t, p6t, p7t, p8t]) rfl ⟨_, rfl, _, _, _, _, by rw [HA.out, HV.out], ?_, ?_⟩
   ·rw [HV.out]
    exact (HM3.out.far9 HR3.out _ _ _ _ _ _ _ _ _).mono (by omega)
   ·repeat (refine bS ?_ (by simp <;> omega))
    exact HB3.out
end Go.Proofs.YtfbnokjdkhcgoaaGreatDoor
