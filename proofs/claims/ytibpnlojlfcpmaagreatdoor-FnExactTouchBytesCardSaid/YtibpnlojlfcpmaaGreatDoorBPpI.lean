/- A part of the proofs of this seat: Draw, Draw2, Mark, MvS, PpI, PrI. -/
import Derived.Deep.RegionHeldLaw
import Derived.Test.YtibpnlojlfcpmaaGreatDoorBCp6
import Derived.Test.YtibpnlojlfcpmaaGreatDoorBLnS
set_option linter.unusedVariables false
set_option linter.unusedSimpArgs false
set_option maxRecDepth 1000000
namespace Go.Proofs.YtibpnlojlfcpmaaGreatDoor
open Go.RowKit
theorem mav_len {m : Ma} (h : mav m = true) : m.t.bs.length ≤ 1048576 ∧ m.t.fs.length ≤ 1048576 ∧ m.c.ls.length ≤ 1048576 ∧ m.g.os.length ≤ 1048576 := by
 obtain ⟨h1, h2, h3, _⟩ := mav_parts h
 have a := (tv_parts h1).1
 have b := cav_parts h2
 have c := tgv_parts h3
 have d := tok_len c.2 c.1.2.2.1
 omega
set_option maxHeartbeats 4000000 in
theorem sMachineValid_any (vb vf vl vo : Value) (m : Ma) (w : World) (hM : MaR w vb vf vl vo m) :
  Calls Tryz.prog 54 #[.agg #[vb, vf, vl, .int .i64 m.c.hand, .int .i64 m.g.count, .int .i64 m.g.next, .int .i64 m.g.round, vo, .int .i64 m.sp]] w fun r w' => r = .returned (.bool (mav m)) ∧ Below w.heap.size w w' := by
 have HM := Hd hM
 obtain ⟨W0, hW, hbx, hbz, _⟩ := box1 w #[vb, vf, vl, .int .i64 m.c.hand, .int .i64 m.g.count, .int .i64 m.g.next, .int .i64 m.g.round, vo, .int .i64 m.sp] 48
 have HX0 := Hd hbx
 have HB0 := Hd hbz
 clear hbx hbz
 clear hM
 obtain ⟨m00, m10, m20, m30, m40, m50, m60, m70, m80⟩ := cells9 HX0.out
 go_enter Tryz.func54, Tryz.ntmps54
 go_wp2_with fail
 refine (sTableValid_any vb vf m.t _ (HM.out.t.now HB0.out)).mono ?_
 rintro e w1 ⟨rfl, hb1⟩
 have HX1 := Hd (HX0.out.below hb1)
 have HB1 := Hd (bT HB0.out hb1)
 clear hb1
 clear m00 m10 m20 m30 m40 m50 m60 m70 m80
 obtain ⟨m01, m11, m21, m31, m41, m51, m61, m71, m81⟩ := cells9 HX1.out
 cases h1 : tv m.t with
 | false =>
  have HE : Hid (mav m = false) := mav_no fun h => by have := (mav_parts h).1; rw [h1] at this; cases this
  go_wp2
  go_ret
  exact ⟨by rw [HE.out]; rfl, HB1.out⟩
 | true =>
 go_wp2_with fail
 refine (sCacheValid_any vl m.c _ (HM.out.l.now HB1.out)).mono ?_
 rintro e w2 ⟨rfl, hb2⟩
 have HX2 := Hd (HX1.out.below hb2)
 have HB2 := Hd (bT HB1.out hb2)
 clear hb2
 clear m01 m11 m21 m31 m41 m51 m61 m71 m81
 obtain ⟨m02, m12, m22, m32, m42, m52, m62, m72, m82⟩ := cells9 HX2.out
 cases h2 : cav m.c with
 | false =>
  have HE : Hid (mav m = false) := mav_no fun h => by have := (mav_parts h).2.1; rw [h2] at this; cases this
  go_wp2
  go_ret
  exact ⟨by rw [HE.out]; rfl, HB2.out⟩
 | true =>
 go_wp2_with fail
 refine (sTagsValid_any vo m.g _ (HM.out.o.now HB2.out)).mono ?_
 rintro e w3 ⟨rfl, hb3⟩
 have HX3 := Hd (HX2.out.below hb3)
 have HB3 := Hd (bT HB2.out hb3)
 clear hb3
 clear m02 m12 m22 m32 m42 m52 m62 m72 m82
 obtain ⟨m03, m13, m23, m33, m43, m53, m63, m73, m83⟩ := cells9 HX3.out
 cases h3 : tgv m.g with
 | false =>
  have HE : Hid (mav m = false) := mav_no fun h => by have := (mav_parts h).2.2.1; rw [h3] at this; cases this
  go_wp2
  go_ret
  exact ⟨by rw [HE.out]; rfl, HB3.out⟩
 | true =>
 go_wp2_with fail
 refine (l5Find_any vo m.g m.sp _ (HM.out.o.now HB3.out)).mono ?_
 rintro e w4 ⟨rfl, hb4⟩
 have HX4 := Hd (HX3.out.below hb4)
 have HB4 := Hd (bT HB3.out hb4)
 clear hb4
 clear m03 m13 m23 m33 m43 m53 m63 m73 m83
 obtain ⟨m04, m14, m24, m34, m44, m54, m64, m74, m84⟩ := cells9 HX4.out
 by_cases h4 : ownI m.g.os m.sp < 0
 ·have HE : Hid (mav m = false) := mav_no fun h => by have := (mav_parts h).2.2.2.1; omega
  go_wp2
  go_ret
  exact ⟨by rw [HE.out]; rfl, HB4.out⟩
 obtain ⟨Af, cf, rfl, hfc, hfm, hF⟩ := HM.out.t.f
 have hfl : m.t.fs.length ≤ 16 := (tv_parts h1).1.2.1
 have HFS := Hd hF
 clear hF
 go_wp2
 clear m04 m14 m24 m34 m44 m54 m64 m74 m84
 go_loopw [3] (fun u wr => ∃ k : Nat, k ≤ m.t.fs.length ∧ u = .int .i64 k ∧ Hid (All_ frM m.t.fs k) ∧ Below w4.heap.size w4 wr) (fun u _ => m.t.fs.length - (intOf u).toNat)
 case atStart => exact ⟨0, by omega, rfl, all_zero, bR⟩
 case round =>
  obtain ⟨k, hk, rfl, hall, hb5⟩ := hrel
  have hm1 := (HX4.out.below hb5).cell_ 1 (v := .slice Af m.t.fs.length cf) rfl
  have hwl := (HX4.out.below hb5).lt
  by_cases hlt : k < m.t.fs.length
  ·obtain ⟨f, ef⟩ : ∃ f, m.t.fs[k]? = some f := ⟨_, List.getElem?_eq_getElem hlt⟩
   obtain ⟨b, o, rfl, hbb, d0, d1, d2, d3, d4⟩ := (HFS.out.below (bT HB4.out hb5)).fr ef
   have EF := Hd ef
   clear ef
   cases hu : f.used with
   | false =>
    rw [hu] at d0
    have HA := Hd (all_step hall.out EF.out (by unfold frM; rw [hu]; rfl))
    go_wp2
    go_roundw
    case rel => exact ⟨k + 1, by omega, by go_num, HA, bA hb5⟩
    case measure => simp [intOf]; omega
   | true =>
   rw [hu] at d0
   by_cases hp : 128 ≤ f.p
   case neg =>
    have HA := Hd (all_step hall.out EF.out (by unfold frM; rw [decide_eq_false hp]; simp))
    go_wp2
    go_roundw
    case rel => exact ⟨k + 1, by omega, by go_num, HA, bA hb5⟩
    case measure => simp [intOf]; omega
   case pos =>
   by_cases hs : f.s = 0
   case pos =>
    have HA := Hd (all_step hall.out EF.out (by unfold frM; rw [decide_eq_true hs]; simp))
    go_wp2
    go_roundw
    case rel => exact ⟨k + 1, by omega, by go_num, HA, bA hb5⟩
    case measure => simp [intOf]; omega
   case neg =>
    have HE : Hid (mav m = false) := mav_fr EF.out (by unfold frM; rw [hu, decide_eq_true hp, decide_eq_false hs]; rfl)
    go_wp2
    go_ret
    exact ⟨by rw [HE.out]; rfl, bA (bT HB4.out hb5)⟩
  ·obtain rfl : k = m.t.fs.length := by omega
   have HFA := Hd (all_end hall.out)
   clear hall
   obtain ⟨Al, cl, rfl, hlc, hlm, hL⟩ := HM.out.l
   have hll : m.c.ls.length ≤ 8 := (cav_parts h2).2.1
   have HLS := Hd hL
   have HX5 := Hd (HX4.out.below hb5)
   have HB5 := Hd (bT HB4.out hb5)
   clear hL hb5
   go_wp2
   clear hm1 hwl
   obtain ⟨w5, rfl⟩ : ∃ w5, w5 = wr := ⟨_, rfl⟩
   go_loopw [5] (fun u wi => ∃ k : Nat, k ≤ m.c.ls.length ∧ u = .int .i64 k ∧ Hid (All_ (lnM m) m.c.ls k) ∧ Below w5.heap.size w5 wi) (fun u _ => m.c.ls.length - (intOf u).toNat)
   case atStart => exact ⟨0, by omega, rfl, all_zero, bR⟩
   case round =>
    obtain ⟨k, hk, rfl, hall, hb6⟩ := hrel
    have HX6 := Hd (HX5.out.below hb6)
    have hm2 := HX6.out.cell_ 2 (v := .slice Al m.c.ls.length cl) rfl
    by_cases hlt : k < m.c.ls.length
    ·obtain ⟨x, ex⟩ : ∃ x, m.c.ls[k]? = some x := ⟨_, List.getElem?_eq_getElem hlt⟩
     obtain ⟨x', ex', hok, _⟩ := lok_at (cav_parts h2).2.2.2.1 hlt
     rw [ex] at ex'
     injection ex' with ex'
     subst ex'
     obtain ⟨xv, xt, xp, xf, xr, xw⟩ := x
     obtain ⟨b, o, rfl, hbb, d0, d1, d2, d3, d4, d5⟩ := (HLS.out.below (bT HB5.out hb6)).ln ex
     have EX := Hd ex
     have hbl : b < wr.heap.size := by have := (bT HB5.out hb6).size; omega
     have y0 := xcell d0 (by show b < _; exact hbl)
     have y1 := xcell d1 (by show b < _; exact hbl)
     have y2 := xcell d2 (by show b < _; exact hbl)
     have y3 := xcell d3 (by show b < _; exact hbl)
     have y4 := xcell d4 (by show b < _; exact hbl)
     have y5 := xcell d5 (by show b < _; exact hbl)
     have n0 := xcell (HX6.out.cell_ 0 (v := vb) rfl) HX6.out.lt
     have n1 := xcell (HX6.out.cell_ 1 (v := .slice Af m.t.fs.length cf) rfl) HX6.out.lt
     have n2 := xcell (HX6.out.cell_ 2 (v := .slice (some ⟨b, o, none⟩) m.c.ls.length cl) rfl) HX6.out.lt
     have n3 := xcell (HX6.out.cell_ 3 (v := .int .i64 m.c.hand) rfl) HX6.out.lt
     have n4 := xcell (HX6.out.cell_ 4 (v := .int .i64 m.g.count) rfl) HX6.out.lt
     have n5 := xcell (HX6.out.cell_ 5 (v := .int .i64 m.g.next) rfl) HX6.out.lt
     have n6 := xcell (HX6.out.cell_ 6 (v := .int .i64 m.g.round) rfl) HX6.out.lt
     have n7 := xcell (HX6.out.cell_ 7 (v := vo) rfl) HX6.out.lt
     have n8 := xcell (HX6.out.cell_ 8 (v := .int .i64 m.sp) rfl) HX6.out.lt
     have HM6 := Hd (HM.out.now (bT HB5.out hb6))
     clear ex d0 d1 d2 d3 d4 d5
     cases xv with
     | false =>
      have HA := Hd (all_step hall.out EX.out (lnM_inv rfl))
      go_wp2
      refine wp_region_ext (by kernel_rfl) (by kernel_rfl) ?_
      repeat (go_big_quiet_step (fail))
      refine wpQuiet_nil ?_
      intro _ hw'
      obtain ⟨⟨wq, hq⟩, hw''⟩ := hw'
      subst hw''
      try dsimp only
      go_wp2
      go_roundw
      case rel => exact ⟨k + 1, by omega, by go_num, HA, bT hb6 hq⟩
      case measure => simp [intOf]; omega
     | true =>
      have hp256 : inR xp 256 = true := by
       unfold lnok at hok
       simp only [if_true, Bool.and_eq_true] at hok
       exact hok.1.1.2
      have HLN := Hd (fun W (h : MaR W vb (.slice Af m.t.fs.length cf) (.slice (some ⟨b, o, none⟩) m.c.ls.length cl) vo m) => l6Line_any vb (.slice Af m.t.fs.length cf) (.slice (some ⟨b, o, none⟩) m.c.ls.length cl) vo m xt xp xf xr xw W h h1 h3 hp256)
      clear hok hp256
      cases hln : lnM m ⟨true, xt, xp, xf, xr, xw⟩ with
      | true =>
       have HA := Hd (all_step hall.out EX.out hln)
       rw [hln] at HLN
       clear hln
       go_wp2
       refine wp_region_ext (by kernel_rfl) (by kernel_rfl) ?_
       repeat (go_big_quiet_step ((go_at_call 132; exact ext_call (HLN.out _ (HM6.out.now (Ext.ok _))))))
       refine wpQuiet_nil ?_
       intro _ hw'
       obtain ⟨⟨wq, hq⟩, hw''⟩ := hw'
       subst hw''
       try dsimp only
       go_wp2
       go_roundw
       case rel => exact ⟨k + 1, by omega, by go_num, HA, bT hb6 hq⟩
       case measure => simp [intOf]; omega
      | false =>
       have HE : Hid (mav m = false) := mav_ln EX.out hln
       rw [hln] at HLN
       clear hln
       go_wp2
       refine wp_region_ext (by kernel_rfl) (by kernel_rfl) ?_
       repeat (go_big_quiet_step ((go_at_call 132; exact ext_call (HLN.out _ (HM6.out.now (Ext.ok _))))))
       refine wpQuiet_nil ?_
       intro _ hw'
       obtain ⟨⟨wq, hq⟩, hw''⟩ := hw'
       subst hw''
       try dsimp only
       go_wp2
       go_ret
       exact ⟨by rw [HE.out]; rfl, bT HB5.out (bT hb6 hq)⟩
    ·obtain rfl : k = m.c.ls.length := by omega
     have HLA := Hd (all_end hall.out)
     have HE : Hid (mav m = true) := mav_end h1 h2 h3 h4 HFA.out HLA.out
     go_wp2
     go_ret
     exact ⟨by rw [HE.out]; rfl, bT HB5.out hb6⟩
theorem szIntS_any (A : Option Addr) (n c : Nat) (left : Int) (w : World) (hn : n ≤ 9223372036854775807) (h0 : 0 ≤ left) (h1 : left ≤ 1048576) :
  Calls Tryz.prog 124 #[.slice A n c, .int .i64 left] w fun r w' => r = .returned (.int .i64 (if left - (n : Int) < 0 then -1 else left - (n : Int))) ∧ w = w' := by
 by_cases h : left - (n : Int) < 0
 ·rw [if_pos h]
  go_enter Tryz.func124, Tryz.ntmps124
  go_wp2
  go_ret
  exact ⟨rfl, rfl⟩
 ·rw [if_neg h]
  go_enter Tryz.func124, Tryz.ntmps124
  go_wp2
  go_ret
  exact ⟨rfl, rfl⟩
theorem szFrameS_any (A : Option Addr) (n c : Nat) (left : Int) (w : World) (hn : n ≤ 9223372036854775807) (h0 : 0 ≤ left) (h1 : left ≤ 1048576) :
  Calls Tryz.prog 125 #[.slice A n c, .int .i64 left] w fun r w' => r = .returned (.int .i64 (if left - (n : Int) < 0 then -1 else left - (n : Int))) ∧ w = w' := by
 by_cases h : left - (n : Int) < 0
 ·rw [if_pos h]
  go_enter Tryz.func125, Tryz.ntmps125
  go_wp2
  go_ret
  exact ⟨rfl, rfl⟩
 ·rw [if_neg h]
  go_enter Tryz.func125, Tryz.ntmps125
  go_wp2
  go_ret
  exact ⟨rfl, rfl⟩
theorem szLineS_any (A : Option Addr) (n c : Nat) (left : Int) (w : World) (hn : n ≤ 9223372036854775807) (h0 : 0 ≤ left) (h1 : left ≤ 1048576) :
  Calls Tryz.prog 126 #[.slice A n c, .int .i64 left] w fun r w' => r = .returned (.int .i64 (if left - (n : Int) < 0 then -1 else left - (n : Int))) ∧ w = w' := by
 by_cases h : left - (n : Int) < 0
 ·rw [if_pos h]
  go_enter Tryz.func126, Tryz.ntmps126
  go_wp2
  go_ret
  exact ⟨rfl, rfl⟩
 ·rw [if_neg h]
  go_enter Tryz.func126, Tryz.ntmps126
  go_wp2
  go_ret
  exact ⟨rfl, rfl⟩
theorem szOwnS_any (A : Option Addr) (n c : Nat) (left : Int) (w : World) (hn : n ≤ 9223372036854775807) (h0 : 0 ≤ left) (h1 : left ≤ 1048576) :
  Calls Tryz.prog 127 #[.slice A n c, .int .i64 left] w fun r w' => r = .returned (.int .i64 (if left - (n : Int) < 0 then -1 else left - (n : Int))) ∧ w = w' := by
 by_cases h : left - (n : Int) < 0
 ·rw [if_pos h]
  go_enter Tryz.func127, Tryz.ntmps127
  go_wp2
  go_ret
  exact ⟨rfl, rfl⟩
 ·rw [if_neg h]
  go_enter Tryz.func127, Tryz.ntmps127
  go_wp2
  go_ret
  exact ⟨rfl, rfl⟩
theorem toKey_any (x y : Int) (w : World) : Calls Tryz.prog 233 #[.agg #[.int .i64 x, .int .i64 y]] w fun r w' => r = .returned (.agg #[.int .i64 x, .int .i64 y]) ∧ Below w.heap.size w w' := by
 go_enter Tryz.func233, Tryz.ntmps233
 go_wp2
 refine bodyPost_ret (v := .agg #[.int .i64 x, .int .i64 y]) (by simp [results, Tryz.results233, go_sem]) rfl ⟨rfl, ?_⟩
 repeat first | exact bR | refine bS ?_ (by simp) | refine bA ?_
theorem toOwn_any (o : Int × Int) (w : World) : Calls Tryz.prog 197 #[.agg #[.int .i64 o.1, .int .i64 o.2]] w fun r w' => r = .returned (.agg #[.int .i64 o.1, .int .i64 o.2]) ∧ Below w.heap.size w w' := by
 go_enter Tryz.func197, Tryz.ntmps197
 go_wp2
 refine bodyPost_ret (v := .agg #[.int .i64 o.1, .int .i64 o.2]) (by simp [results, Tryz.results197, go_sem]) rfl ⟨rfl, ?_⟩
 repeat first | exact bR | refine bS ?_ (by simp) | refine bA ?_
theorem toLine_any (x : Ln) (w : World) : Calls Tryz.prog 196 #[lnV x] w fun r w' => r = .returned (lnV x) ∧ Below w.heap.size w w' := by
 simp only [lnV]
 go_enter Tryz.func196, Tryz.ntmps196
 go_wp2
 refine bodyPost_ret (v := lnV x) (by simp [results, Tryz.results196, go_sem]) rfl ⟨rfl, ?_⟩
 repeat first | exact bR | refine bS ?_ (by simp) | refine bA ?_
theorem toFrame_any (f : Fr) (w : World) : Calls Tryz.prog 195 #[frV f] w fun r w' => r = .returned (frV f) ∧ Below w.heap.size w w' := by
 simp only [frV]
 go_enter Tryz.func195, Tryz.ntmps195
 go_wp2_with fail
 refine (toKey_any _ _ _).mono ?_
 rintro e w1 ⟨rfl, hb1⟩
 have h0 := ((Own.new_ w 208 #[.bool f.used, .int .i64 f.s, .int .i64 f.p, .int .i64 f.r, .int .i64 f.n]).alloc (o := .cells #[.bool false, .int .i64 0, .int .i64 0, .int .i64 0, .int .i64 0] 66)).alloc (o := .cells #[.bool f.used, .int .i64 0, .int .i64 0, .int .i64 0, .int .i64 0] 66) |>.below hb1
 have h1 := (ownAt (W := w.alloc (.cells #[.bool f.used, .int .i64 f.s, .int .i64 f.p, .int .i64 f.r, .int .i64 f.n] 208)) (g := w.heap.size + 1) (t := 66) (cs := #[.bool false, .int .i64 0, .int .i64 0, .int .i64 0, .int .i64 0]) (by simp)).alloc (o := .cells #[.bool f.used, .int .i64 0, .int .i64 0, .int .i64 0, .int .i64 0] 66) |>.below hb1
 have h2 := (ownAt (W := (w.alloc (.cells #[.bool f.used, .int .i64 f.s, .int .i64 f.p, .int .i64 f.r, .int .i64 f.n] 208)).alloc (.cells #[.bool false, .int .i64 0, .int .i64 0, .int .i64 0, .int .i64 0] 66)) (g := w.heap.size + 1 + 1) (t := 66) (cs := #[.bool f.used, .int .i64 0, .int .i64 0, .int .i64 0, .int .i64 0]) (by simp)).below hb1
 have hbw : Below w.heap.size w w1 := bT (bA (bA (bA bR))) hb1
 have a3 := h0.cell_ 3 (v := .int .i64 f.r) rfl
 have a4 := h0.cell_ 4 (v := .int .i64 f.n) rfl
 have b0 := h1.cell_ 0 (v := .bool false) rfl
 have b1 := h1.cell_ 1 (v := .int .i64 0) rfl
 have b2 := h1.cell_ 2 (v := .int .i64 0) rfl
 have b3 := h1.cell_ 3 (v := .int .i64 0) rfl
 have b4 := h1.cell_ 4 (v := .int .i64 0) rfl
 have c0 := h2.cell_ 0 (v := .bool f.used) rfl
 have c1 := h2.cell_ 1 (v := .int .i64 0) rfl
 have c2 := h2.cell_ 2 (v := .int .i64 0) rfl
 have c3 := h2.cell_ 3 (v := .int .i64 0) rfl
 have c4 := h2.cell_ 4 (v := .int .i64 0) rfl
 have f0 := h1.free 0
 have f1 := h1.free 1
 have f2 := h1.free 2
 have f3 := h1.free 3
 have f4 := h1.free 4
 have g1 := h2.free 1
 have g2 := h2.free 2
 have g3 := h2.free 3
 have g4 := h2.free 4
 have H1 := Hd h1
 have HB := Hd hbw
 clear h0 h1 h2 hbw hb1
 go_wp2
 have o3 := (((((((((H1.out.far (p := ⟨w.heap.size + 1 + 1, 1, none⟩) (u := .int .i64 f.s) (by simp)).far (p := ⟨w.heap.size + 1 + 1, 2, none⟩) (u := .int .i64 f.p) (by simp)).far (p := ⟨w.heap.size + 1 + 1, 3, none⟩) (u := .int .i64 f.r) (by simp)).far (p := ⟨w.heap.size + 1 + 1, 4, none⟩) (u := .int .i64 f.n) (by simp)).set_ 0 (.bool f.used)).set_ 1 (.int .i64 f.s)).set_ 2 (.int .i64 f.p)).set_ 3 (.int .i64 f.r)).set_ 4 (.int .i64 f.n))
 have t0 := o3.cell_ 0 (v := .bool f.used) (by simp)
 have t1 := o3.cell_ 1 (v := .int .i64 f.s) (by simp)
 have t2 := o3.cell_ 2 (v := .int .i64 f.p) (by simp)
 have t3 := o3.cell_ 3 (v := .int .i64 f.r) (by simp)
 have t4 := o3.cell_ 4 (v := .int .i64 f.n) (by simp)
 refine bodyPost_ret (v := frV f) (by simp [results, Tryz.results195, go_sem, t0, t1, t2, t3, t4]) rfl ⟨rfl, ?_⟩
 repeat (refine bS ?_ (by simp <;> omega))
 exact HB.out
structure EOwn {α : Type} (E : Enc α) (e : TypeId) (w : World) (g : Nat) (l : List α) : Prop where
 own : ∃ cs, Own w g e cs ∧ cs.size = l.length * E.sz ∧ ∀ j, j < l.length * E.sz → cs[j]? = (E.cells l)[j]?
theorem EOwn.slm {α : Type} {E : Enc α} {e : TypeId} {w : World} {g B : Nat} {l : List α} (h : EOwn E e w g l) (hB : B ≤ g) (hl : l.length ≤ maxLen) : SlM E e B w (.slice (some ⟨g, 0, none⟩) l.length l.length) l := by
 obtain ⟨cs, h1, h2, h3⟩ := h.own
 refine slm_of rfl (Nat.le_refl _) hl ⟨⟨E.cells_length l, fun _ => ⟨g, 0, rfl, h1.lt, fun j u hu => ?_⟩⟩, fun _ => ⟨g, cs, rfl, hB, h1, by omega⟩⟩
 obtain ⟨hj, _⟩ := List.getElem?_eq_some_iff.1 hu
 rw [E.cells_length] at hj
 rw [Nat.zero_add, h1.cell, h3 j hj, hu]
theorem fill_at {α : Type} {E : Enc α} {l : List α} {k : Nat} {a : α} {cs cs' : Array Value} (e : l[k]? = some a) (_ : cs'.size = cs.size) (hin : ∀ j u, (E.cs a)[j]? = some u → cs'[k * E.sz + j]? = some u)
  (hout : ∀ i, i < k * E.sz → cs'[i]? = cs[i]?) (h : ∀ j, j < k * E.sz → cs[j]? = (E.cells l)[j]?) : ∀ j, j < (k + 1) * E.sz → cs'[j]? = (E.cells l)[j]? := by
 intro j hj
 rcases Nat.lt_or_ge j (k * E.sz) with h1 | h1
 ·rw [hout j h1]; exact h j h1
 ·obtain ⟨d, rfl⟩ : ∃ d, j = k * E.sz + d := ⟨j - k * E.sz, by omega⟩
  have hd : d < E.sz := by rw [Nat.add_mul] at hj; omega
  obtain ⟨u, hu⟩ : ∃ u, (E.cs a)[d]? = some u := ⟨_, List.getElem?_eq_getElem (by rw [E.len]; exact hd)⟩
  rw [hin d u hu, E.cells_get e hu]
theorem MineE.farT {α : Type} {E : Enc α} {e ty : TypeId} {B g i : Nat} {w : World} {A : Option Addr} {l : List α} {cs : Array Value} {u : Value} (h : MineE E e B w A l) (ho : Own w g ty cs) (hne : ty ≠ e) : MineE E e B (w.setCell ⟨g, i, none⟩ u) A l := by
 rcases Nat.eq_zero_or_pos l.length with hl | hl
 ·exact ⟨⟨h.is.len, fun hn => absurd hn (by omega)⟩, fun hn => absurd hn (by omega)⟩
 ·obtain ⟨g2, cs2, rfl, _, ho2, _⟩ := h.own hl
  refine h.other (p := ⟨g, i, none⟩) (fun hg => ?_)
  replace hg : g = g2 := hg
  subst hg
  unfold Own at ho ho2
  rw [ho] at ho2
  injection ho2 with ho2
  injection ho2 with _ ho2
  exact hne ho2
theorem SlM.farT {α : Type} {E : Enc α} {e ty : TypeId} {B g i : Nat} {w : World} {v : Value} {l : List α} {cs : Array Value} {u : Value} (h : SlM E e B w v l) (ho : Own w g ty cs) (hne : ty ≠ e) : SlM E e B (w.setCell ⟨g, i, none⟩ u) v l := by
 obtain ⟨A, c, h1, h2, h3, h4⟩ := h
 exact ⟨A, c, h1, h2, h3, h4.farT ho hne⟩
theorem MaM.farT {B g i : Nat} {w : World} {vb vf vl vo : Value} {m : Ma} {cs : Array Value} {u : Value} (h : MaM B w vb vf vl vo m) (ho : Own w g 48 cs) : MaM B (w.setCell ⟨g, i, none⟩ u) vb vf vl vo m :=
 ⟨⟨h.t.b.farT ho (by decide), h.t.f.farT ho (by decide)⟩, h.l.farT ho (by decide), h.o.farT ho (by decide)⟩
theorem MaM.far9 {B g : Nat} {w : World} {vb vf vl vo : Value} {m : Ma} {cs : Array Value} (h : MaM B w vb vf vl vo m) (ho : Own w g 48 cs) (u0 u1 u2 u3 u4 u5 u6 u7 u8 : Value) :
  MaM B (((((((((w.setCell ⟨g, 0, none⟩ u0).setCell ⟨g, 1, none⟩ u1).setCell ⟨g, 2, none⟩ u2).setCell ⟨g, 3, none⟩ u3).setCell ⟨g, 4, none⟩ u4).setCell ⟨g, 5, none⟩ u5).setCell ⟨g, 6, none⟩ u6).setCell ⟨g, 7, none⟩ u7).setCell ⟨g, 8, none⟩ u8) vb vf vl vo m := by
 have o1 := ho.set_ 0 u0
 have o2 := o1.set_ 1 u1
 have o3 := o2.set_ 2 u2
 have o4 := o3.set_ 3 u3
 have o5 := o4.set_ 4 u4
 have o6 := o5.set_ 5 u5
 have o7 := o6.set_ 6 u6
 have o8 := o7.set_ 7 u7
 exact ((((((((h.farT ho).farT o1).farT o2).farT o3).farT o4).farT o5).farT o6).farT o7).farT o8
theorem Own.far9 {g h : Nat} {w : World} {ty : TypeId} {cs : Array Value} (ho : Own w h ty cs) (hne : h ≠ g) (u0 u1 u2 u3 u4 u5 u6 u7 u8 : Value) :
  Own (((((((((w.setCell ⟨g, 0, none⟩ u0).setCell ⟨g, 1, none⟩ u1).setCell ⟨g, 2, none⟩ u2).setCell ⟨g, 3, none⟩ u3).setCell ⟨g, 4, none⟩ u4).setCell ⟨g, 5, none⟩ u5).setCell ⟨g, 6, none⟩ u6).setCell ⟨g, 7, none⟩ u7).setCell ⟨g, 8, none⟩ u8) h ty cs :=
 ((((((((ho.far hne).far hne).far hne).far hne).far hne).far hne).far hne).far hne).far hne
theorem Own.set9 {g : Nat} {w : World} {ty : TypeId} {a0 a1 a2 a3 a4 a5 a6 a7 a8 : Value} (ho : Own w g ty #[a0, a1, a2, a3, a4, a5, a6, a7, a8]) (u0 u1 u2 u3 u4 u5 u6 u7 u8 : Value) :
  Own (((((((((w.setCell ⟨g, 0, none⟩ u0).setCell ⟨g, 1, none⟩ u1).setCell ⟨g, 2, none⟩ u2).setCell ⟨g, 3, none⟩ u3).setCell ⟨g, 4, none⟩ u4).setCell ⟨g, 5, none⟩ u5).setCell ⟨g, 6, none⟩ u6).setCell ⟨g, 7, none⟩ u7).setCell ⟨g, 8, none⟩ u8) g ty #[u0, u1, u2, u3, u4, u5, u6, u7, u8] := by
 have h := ((((((((ho.set_ 0 u0).set_ 1 u1).set_ 2 u2).set_ 3 u3).set_ 4 u4).set_ 5 u5).set_ 6 u6).set_ 7 u7).set_ 8 u8
 simpa using h
structure Bytes (B : Nat) (w : World) (A : Option Addr) (n : Nat) : Prop where
 at_ : ∀ j, j < n → ∃ (b o v : Nat), A = some ⟨b, o, none⟩ ∧ b < B ∧ w.cell? ⟨b, o + j, none⟩ = some (.int .u8 (v : Int)) ∧ v ≤ 255
theorem Bytes.keep {B : Nat} {w w' : World} {A : Option Addr} {n : Nat} (h : Bytes B w A n) (hk : ∀ p : Addr, p.block < B → w'.cell? p = w.cell? p) : Bytes B w' A n :=
 ⟨fun j hj => let ⟨b, o, v, e, hb, hc, h1⟩ := h.at_ j hj; ⟨b, o, v, e, hb, (hk _ hb).trans hc, h1⟩⟩
structure Rdr (B : Nat) (w : World) (g : Nat) (p : Nat) : Prop where
 ok : ∃ A n c, Own w g 172 #[.slice A n c, .int .i64 p] ∧ Bytes B w A n ∧ n ≤ 2000 ∧ B ≤ g
theorem rdr_grown {B : Nat} {w w' : World} {g p : Nat} (h : Rdr B w g p) (hg : w.grownBy w' none) : Rdr B w' g p := by
 obtain ⟨A, n, c, ho, hb, hn, hB⟩ := h.ok
 refine ⟨A, n, c, (hg.block g ho.lt (by simp)).trans ho, hb.keep fun q hq => World.cell?_of_block (hg.block q.block (by have := ho.lt; omega) (by simp)), hn, hB⟩
theorem rdr_grownb {B : Nat} {w w' : World} {g p k : Nat} (h : Rdr B w g p) (hg : w.grownBy w' (some k)) (hk : g < k) : Rdr B w' g p := by
 obtain ⟨A, n, c, ho, hb, hn, hB⟩ := h.ok
 refine ⟨A, n, c, (hg.block g ho.lt (by simp; omega)).trans ho, hb.keep fun q hq => World.cell?_of_block (hg.block q.block (by have := ho.lt; omega) (by simp; omega)), hn, hB⟩
theorem rdr_lt {B : Nat} {w : World} {g p : Nat} (h : Rdr B w g p) : g < w.heap.size := by
 obtain ⟨A, n, c, ho, _⟩ := h.ok
 exact ho.lt
end Go.Proofs.YtibpnlojlfcpmaaGreatDoor
