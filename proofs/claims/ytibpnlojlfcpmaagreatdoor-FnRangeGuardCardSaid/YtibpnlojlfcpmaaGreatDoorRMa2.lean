/- A part of the proofs of this seat: CpS, DrpI, DrpP, Ma2, Mark, MvS, PrI, Val. -/
import Derived.Deep.RegionHeldLaw
import Derived.Test.YtibpnlojlfcpmaaGreatDoorRMaI
import Derived.Test.YtibpnlojlfcpmaaGreatDoorRLnS
import Derived.Test.YtibpnlojlfcpmaaGreatDoorRKeep
set_option linter.unusedVariables false
set_option linter.unusedSimpArgs false
set_option maxRecDepth 1000000
namespace Go.Proofs.YtibpnlojlfcpmaaGreatDoor
open Go.RowKit
theorem MaM.far {B : Nat} {w : World} {vb vf vl vo : Value} {m : Ma} (h : MaM B w vb vf vl vo m) {p : Addr} (hp : p.block < B) {u : Value} : MaM B (w.setCell p u) vb vf vl vo m := ⟨h.t.far hp, h.l.far hp, h.o.far hp⟩
theorem MaM.mono {B B' : Nat} {w : World} {vb vf vl vo : Value} {m : Ma} (h : MaM B w vb vf vl vo m) (hb : B' ≤ B) : MaM B' w vb vf vl vo m := ⟨h.t.mono hb, h.l.mono hb, h.o.mono hb⟩
theorem ownAt {W : World} {g : Nat} {t : TypeId} {cs : Array Value} (hn : g = W.heap.size) : Own (W.alloc (.cells cs t)) g t cs := by subst hn; exact Own.new_ _ _ _
set_option maxHeartbeats 4000000 in
theorem sMachineValid_any (vb vf vl vo : Value) (m : Ma) (w : World) (hM : MaR w vb vf vl vo m) :
  Calls Tryz.prog 54 #[.agg #[vb, vf, vl, .int .i64 m.c.hand, .int .i64 m.g.count, .int .i64 m.g.next, .int .i64 m.g.round, vo, .int .i64 m.sp]] w fun r w' => r = .returned (.bool (mav m)) ∧ Below w.heap.size w w' := by
 have HM := Hd hM
 obtain ⟨W0, hW, hbx, hbz, _⟩ := box1 w #[vb, vf, vl, .int .i64 m.c.hand, .int .i64 m.g.count, .int .i64 m.g.next, .int .i64 m.g.round, vo, .int .i64 m.sp] 48
 have HX0 := Hd hbx
 have HB0 := Hd hbz
 clear hbx hbz
 clear hM
 obtain ⟨m00, m10, m20, m30, m40, m50, m60, m70, m80⟩ := cells9 HX0.out
 go_enter Tryz.func54, Tryz.ntmps54
 go_wp2_with fail
 refine (sTableValid_any vb vf m.t _ (HM.out.t.now HB0.out)).mono ?_
 rintro e w1 ⟨rfl, hb1⟩
 have HX1 := Hd (HX0.out.below hb1)
 have HB1 := Hd (bT HB0.out hb1)
 clear hb1
 clear m00 m10 m20 m30 m40 m50 m60 m70 m80
 obtain ⟨m01, m11, m21, m31, m41, m51, m61, m71, m81⟩ := cells9 HX1.out
 cases h1 : tv m.t with
 | false =>
  have HE : Hid (mav m = false) := mav_no fun h => by have := (mav_parts h).1; rw [h1] at this; cases this
  go_wp2
  go_ret
  exact ⟨by rw [HE.out]; rfl, HB1.out⟩
 | true =>
 go_wp2_with fail
 refine (sCacheValid_any vl m.c _ (HM.out.l.now HB1.out)).mono ?_
 rintro e w2 ⟨rfl, hb2⟩
 have HX2 := Hd (HX1.out.below hb2)
 have HB2 := Hd (bT HB1.out hb2)
 clear hb2
 clear m01 m11 m21 m31 m41 m51 m61 m71 m81
 obtain ⟨m02, m12, m22, m32, m42, m52, m62, m72, m82⟩ := cells9 HX2.out
 cases h2 : cav m.c with
 | false =>
  have HE : Hid (mav m = false) := mav_no fun h => by have := (mav_parts h).2.1; rw [h2] at this; cases this
  go_wp2
  go_ret
  exact ⟨by rw [HE.out]; rfl, HB2.out⟩
 | true =>
 go_wp2_with fail
 refine (sTagsValid_any vo m.g _ (HM.out.o.now HB2.out)).mono ?_
 rintro e w3 ⟨rfl, hb3⟩
 have HX3 := Hd (HX2.out.below hb3)
 have HB3 := Hd (bT HB2.out hb3)
 clear hb3
 clear m02 m12 m22 m32 m42 m52 m62 m72 m82
 obtain ⟨m03, m13, m23, m33, m43, m53, m63, m73, m83⟩ := cells9 HX3.out
 cases h3 : tgv m.g with
 | false =>
  have HE : Hid (mav m = false) := mav_no fun h => by have := (mav_parts h).2.2.1; rw [h3] at this; cases this
  go_wp2
  go_ret
  exact ⟨by rw [HE.out]; rfl, HB3.out⟩
 | true =>
 go_wp2_with fail
 refine (l5Find_any vo m.g m.sp _ (HM.out.o.now HB3.out)).mono ?_
 rintro e w4 ⟨rfl, hb4⟩
 have HX4 := Hd (HX3.out.below hb4)
 have HB4 := Hd (bT HB3.out hb4)
 clear hb4
 clear m03 m13 m23 m33 m43 m53 m63 m73 m83
 obtain ⟨m04, m14, m24, m34, m44, m54, m64, m74, m84⟩ := cells9 HX4.out
 by_cases h4 : ownI m.g.os m.sp < 0
 ·have HE : Hid (mav m = false) := mav_no fun h => by have := (mav_parts h).2.2.2.1; omega
  go_wp2
  go_ret
  exact ⟨by rw [HE.out]; rfl, HB4.out⟩
 obtain ⟨Af, cf, rfl, hfc, hfm, hF⟩ := HM.out.t.f
 have hfl : m.t.fs.length ≤ 16 := (tv_parts h1).1.2.1
 have HFS := Hd hF
 clear hF
 go_wp2
 clear m04 m14 m24 m34 m44 m54 m64 m74 m84
 go_loopw [3] (fun u wr => ∃ k : Nat, k ≤ m.t.fs.length ∧ u = .int .i64 k ∧ Hid (All_ frM m.t.fs k) ∧ Below w4.heap.size w4 wr) (fun u _ => m.t.fs.length - (intOf u).toNat)
 case atStart => exact ⟨0, by omega, rfl, all_zero, bR⟩
 case round =>
  obtain ⟨k, hk, rfl, hall, hb5⟩ := hrel
  have hm1 := (HX4.out.below hb5).cell_ 1 (v := .slice Af m.t.fs.length cf) rfl
  have hwl := (HX4.out.below hb5).lt
  by_cases hlt : k < m.t.fs.length
  ·obtain ⟨f, ef⟩ : ∃ f, m.t.fs[k]? = some f := ⟨_, List.getElem?_eq_getElem hlt⟩
   obtain ⟨b, o, rfl, hbb, d0, d1, d2, d3, d4⟩ := (HFS.out.below (bT HB4.out hb5)).fr ef
   have EF := Hd ef
   clear ef
   cases hu : f.used with
   | false =>
    rw [hu] at d0
    have HA := Hd (all_step hall.out EF.out (by unfold frM; rw [hu]; rfl))
    go_wp2
    go_roundw
    case rel => exact ⟨k + 1, by omega, by go_num, HA, bA hb5⟩
    case measure => simp [intOf]; omega
   | true =>
   rw [hu] at d0
   by_cases hp : 128 ≤ f.p
   case neg =>
    have HA := Hd (all_step hall.out EF.out (by unfold frM; rw [decide_eq_false hp]; simp))
    go_wp2
    go_roundw
    case rel => exact ⟨k + 1, by omega, by go_num, HA, bA hb5⟩
    case measure => simp [intOf]; omega
   case pos =>
   by_cases hs : f.s = 0
   case pos =>
    have HA := Hd (all_step hall.out EF.out (by unfold frM; rw [decide_eq_true hs]; simp))
    go_wp2
    go_roundw
    case rel => exact ⟨k + 1, by omega, by go_num, HA, bA hb5⟩
    case measure => simp [intOf]; omega
   case neg =>
    have HE : Hid (mav m = false) := mav_fr EF.out (by unfold frM; rw [hu, decide_eq_true hp, decide_eq_false hs]; rfl)
    go_wp2
    go_ret
    exact ⟨by rw [HE.out]; rfl, bA (bT HB4.out hb5)⟩
  ·obtain rfl : k = m.t.fs.length := by omega
   have HFA := Hd (all_end hall.out)
   clear hall
   obtain ⟨Al, cl, rfl, hlc, hlm, hL⟩ := HM.out.l
   have hll : m.c.ls.length ≤ 8 := (cav_parts h2).2.1
   have HLS := Hd hL
   have HX5 := Hd (HX4.out.below hb5)
   have HB5 := Hd (bT HB4.out hb5)
   clear hL hb5
   go_wp2
   clear hm1 hwl
   obtain ⟨w5, rfl⟩ : ∃ w5, w5 = wr := ⟨_, rfl⟩
   go_loopw [5] (fun u wi => ∃ k : Nat, k ≤ m.c.ls.length ∧ u = .int .i64 k ∧ Hid (All_ (lnM m) m.c.ls k) ∧ Below w5.heap.size w5 wi) (fun u _ => m.c.ls.length - (intOf u).toNat)
   case atStart => exact ⟨0, by omega, rfl, all_zero, bR⟩
   case round =>
    obtain ⟨k, hk, rfl, hall, hb6⟩ := hrel
    have HX6 := Hd (HX5.out.below hb6)
    have hm2 := HX6.out.cell_ 2 (v := .slice Al m.c.ls.length cl) rfl
    by_cases hlt : k < m.c.ls.length
    ·obtain ⟨x, ex⟩ : ∃ x, m.c.ls[k]? = some x := ⟨_, List.getElem?_eq_getElem hlt⟩
     obtain ⟨x', ex', hok, _⟩ := lok_at (cav_parts h2).2.2.2.1 hlt
     rw [ex] at ex'
     injection ex' with ex'
     subst ex'
     obtain ⟨xv, xt, xp, xf, xr, xw⟩ := x
     obtain ⟨b, o, rfl, hbb, d0, d1, d2, d3, d4, d5⟩ := (HLS.out.below (bT HB5.out hb6)).ln ex
     have EX := Hd ex
     have hbl : b < wr.heap.size := by have := (bT HB5.out hb6).size; omega
     have y0 := xcell d0 (by show b < _; exact hbl)
     have y1 := xcell d1 (by show b < _; exact hbl)
     have y2 := xcell d2 (by show b < _; exact hbl)
     have y3 := xcell d3 (by show b < _; exact hbl)
     have y4 := xcell d4 (by show b < _; exact hbl)
     have y5 := xcell d5 (by show b < _; exact hbl)
     have n0 := xcell (HX6.out.cell_ 0 (v := vb) rfl) HX6.out.lt
     have n1 := xcell (HX6.out.cell_ 1 (v := .slice Af m.t.fs.length cf) rfl) HX6.out.lt
     have n2 := xcell (HX6.out.cell_ 2 (v := .slice (some ⟨b, o, none⟩) m.c.ls.length cl) rfl) HX6.out.lt
     have n3 := xcell (HX6.out.cell_ 3 (v := .int .i64 m.c.hand) rfl) HX6.out.lt
     have n4 := xcell (HX6.out.cell_ 4 (v := .int .i64 m.g.count) rfl) HX6.out.lt
     have n5 := xcell (HX6.out.cell_ 5 (v := .int .i64 m.g.next) rfl) HX6.out.lt
     have n6 := xcell (HX6.out.cell_ 6 (v := .int .i64 m.g.round) rfl) HX6.out.lt
     have n7 := xcell (HX6.out.cell_ 7 (v := vo) rfl) HX6.out.lt
     have n8 := xcell (HX6.out.cell_ 8 (v := .int .i64 m.sp) rfl) HX6.out.lt
     have HM6 := Hd (HM.out.now (bT HB5.out hb6))
     clear ex d0 d1 d2 d3 d4 d5
     cases xv with
     | false =>
      have HA := Hd (all_step hall.out EX.out (lnM_inv rfl))
      go_wp2
      refine wp_region_ext (by kernel_rfl) (by kernel_rfl) ?_
      repeat (go_big_quiet_step (fail))
      refine wpQuiet_nil ?_
      intro _ hw'
      obtain ⟨⟨wq, hq⟩, hw''⟩ := hw'
      subst hw''
      try dsimp only
      go_wp2
      go_roundw
      case rel => exact ⟨k + 1, by omega, by go_num, HA, bT hb6 hq⟩
      case measure => simp [intOf]; omega
     | true =>
      have hp256 : inR xp 256 = true := by
       unfold lnok at hok
       simp only [if_true, Bool.and_eq_true] at hok
       exact hok.1.1.2
      have HLN := Hd (fun W (h : MaR W vb (.slice Af m.t.fs.length cf) (.slice (some ⟨b, o, none⟩) m.c.ls.length cl) vo m) => l6Line_any vb (.slice Af m.t.fs.length cf) (.slice (some ⟨b, o, none⟩) m.c.ls.length cl) vo m xt xp xf xr xw W h h1 h3 hp256)
      clear hok hp256
      cases hln : lnM m ⟨true, xt, xp, xf, xr, xw⟩ with
      | true =>
       have HA := Hd (all_step hall.out EX.out hln)
       rw [hln] at HLN
       clear hln
       go_wp2
       refine wp_region_ext (by kernel_rfl) (by kernel_rfl) ?_
       repeat (go_big_quiet_step ((go_at_call 132; exact ext_call (HLN.out _ (HM6.out.now (Ext.ok _))))))
       refine wpQuiet_nil ?_
       intro _ hw'
       obtain ⟨⟨wq, hq⟩, hw''⟩ := hw'
       subst hw''
       try dsimp only
       go_wp2
       go_roundw
       case rel => exact ⟨k + 1, by omega, by go_num, HA, bT hb6 hq⟩
       case measure => simp [intOf]; omega
      | false =>
       have HE : Hid (mav m = false) := mav_ln EX.out hln
       rw [hln] at HLN
       clear hln
       go_wp2
       refine wp_region_ext (by kernel_rfl) (by kernel_rfl) ?_
       repeat (go_big_quiet_step ((go_at_call 132; exact ext_call (HLN.out _ (HM6.out.now (Ext.ok _))))))
       refine wpQuiet_nil ?_
       intro _ hw'
       obtain ⟨⟨wq, hq⟩, hw''⟩ := hw'
       subst hw''
       try dsimp only
       go_wp2
       go_ret
       exact ⟨by rw [HE.out]; rfl, bT HB5.out (bT hb6 hq)⟩
    ·obtain rfl : k = m.c.ls.length := by omega
     have HLA := Hd (all_end hall.out)
     have HE : Hid (mav m = true) := mav_end h1 h2 h3 h4 HFA.out HLA.out
     go_wp2
     go_ret
     exact ⟨by rw [HE.out]; rfl, bT HB5.out hb6⟩
structure EOwn {α : Type} (E : Enc α) (e : TypeId) (w : World) (g : Nat) (l : List α) : Prop where
 own : ∃ cs, Own w g e cs ∧ cs.size = l.length * E.sz ∧ ∀ j, j < l.length * E.sz → cs[j]? = (E.cells l)[j]?
theorem MineE.farT {α : Type} {E : Enc α} {e ty : TypeId} {B g i : Nat} {w : World} {A : Option Addr} {l : List α} {cs : Array Value} {u : Value} (h : MineE E e B w A l) (ho : Own w g ty cs) (hne : ty ≠ e) : MineE E e B (w.setCell ⟨g, i, none⟩ u) A l := by
 rcases Nat.eq_zero_or_pos l.length with hl | hl
 ·exact ⟨⟨h.is.len, fun hn => absurd hn (by omega)⟩, fun hn => absurd hn (by omega)⟩
 ·obtain ⟨g2, cs2, rfl, _, ho2, _⟩ := h.own hl
  refine h.other (p := ⟨g, i, none⟩) (fun hg => ?_)
  replace hg : g = g2 := hg
  subst hg
  unfold Own at ho ho2
  rw [ho] at ho2
  injection ho2 with ho2
  injection ho2 with _ ho2
  exact hne ho2
theorem SlM.farT {α : Type} {E : Enc α} {e ty : TypeId} {B g i : Nat} {w : World} {v : Value} {l : List α} {cs : Array Value} {u : Value} (h : SlM E e B w v l) (ho : Own w g ty cs) (hne : ty ≠ e) : SlM E e B (w.setCell ⟨g, i, none⟩ u) v l := by
 obtain ⟨A, c, h1, h2, h3, h4⟩ := h
 exact ⟨A, c, h1, h2, h3, h4.farT ho hne⟩
theorem MaM.farT {B g i : Nat} {w : World} {vb vf vl vo : Value} {m : Ma} {cs : Array Value} {u : Value} (h : MaM B w vb vf vl vo m) (ho : Own w g 48 cs) : MaM B (w.setCell ⟨g, i, none⟩ u) vb vf vl vo m :=
 ⟨⟨h.t.b.farT ho (by decide), h.t.f.farT ho (by decide)⟩, h.l.farT ho (by decide), h.o.farT ho (by decide)⟩
theorem Own.set9 {g : Nat} {w : World} {ty : TypeId} {a0 a1 a2 a3 a4 a5 a6 a7 a8 : Value} (ho : Own w g ty #[a0, a1, a2, a3, a4, a5, a6, a7, a8]) (u0 u1 u2 u3 u4 u5 u6 u7 u8 : Value) :
  Own (((((((((w.setCell ⟨g, 0, none⟩ u0).setCell ⟨g, 1, none⟩ u1).setCell ⟨g, 2, none⟩ u2).setCell ⟨g, 3, none⟩ u3).setCell ⟨g, 4, none⟩ u4).setCell ⟨g, 5, none⟩ u5).setCell ⟨g, 6, none⟩ u6).setCell ⟨g, 7, none⟩ u7).setCell ⟨g, 8, none⟩ u8) g ty #[u0, u1, u2, u3, u4, u5, u6, u7, u8] := by
 have h := ((((((((ho.set_ 0 u0).set_ 1 u1).set_ 2 u2).set_ 3 u3).set_ 4 u4).set_ 5 u5).set_ 6 u6).set_ 7 u7).set_ 8 u8
 simpa using h
def tagO (m : Ma) (s p : Int) : Bool := if 128 ≤ p then true else tgO m.g s
def tagT (m : Ma) (s p : Int) : Int := if 128 ≤ p then -1 else tgT m.g s
def drpC (m : Ma) (s p : Int) : Ca := if tagO m s p = true ∧ 0 ≤ plcI m.c.ls (tagT m s p) p then ⟨m.c.ls.set (plcI m.c.ls (tagT m s p) p).toNat lnz, m.c.hand⟩ else m.c
def takO (m : Ma) (s p : Int) : Bool := mav m && fOK m.t s p
theorem ownI_lt {os : List (Int × Int)} {s : Int} (h : 0 ≤ ownI os s) : ∃ (k : Nat) (o : Int × Int), ownI os s = (k : Int) ∧ os[k]? = some o ∧ o.1 = s := by
 unfold ownI at h ⊢
 cases e : own os s with
 | none => rw [e] at h; simp at h
 | some i =>
  unfold own at e
  obtain ⟨hi, h1, _⟩ := List.findIdx?_eq_some_iff_getElem.1 e
  exact ⟨i, os[i], rfl, List.getElem?_eq_getElem hi, by simpa using h1⟩
theorem tgO_yes {g : Tg} {s : Int} (h : tgv g = true) {k : Nat} {o : Int × Int} (e : ownI g.os s = (k : Int)) (eo : g.os[k]? = some o) : tgO g s = true ∧ tgT g s = o.2 := by
 have h1 : tgO g s = true := by unfold tgO; rw [h, e]; simp
 refine ⟨h1, ?_⟩
 unfold tgT
 rw [h1, if_pos rfl, e, Int.toNat_natCast, List.getD_eq_getElem?_getD, eo]
 rfl
theorem plcI_lt {ls : List Ln} {t p : Int} (h : 0 ≤ plcI ls t p) : ∃ (k : Nat) (x : Ln), plcI ls t p = (k : Int) ∧ ls[k]? = some x ∧ fits t p x = true := by
 unfold plcI at h ⊢
 cases e : plc ls t p with
 | none => rw [e] at h; simp at h
 | some i =>
  unfold plc at e
  obtain ⟨hi, h1, _⟩ := List.findIdx?_eq_some_iff_getElem.1 e
  exact ⟨i, ls[i], rfl, List.getElem?_eq_getElem hi, h1⟩
structure CV (c : Ca) : Prop where
 sz : 1 ≤ c.ls.length ∧ c.ls.length ≤ 8
 hand : inR c.hand c.ls.length = true
 ok : ∀ (i : Nat) (x : Ln), c.ls[i]? = some x → lnok x = true
 cl : ∀ (i j : Nat) (x y : Ln), i ≠ j → c.ls[i]? = some x → c.ls[j]? = some y → clash x y = false
 loose : ∃ (i : Nat) (x : Ln), c.ls[i]? = some x ∧ x.w = false
theorem clash_symm (x y : Ln) : clash x y = clash y x := by
 unfold clash
 rw [Bool.eq_iff_iff]
 simp only [Bool.and_eq_true, Bool.or_eq_true, decide_eq_true_eq]
 constructor
 ·rintro ⟨⟨⟨a, b⟩, c⟩, d⟩
  refine ⟨⟨⟨b, a⟩, c.symm⟩, ?_⟩
  rcases d with (d | d) | d
  ·exact .inl (.inl d.symm)
  ·exact .inr d
  ·exact .inl (.inr d)
 ·rintro ⟨⟨⟨a, b⟩, c⟩, d⟩
  refine ⟨⟨⟨b, a⟩, c.symm⟩, ?_⟩
  rcases d with (d | d) | d
  ·exact .inl (.inl d.symm)
  ·exact .inr d
  ·exact .inl (.inr d)
theorem lok_of {ls : List Ln} (h1 : ∀ (i : Nat) (x : Ln), ls[i]? = some x → lnok x = true) (h2 : ∀ (i j : Nat) (x y : Ln), i ≠ j → ls[i]? = some x → ls[j]? = some y → clash x y = false) : ∀ k, k ≤ ls.length → lok ls k = true
  | 0, _ => rfl
  | k + 1, hk => by
    obtain ⟨x, e⟩ : ∃ x, ls[k]? = some x := ⟨_, List.getElem?_eq_getElem (by omega)⟩
    exact lok_step (lok_of h1 h2 k (by omega)) e (h1 k x e) (fun r y hr er => h2 k r x y (by omega) e er)
theorem cav_CV {c : Ca} : cav c = true ↔ CV c := by
 constructor
 ·intro h
  obtain ⟨a, b, d, e, f⟩ := cav_parts h
  refine ⟨⟨a, b⟩, d, fun i x hi => ?_, fun i j x y hij hi hj => ?_, ?_⟩
  ·obtain ⟨x', e1, e2, _⟩ := lok_at e (List.getElem?_eq_some_iff.1 hi).1
   rw [hi] at e1
   injection e1 with e1
   rw [e1]; exact e2
  ·rcases Nat.lt_or_gt_of_ne hij with hlt | hlt
   ·obtain ⟨y', e1, _, e3⟩ := lok_at e (List.getElem?_eq_some_iff.1 hj).1
    rw [hj] at e1
    injection e1 with e1
    subst e1
    rw [clash_symm]
    exact e3 i x hlt hi
   ·obtain ⟨x', e1, _, e3⟩ := lok_at e (List.getElem?_eq_some_iff.1 hi).1
    rw [hi] at e1
    injection e1 with e1
    subst e1
    exact e3 j y hlt hj
  ·rw [List.any_eq_true] at f
   obtain ⟨x, hx, hw⟩ := f
   obtain ⟨i, hi, e1⟩ := List.getElem_of_mem hx
   exact ⟨i, x, by rw [List.getElem?_eq_getElem hi, e1], by simpa using hw⟩
 ·intro h
  rw [cav_end h.sz.1 h.sz.2 h.hand (lok_of h.ok h.cl _ (Nat.le_refl _)), List.any_eq_true]
  obtain ⟨i, x, e, hw⟩ := h.loose
  exact ⟨x, List.mem_of_getElem? e, by rw [hw]; rfl⟩
theorem lnok_z : lnok lnz = true := by decide
theorem clash_z (y : Ln) : clash lnz y = false := by unfold clash; rfl
theorem CV.drop {c : Ca} (h : CV c) (k : Nat) : CV ⟨c.ls.set k lnz, c.hand⟩ := by
 refine ⟨by simpa using h.sz, by simpa using h.hand, fun i x hi => ?_, fun i j x y hij hi hj => ?_, ?_⟩
 ·simp only at hi
  rw [List.getElem?_set] at hi
  split at hi
  ·split at hi
   ·injection hi with hi
    rw [← hi]; exact lnok_z
   ·cases hi
  ·exact h.ok i x hi
 ·simp only at hi hj
  rw [List.getElem?_set] at hi hj
  split at hi
  ·split at hi
   ·injection hi with hi
    rw [← hi]; exact clash_z y
   ·cases hi
  ·split at hj
   ·split at hj
    ·injection hj with hj
     rw [← hj, clash_symm]; exact clash_z x
    ·cases hj
   ·exact h.cl i j x y hij hi hj
 ·obtain ⟨i, x, e, hw⟩ := h.loose
  by_cases hk : k = i
  ·subst hk
   exact ⟨k, lnz, by simp only; rw [List.getElem?_set, if_pos rfl, if_pos (List.getElem?_eq_some_iff.1 e).1], rfl⟩
  ·exact ⟨i, x, by simp only; rw [List.getElem?_set, if_neg hk]; exact e, hw⟩
theorem fits_iff {t p : Int} {x : Ln} : fits t p x = true ↔ x.v = true ∧ x.p = p ∧ (x.t = t ∨ x.t = -1) := by
 unfold fits
 simp only [Bool.and_eq_true, Bool.or_eq_true, decide_eq_true_eq, and_assoc]
theorem plcI_none {ls : List Ln} {t p : Int} (h : ¬ 0 ≤ plcI ls t p) {i : Nat} {x : Ln} (e : ls[i]? = some x) : fits t p x = false := by
 unfold plcI plc at h
 cases e2 : ls.findIdx? (fits t p) with
 | some j => rw [e2] at h; simp at h
 | none =>
  rw [List.findIdx?_eq_none_iff] at e2
  exact e2 x (List.mem_of_getElem? e)
theorem CV.once {c : Ca} (h : CV c) {t p : Int} {i j : Nat} {x y : Ln} (hi : c.ls[i]? = some x) (hj : c.ls[j]? = some y) (hx : fits t p x = true) (hy : fits t p y = true) : i = j := by
 by_cases hij : i = j
 ·exact hij
 ·have h1 := h.cl i j x y hij hi hj
  obtain ⟨a1, a2, a3⟩ := fits_iff.1 hx
  obtain ⟨b1, b2, b3⟩ := fits_iff.1 hy
  exfalso
  have : clash x y = true := by
   unfold clash
   simp only [Bool.and_eq_true, Bool.or_eq_true, decide_eq_true_eq]
   refine ⟨⟨⟨a1, b1⟩, by rw [a2, b2]⟩, ?_⟩
   rcases a3 with a3 | a3
   ·rcases b3 with b3 | b3
    ·exact .inl (.inl (by rw [a3, b3]))
    ·exact .inr b3
   ·exact .inl (.inr a3)
  rw [h1] at this
  cases this
theorem lnM_some {m : Ma} {x : Ln} (hv : x.v = true) (h : lnM m x = true) : ∃ (s : Int) (i : Nat), lnSp m x = some s ∧ fnd m.t.fs (keyI s x.p) x.p = some i ∧ (i : Int) = x.f ∧ (m.t.fs.getD i frz).r = x.r ∧ ((128 ≤ x.p) ↔ x.t = -1) ∧ (x.w = true → 128 ≤ x.p) := by
 rw [lnM_def, if_pos hv] at h
 simp only [Bool.and_eq_true, Bool.or_eq_true, decide_eq_true_eq] at h
 obtain ⟨⟨h1, h2⟩, h3⟩ := h
 have hw : x.w = true → 128 ≤ x.p := fun hw => by
  rcases h2 with h2 | h2
  ·rw [hw] at h2; cases h2
  ·exact h2
 cases hs : lnSp m x with
 | none => rw [hs] at h3; cases h3
 | some s =>
  rw [hs] at h3
  simp only at h3
  cases e : fnd m.t.fs (keyI s x.p) x.p with
  | none => rw [e] at h3; cases h3
  | some i =>
   rw [e] at h3
   simp only [Bool.and_eq_true, decide_eq_true_eq] at h3
   exact ⟨s, i, rfl, e, h3.1, h3.2, h1, hw⟩
structure MV (m : Ma) : Prop where
 t : TV m.t
 c : CV m.c
 g : tgv m.g = true
 o : 0 ≤ ownI m.g.os m.sp
 f : ∀ (i : Nat) (f : Fr), m.t.fs[i]? = some f → frM f = true
 l : ∀ (i : Nat) (x : Ln), m.c.ls[i]? = some x → lnM m x = true
theorem mav_MV {m : Ma} : mav m = true ↔ MV m := by
 constructor
 ·intro h
  obtain ⟨a, b, c, d, e, f⟩ := mav_parts h
  exact ⟨tv_TV.1 a, cav_CV.1 b, c, d, fun i x hi => e x (List.mem_of_getElem? hi), fun i x hi => f x (List.mem_of_getElem? hi)⟩
 ·intro h
  refine mav_end (tv_TV.2 h.t) (cav_CV.2 h.c) h.g h.o (fun f hf => ?_) (fun x hx => ?_)
  ·obtain ⟨i, hi, e⟩ := List.getElem_of_mem hf
   exact h.f i f (by rw [List.getElem?_eq_getElem hi, e])
  ·obtain ⟨i, hi, e⟩ := List.getElem_of_mem hx
   exact h.l i x (by rw [List.getElem?_eq_getElem hi, e])
theorem TV.fnd {t : Tab} (h : TV t) {s p : Int} {i : Nat} {f : Fr} (e : t.fs[i]? = some f) (hu : f.used = true) (hk : (f.s, f.p) = (s, p)) : fnd t.fs s p = some i := fnd_of (tv_parts (tv_TV.2 h)).2.1 e hu hk
theorem MV.apart {m : Ma} (M : MV m) {s p : Int} {i : Nat} {x : Ln} (hi : (drpC m s p).ls[i]? = some x) (hv : x.v = true) :
  m.c.ls[i]? = some x ∧ ∀ s', lnSp m x = some s' → ¬ (keyI s' x.p, x.p) = (s, p) := by
 have key : ∀ (y : Ln), m.c.ls[i]? = some y → y.v = true → ∀ s', lnSp m y = some s' → (keyI s' y.p, y.p) = (s, p) → tagO m s p = true ∧ fits (tagT m s p) p y = true := by
  intro y hy hyv s' hs' hkk
  obtain ⟨_, _, a1, a2, a3, a4, a5, a6⟩ := lnM_some hyv (M.l i y hy)
  injection hkk with hk1 hk2
  by_cases h128 : 128 ≤ p
  ·have ht : y.t = -1 := a5.1 (by rw [hk2]; exact h128)
   exact ⟨if_pos h128, fits_iff.2 ⟨hyv, hk2, .inr ht⟩⟩
  ·unfold lnSp at hs'
   rw [if_neg (by rw [hk2]; exact h128)] at hs'
   cases es : spc m.g.os y.t with
   | none => rw [es] at hs'; cases hs'
   | some j =>
    rw [es] at hs'
    injection hs' with hs'
    unfold spc at es
    obtain ⟨hj, hj1, _⟩ := List.findIdx?_eq_some_iff_getElem.1 es
    have ej : m.g.os[j]? = some m.g.os[j] := List.getElem?_eq_getElem hj
    rw [List.getD_eq_getElem?_getD, ej] at hs'
    simp only [Option.getD_some] at hs'
    have hj1 : m.g.os[j].2 = y.t := by simpa using hj1
    have hks : keyI s' y.p = s' := by unfold keyI; rw [if_neg (by rw [hk2]; exact h128)]
    rw [hks] at hk1
    have hos : m.g.os[j].1 = s := by rw [hs', hk1]
    obtain ⟨k, o, hk3, ek, hk4⟩ : ∃ (k : Nat) (o : Int × Int), ownI m.g.os s = (k : Int) ∧ m.g.os[k]? = some o ∧ o.1 = s := by
     refine ownI_lt ?_
     unfold ownI
     cases eo : own m.g.os s with
     | some _ => simp
     | none =>
      unfold own at eo
      rw [List.findIdx?_eq_none_iff] at eo
      have := eo _ (List.mem_of_getElem? ej)
      rw [hos] at this
      simp at this
    have hkj : k = j := by
     obtain ⟨_, ht⟩ := tgv_parts M.g
     rcases Nat.lt_trichotomy k j with hlt | heq | hlt
     ·obtain ⟨q, eq, _, _, _, _, hq⟩ := tok_at ht hj
      rw [ej] at eq
      injection eq with eq
      exact absurd (by rw [← eq, hos, hk4]) (hq k o hlt ek)
     ·exact heq
     ·obtain ⟨q, eq, _, _, _, _, hq⟩ := tok_at ht (List.getElem?_eq_some_iff.1 ek).1
      rw [ek] at eq
      injection eq with eq
      exact absurd (by rw [← eq, hos, hk4]) (hq j _ hlt ej)
    subst hkj
    obtain ⟨b1, b2⟩ := tgO_yes M.g hk3 ek
    rw [ej] at ek
    injection ek with ek
    refine ⟨by unfold tagO; rw [if_neg h128]; exact b1, fits_iff.2 ⟨hyv, hk2, .inl ?_⟩⟩
    unfold tagT
    rw [if_neg h128, b2, ← ek, hj1]
 unfold drpC at hi
 split at hi
 ·rename_i hh
  simp only at hi
  rw [List.getElem?_set] at hi
  split at hi
  ·split at hi
   ·injection hi with hi
    rw [← hi] at hv
    cases hv
   ·cases hi
  ·rename_i hne
   refine ⟨hi, fun s' hs' hkk => ?_⟩
   obtain ⟨_, hf⟩ := key x hi hv s' hs' hkk
   obtain ⟨k, y, e1, e2, e3⟩ := plcI_lt hh.2
   have := M.c.once hi e2 hf e3
   rw [e1, Int.toNat_natCast] at hne
   exact hne this.symm
 ·rename_i hh
  refine ⟨hi, fun s' hs' hkk => ?_⟩
  obtain ⟨h1, hf⟩ := key x hi hv s' hs' hkk
  by_cases hp : 0 ≤ plcI m.c.ls (tagT m s p) p
  ·exact hh ⟨h1, hp⟩
  ·rw [plcI_none hp hi] at hf; cases hf
theorem Own.ne {w : World} {g g2 : Nat} {t t2 : TypeId} {cs cs2 : Array Value} (h : Own w g t cs) (h2 : Own w g2 t2 cs2) (hne : t ≠ t2) : g ≠ g2 := by
 rintro rfl
 unfold Own at h h2
 rw [h] at h2
 injection h2 with h2
 injection h2 with _ h2
 exact hne h2
theorem SlM.own_ {α : Type} {E : Enc α} {e : TypeId} {B : Nat} {w : World} {A : Option Addr} {n c : Nat} {l : List α} (h : SlM E e B w (.slice A n c) l) : MineE E e B w A l ∧ n = l.length ∧ l.length ≤ c ∧ c ≤ maxLen := by
 obtain ⟨A', c', h1, h2, h3, h4⟩ := h
 injection h1 with h1 h5 h6
 subst h1 h6
 exact ⟨h4, h5, h2, h3⟩
end Go.Proofs.YtibpnlojlfcpmaaGreatDoor
