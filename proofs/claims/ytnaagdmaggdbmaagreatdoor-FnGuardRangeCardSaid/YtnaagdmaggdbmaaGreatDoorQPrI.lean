/- A part of the proofs of this seat: PrI, DrpP, TagI, RgP, RgG. -/
import Derived.Test.YtnaagdmaggdbmaaGreatDoorQCaP
import Derived.Test.YtnaagdmaggdbmaaGreatDoorQMa
import Derived.Test.YtnaagdmaggdbmaaGreatDoorQCaI
import Derived.Test.YtnaagdmaggdbmaaGreatDoorQCaS
import Derived.Test.YtnaagdmaggdbmaaGreatDoorQMvS
set_option linter.unusedVariables false
set_option linter.unusedSimpArgs false
namespace Go.Proofs.YtnaagdmaggdbmaaGreatDoor
open Go.RowKit
set_option maxRecDepth 1000000
theorem MineE.farT {α : Type} {E : Enc α} {e ty : TypeId} {B g i : Nat} {w : World} {A : Option Addr} {l : List α} {cs : Array Value} {u : Value} (h : MineE E e B w A l) (ho : Own w g ty cs) (hne : ty ≠ e) : MineE E e B (w.setCell ⟨g, i, none⟩ u) A l := by
 rcases Nat.eq_zero_or_pos l.length with hl | hl
 ·exact ⟨⟨h.is.len, fun hn => absurd hn (by omega)⟩, fun hn => absurd hn (by omega)⟩
 ·obtain ⟨g2, cs2, rfl, _, ho2, _⟩ := h.own hl
  refine h.other (p := ⟨g, i, none⟩) (fun hg => ?_)
  replace hg : g = g2 := hg
  subst hg
  unfold Own at ho ho2
  rw [ho] at ho2
  injection ho2 with ho2
  injection ho2 with _ ho2
  exact hne ho2
theorem SlM.farT {α : Type} {E : Enc α} {e ty : TypeId} {B g i : Nat} {w : World} {v : Value} {l : List α} {cs : Array Value} {u : Value} (h : SlM E e B w v l) (ho : Own w g ty cs) (hne : ty ≠ e) : SlM E e B (w.setCell ⟨g, i, none⟩ u) v l := by
 obtain ⟨A, c, h1, h2, h3, h4⟩ := h
 exact ⟨A, c, h1, h2, h3, h4.farT ho hne⟩
theorem MaM.farT {B g i : Nat} {w : World} {vb vf vl vo : Value} {m : Ma} {cs : Array Value} {u : Value} (h : MaM B w vb vf vl vo m) (ho : Own w g 34 cs) : MaM B (w.setCell ⟨g, i, none⟩ u) vb vf vl vo m :=
 ⟨⟨h.t.b.farT ho (by decide), h.t.f.farT ho (by decide)⟩, h.l.farT ho (by decide), h.o.farT ho (by decide)⟩
theorem MaM.far9 {B g : Nat} {w : World} {vb vf vl vo : Value} {m : Ma} {cs : Array Value} (h : MaM B w vb vf vl vo m) (ho : Own w g 34 cs) (u0 u1 u2 u3 u4 u5 u6 u7 u8 : Value) :
  MaM B (((((((((w.setCell ⟨g, 0, none⟩ u0).setCell ⟨g, 1, none⟩ u1).setCell ⟨g, 2, none⟩ u2).setCell ⟨g, 3, none⟩ u3).setCell ⟨g, 4, none⟩ u4).setCell ⟨g, 5, none⟩ u5).setCell ⟨g, 6, none⟩ u6).setCell ⟨g, 7, none⟩ u7).setCell ⟨g, 8, none⟩ u8) vb vf vl vo m := by
 have o1 := ho.set_ 0 u0
 have o2 := o1.set_ 1 u1
 have o3 := o2.set_ 2 u2
 have o4 := o3.set_ 3 u3
 have o5 := o4.set_ 4 u4
 have o6 := o5.set_ 5 u5
 have o7 := o6.set_ 6 u6
 have o8 := o7.set_ 7 u7
 exact ((((((((h.farT ho).farT o1).farT o2).farT o3).farT o4).farT o5).farT o6).farT o7).farT o8
theorem Own.far9 {g h : Nat} {w : World} {ty : TypeId} {cs : Array Value} (ho : Own w h ty cs) (hne : h ≠ g) (u0 u1 u2 u3 u4 u5 u6 u7 u8 : Value) :
  Own (((((((((w.setCell ⟨g, 0, none⟩ u0).setCell ⟨g, 1, none⟩ u1).setCell ⟨g, 2, none⟩ u2).setCell ⟨g, 3, none⟩ u3).setCell ⟨g, 4, none⟩ u4).setCell ⟨g, 5, none⟩ u5).setCell ⟨g, 6, none⟩ u6).setCell ⟨g, 7, none⟩ u7).setCell ⟨g, 8, none⟩ u8) h ty cs :=
 ((((((((ho.far hne).far hne).far hne).far hne).far hne).far hne).far hne).far hne).far hne
theorem Own.set9 {g : Nat} {w : World} {ty : TypeId} {a0 a1 a2 a3 a4 a5 a6 a7 a8 : Value} (ho : Own w g ty #[a0, a1, a2, a3, a4, a5, a6, a7, a8]) (u0 u1 u2 u3 u4 u5 u6 u7 u8 : Value) :
  Own (((((((((w.setCell ⟨g, 0, none⟩ u0).setCell ⟨g, 1, none⟩ u1).setCell ⟨g, 2, none⟩ u2).setCell ⟨g, 3, none⟩ u3).setCell ⟨g, 4, none⟩ u4).setCell ⟨g, 5, none⟩ u5).setCell ⟨g, 6, none⟩ u6).setCell ⟨g, 7, none⟩ u7).setCell ⟨g, 8, none⟩ u8) g ty #[u0, u1, u2, u3, u4, u5, u6, u7, u8] := by
 have h := ((((((((ho.set_ 0 u0).set_ 1 u1).set_ 2 u2).set_ 3 u3).set_ 4 u4).set_ 5 u5).set_ 6 u6).set_ 7 u7).set_ 8 u8
 simpa using h
end Go.Proofs.YtnaagdmaggdbmaaGreatDoor
namespace Go.Proofs.YtnaagdmaggdbmaaGreatDoor
open Go.RowKit
def tagO (m : Ma) (s p : Int) : Bool := if 128 ≤ p then true else tgO m.g s
def tagT (m : Ma) (s p : Int) : Int := if 128 ≤ p then -1 else tgT m.g s
def drpC (m : Ma) (s p : Int) : Ca := if tagO m s p = true ∧ 0 ≤ plcI m.c.ls (tagT m s p) p then ⟨m.c.ls.set (plcI m.c.ls (tagT m s p) p).toNat lnz, m.c.hand⟩ else m.c
def drpM (m : Ma) (t : Tab) (s p : Int) : Ma := { m with t := t, c := drpC m s p }
def takO (m : Ma) (s p : Int) : Bool := mav m && fOK m.t s p
def takV (m : Ma) (s p : Int) : Ma := if takO m s p = true then drpM m (unmV m.t s p) s p else maz
def grdO (m : Ma) (s p r : Int) : Bool := mav m && prOK m.t s p r
def grdV (m : Ma) (s p r : Int) : Ma := if grdO m s p r = true then drpM m (prV m.t s p r) s p else maz
theorem takO_false {m : Ma} {s p : Int} (h : takO m s p = false) : takV m s p = maz := by unfold takV; rw [h]; rfl
theorem grdO_false {m : Ma} {s p r : Int} (h : grdO m s p r = false) : grdV m s p r = maz := by unfold grdV; rw [h]; rfl
theorem tgO_no {g : Tg} {s : Int} (h : tgv g = false) : tgO g s = false ∧ tgT g s = 0 := by
 have h1 : tgO g s = false := by unfold tgO; rw [h]; rfl
 exact ⟨h1, by unfold tgT; rw [h1]; rfl⟩
theorem tgO_neg {g : Tg} {s : Int} (h : ¬ 0 ≤ ownI g.os s) : tgO g s = false ∧ tgT g s = 0 := by
 have h1 : tgO g s = false := by unfold tgO; rw [decide_eq_false h, Bool.and_false]
 exact ⟨h1, by unfold tgT; rw [h1]; rfl⟩
theorem ownI_lt {os : List (Int × Int)} {s : Int} (h : 0 ≤ ownI os s) : ∃ (k : Nat) (o : Int × Int), ownI os s = (k : Int) ∧ os[k]? = some o ∧ o.1 = s := by
 unfold ownI at h ⊢
 cases e : own os s with
 | none => rw [e] at h; simp at h
 | some i =>
  unfold own at e
  obtain ⟨hi, h1, _⟩ := List.findIdx?_eq_some_iff_getElem.1 e
  exact ⟨i, os[i], rfl, List.getElem?_eq_getElem hi, by simpa using h1⟩
theorem tgO_yes {g : Tg} {s : Int} (h : tgv g = true) {k : Nat} {o : Int × Int} (e : ownI g.os s = (k : Int)) (eo : g.os[k]? = some o) : tgO g s = true ∧ tgT g s = o.2 := by
 have h1 : tgO g s = true := by unfold tgO; rw [h, e]; simp
 refine ⟨h1, ?_⟩
 unfold tgT
 rw [h1, if_pos rfl, e, Int.toNat_natCast, List.getD_eq_getElem?_getD, eo]
 rfl
theorem plcI_lt {ls : List Ln} {t p : Int} (h : 0 ≤ plcI ls t p) : ∃ (k : Nat) (x : Ln), plcI ls t p = (k : Int) ∧ ls[k]? = some x ∧ fits t p x = true := by
 unfold plcI at h ⊢
 cases e : plc ls t p with
 | none => rw [e] at h; simp at h
 | some i =>
  unfold plc at e
  obtain ⟨hi, h1, _⟩ := List.findIdx?_eq_some_iff_getElem.1 e
  exact ⟨i, ls[i], rfl, List.getElem?_eq_getElem hi, h1⟩
theorem drpC_no {m : Ma} {s p : Int} (h : tagO m s p = false) : drpC m s p = m.c := by unfold drpC; rw [if_neg]; rintro ⟨h1, _⟩; rw [h] at h1; cases h1
theorem drpC_neg {m : Ma} {s p : Int} (h : ¬ 0 ≤ plcI m.c.ls (tagT m s p) p) : drpC m s p = m.c := by unfold drpC; rw [if_neg]; exact fun h1 => h h1.2
theorem drpC_at {m : Ma} {s p : Int} (h : tagO m s p = true) {k : Nat} (e : plcI m.c.ls (tagT m s p) p = (k : Int)) : drpC m s p = ⟨m.c.ls.set k lnz, m.c.hand⟩ := by unfold drpC; rw [if_pos ⟨h, by omega⟩, e, Int.toNat_natCast]
end Go.Proofs.YtnaagdmaggdbmaaGreatDoor
namespace Go.Proofs.YtnaagdmaggdbmaaGreatDoor
open Go.RowKit
set_option maxRecDepth 1000000
set_option maxHeartbeats 1000000 in
theorem TagOf_any (vo : Value) (g : Tg) (s : Int) (w : World) (hT : SlR owE w vo g.os) :
  Calls Tryz.prog 170 #[.agg #[.int .i64 g.count, .int .i64 g.next, .int .i64 g.round, vo], .int .i64 s] w fun r w' => r = .returned (.tuple #[.int .i64 (tgT g s), .bool (tgO g s)]) ∧ Below w.heap.size w w' := by
 have HV := Lib.hid hT
 obtain ⟨A, cc, rfl, hbc, hbm, hL⟩ := hT
 have hfm2 : g.os.length ≤ 9223372036854775807 := by unfold maxLen at hbm; omega
 have HL := Lib.hid hL
 have hbx := Own.new_ w 32 #[.int .i64 g.count, .int .i64 g.next, .int .i64 g.round, .slice A g.os.length cc]
 have hbz : Below w.heap.size w (w.alloc (.cells #[.int .i64 g.count, .int .i64 g.next, .int .i64 g.round, .slice A g.os.length cc] 32)) := bA bR
 have hsz0 : (w.alloc (.cells #[.int .i64 g.count, .int .i64 g.next, .int .i64 g.round, .slice A g.os.length cc] 32)).heap.size = w.heap.size + 1 := by simp
 generalize hW : w.alloc (.cells #[.int .i64 g.count, .int .i64 g.next, .int .i64 g.round, .slice A g.os.length cc] 32) = W0 at hbx hbz hsz0
 have q0 := hbx.cell_ 0 (v := .int .i64 g.count) rfl
 have q1 := hbx.cell_ 1 (v := .int .i64 g.next) rfl
 have q2 := hbx.cell_ 2 (v := .int .i64 g.round) rfl
 have q3 := hbx.cell_ 3 (v := .slice A g.os.length cc) rfl
 have HBX := Lib.hid hbx
 clear hL hbx
 go_enter Tryz.func170, Tryz.ntmps170
 go_wp2_with fail
 refine (TagsValid_any _ g _ (HV.out.now hbz)).mono ?_
 rintro e w1 ⟨rfl, hb1⟩
 have HBX1 := Lib.hid (HBX.out.below hb1)
 have HBZ1 := Lib.hid (bT hbz hb1)
 clear hb1 q0 q1 q2 q3
 have q0 := HBX1.out.cell_ 0 (v := .int .i64 g.count) rfl
 have q1 := HBX1.out.cell_ 1 (v := .int .i64 g.next) rfl
 have q2 := HBX1.out.cell_ 2 (v := .int .i64 g.round) rfl
 have q3 := HBX1.out.cell_ 3 (v := .slice A g.os.length cc) rfl
 cases h1 : tgv g with
 | false =>
  obtain ⟨e1, e2⟩ := tgO_no (s := s) h1
  have E1 := Lib.hid e1
  have E2 := Lib.hid e2
  clear e1 e2
  go_wp2
  go_ret2
  exact ⟨by rw [E1.out, E2.out]; rfl, HBZ1.out⟩
 | true =>
  go_wp2_with fail
  refine (own_any _ g s _ (HV.out.now HBZ1.out)).mono ?_
  rintro e w2 ⟨rfl, hb2⟩
  have HBX2 := Lib.hid (HBX1.out.below hb2)
  have HBZ2 := Lib.hid (bT HBZ1.out hb2)
  clear hb2 q0 q1 q2 q3
  have q0 := HBX2.out.cell_ 0 (v := .int .i64 g.count) rfl
  have q1 := HBX2.out.cell_ 1 (v := .int .i64 g.next) rfl
  have q2 := HBX2.out.cell_ 2 (v := .int .i64 g.round) rfl
  have q3 := HBX2.out.cell_ 3 (v := .slice A g.os.length cc) rfl
  by_cases h2 : 0 ≤ ownI g.os s
  case neg =>
   obtain ⟨e1, e2⟩ := tgO_neg h2
   have E1 := Lib.hid e1
   have E2 := Lib.hid e2
   have h2b : ownI g.os s < 0 := by omega
   clear e1 e2
   go_wp2
   go_ret2
   exact ⟨by rw [E1.out, E2.out]; rfl, HBZ2.out⟩
  case pos =>
   obtain ⟨k, o, hk, eo, _⟩ := ownI_lt h2
   obtain ⟨e1, e2⟩ := tgO_yes h1 hk eo
   have E1 := Lib.hid e1
   have E2 := Lib.hid e2
   have HN := Lib.hid hk
   have EO := Lib.hid eo
   have hkl := (List.getElem?_eq_some_iff.1 eo).1
   have HOW : Hid (∀ W, SlR owE W (.slice A g.os.length cc) g.os → Calls Tryz.prog 66 #[.agg #[.int .i64 g.count, .int .i64 g.next, .int .i64 g.round, .slice A g.os.length cc], .int .i64 s] W fun r w' => r = .returned (.int .i64 (k : Int)) ∧ Below W.heap.size W w') := fun W h => by rw [← hk]; exact own_any _ g s W h
   rw [hk]
   have h2b : ¬ (k : Int) < 0 := by omega
   clear e1 e2 hk eo h2 q0 q1 q2 q3
   obtain ⟨b, ob, rfl, hbb, d0, d1⟩ := (HL.out.now (Nat.le_refl _) HBZ2.out).ow EO.out
   have q0 := xcell (HBX2.out.cell_ 0 (v := .int .i64 g.count) rfl) HBX2.out.lt
   have q1 := xcell (HBX2.out.cell_ 1 (v := .int .i64 g.next) rfl) HBX2.out.lt
   have q2 := xcell (HBX2.out.cell_ 2 (v := .int .i64 g.round) rfl) HBX2.out.lt
   have q3 := xcell (HBX2.out.cell_ 3 (v := .slice (some ⟨b, ob, none⟩) g.os.length cc) rfl) HBX2.out.lt
   have y1 := xcell d1 hbb
   clear d0 d1
   go_wp2
   refine wp_region_ext (by kernel_rfl) (by kernel_rfl) ?_
   repeat (go_big_quiet_step ((go_at_call 66; exact ext_call (HOW.out _ (HV.out.now (bT HBZ2.out (Ext.ok _)))))))
   refine wpQuiet_nil ?_
   intro _ hw'
   obtain ⟨⟨wq, hq⟩, hw''⟩ := hw'
   subst hw''
   try dsimp only
   go_wp2
   go_ret2
   exact ⟨by rw [E1.out, E2.out]; rfl, bT HBZ2.out hq⟩
set_option maxHeartbeats 1000000 in
theorem tagFor_any (vb vf vl vo : Value) (m : Ma) (s p : Int) (w : World) (hM : MaR w vb vf vl vo m) :
  Calls Tryz.prog 102 #[.agg #[vb, vf, vl, .int .i64 m.c.hand, .int .i64 m.g.count, .int .i64 m.g.next, .int .i64 m.g.round, vo, .int .i64 m.sp], .int .i64 s, .int .i64 p] w fun r w' => r = .returned (.tuple #[.int .i64 (tagT m s p), .bool (tagO m s p)]) ∧ Below w.heap.size w w' := by
 have HM := Lib.hid hM
 clear hM
 obtain ⟨W0, hW, hbx, hbz, _⟩ := box1 w #[vb, vf, vl, .int .i64 m.c.hand, .int .i64 m.g.count, .int .i64 m.g.next, .int .i64 m.g.round, vo, .int .i64 m.sp] 34
 have HX0 := Lib.hid hbx
 have HB0 := Lib.hid hbz
 clear hbx hbz
 obtain ⟨m00, m10, m20, m30, m40, m50, m60, m70, m80⟩ := cells9 HX0.out
 by_cases h : 128 ≤ p
 ·have E1 : Hid (tagT m s p = -1) := if_pos h
  have E2 : Hid (tagO m s p = true) := if_pos h
  go_enter Tryz.func102, Tryz.ntmps102
  go_wp2
  go_ret2
  exact ⟨by rw [E1.out, E2.out]; rfl, HB0.out⟩
 ·have E1 : Hid (tagT m s p = tgT m.g s) := if_neg h
  have E2 : Hid (tagO m s p = tgO m.g s) := if_neg h
  go_enter Tryz.func102, Tryz.ntmps102
  go_wp2_with fail
  refine (TagOf_any vo m.g s _ (HM.out.o.now HB0.out)).mono ?_
  rintro e w1 ⟨rfl, hb1⟩
  go_wp2
  go_ret2
  exact ⟨by rw [E1.out, E2.out]; rfl, bT HB0.out hb1⟩
set_option maxHeartbeats 1000000 in
theorem l6Tag_any (vb vf vl vo : Value) (m : Ma) (s p : Int) (w : World) (hM : MaR w vb vf vl vo m) (hg : tgv m.g = true) :
  Calls Tryz.prog 142 #[.agg #[vb, vf, vl, .int .i64 m.c.hand, .int .i64 m.g.count, .int .i64 m.g.next, .int .i64 m.g.round, vo, .int .i64 m.sp], .int .i64 s, .int .i64 p] w fun r w' => r = .returned (.tuple #[.int .i64 (tagT m s p), .bool (tagO m s p)]) ∧ Below w.heap.size w w' := by
 have HM := Lib.hid hM
 clear hM
 obtain ⟨W0, hW, hbx, hbz, _⟩ := box1 w #[vb, vf, vl, .int .i64 m.c.hand, .int .i64 m.g.count, .int .i64 m.g.next, .int .i64 m.g.round, vo, .int .i64 m.sp] 34
 have HX0 := Lib.hid hbx
 have HB0 := Lib.hid hbz
 clear hbx hbz
 obtain ⟨m00, m10, m20, m30, m40, m50, m60, m70, m80⟩ := cells9 HX0.out
 by_cases h : 128 ≤ p
 ·have E1 : Hid (tagT m s p = -1) := if_pos h
  have E2 : Hid (tagO m s p = true) := if_pos h
  go_enter Tryz.func142, Tryz.ntmps142
  go_wp2
  go_ret2
  exact ⟨by rw [E1.out, E2.out]; rfl, HB0.out⟩
 ·have E1 : Hid (tagT m s p = tgT m.g s) := if_neg h
  have E2 : Hid (tagO m s p = tgO m.g s) := if_neg h
  by_cases h2 : 0 ≤ ownI m.g.os s
  case neg =>
   obtain ⟨e1, e2⟩ := tgO_neg h2
   have F1 := Lib.hid e1
   have F2 := Lib.hid e2
   have h2b : ownI m.g.os s < 0 := by omega
   clear e1 e2
   go_enter Tryz.func142, Tryz.ntmps142
   go_wp2_with fail
   refine (l5Find_any _ m.g s _ (HM.out.o.now HB0.out)).mono ?_
   rintro e w1 ⟨rfl, hb1⟩
   go_wp2
   go_ret2
   exact ⟨by rw [E1.out, E2.out, F1.out, F2.out]; rfl, bT HB0.out hb1⟩
  case pos =>
   obtain ⟨k, o, hk, eo, _⟩ := ownI_lt h2
   obtain ⟨e1, e2⟩ := tgO_yes hg hk eo
   have F1 := Lib.hid e1
   have F2 := Lib.hid e2
   have HN := Lib.hid hk
   have EO := Lib.hid eo
   have hkl := (List.getElem?_eq_some_iff.1 eo).1
   have h2b : ¬ (k : Int) < 0 := by omega
   clear e1 e2 hk eo h2
   go_enter Tryz.func142, Tryz.ntmps142
   go_wp2_with fail
   refine (l5Find_any _ m.g s _ (HM.out.o.now HB0.out)).mono ?_
   rintro e w1 ⟨rfl, hb1⟩
   rw [HN.out]
   obtain ⟨A, cc, rfl, hbc, hbm, hL⟩ := HM.out.o
   obtain ⟨b, ob, rfl, hbb, d0, d1⟩ := (hL.now (Nat.le_refl _) (bT HB0.out hb1)).ow EO.out
   have HB1 := Lib.hid (bT HB0.out hb1)
   have m7 := (HX0.out.below hb1).cell_ 7 (v := .slice (some ⟨b, ob, none⟩) m.g.os.length cc) rfl
   clear m00 m10 m20 m30 m40 m50 m60 m70 m80 hb1
   go_wp2
   go_ret2
   exact ⟨by rw [E1.out, E2.out, F1.out, F2.out]; rfl, HB1.out⟩
end Go.Proofs.YtnaagdmaggdbmaaGreatDoor
namespace Go.Proofs.YtnaagdmaggdbmaaGreatDoor
open Go.RowKit
def rgN (O : Ma → Nat → Bool) (V : Ma → Nat → Ma) (m : Ma) : Nat → Option Ma
 | 0 => some m
 | k + 1 => match rgN O V m k with
  | some m' => if O m' k = true then some (V m' k) else none
  | none => none
theorem rgN_step {O : Ma → Nat → Bool} {V : Ma → Nat → Ma} {m m' : Ma} {k : Nat} (h : rgN O V m k = some m') (hok : O m' k = true) : rgN O V m (k + 1) = some (V m' k) := by
 unfold rgN
 rw [h]
 simp only
 rw [if_pos hok]
theorem rgN_bad {O : Ma → Nat → Bool} {V : Ma → Nat → Ma} {m m' : Ma} {k : Nat} (h : rgN O V m k = some m') (hok : O m' k = false) : rgN O V m (k + 1) = none := by
 unfold rgN
 rw [h]
 simp only
 rw [if_neg (by rw [hok]; decide)]
theorem rgN_none {O : Ma → Nat → Bool} {V : Ma → Nat → Ma} {m : Ma} {k : Nat} (h : rgN O V m k = none) : ∀ {n : Nat}, k ≤ n → rgN O V m n = none := by
 intro n hn
 induction n with
 | zero => rw [show (0 : Nat) = k by omega]; exact h
 | succ n ih =>
  rcases Nat.lt_or_ge n k with hlt | hge
  ·rw [show n + 1 = k by omega]; exact h
  ·unfold rgN
   rw [ih hge]
def rgO (O : Ma → Nat → Bool) (V : Ma → Nat → Ma) (m : Ma) (c : Int) : Option Ma := if mav m = true ∧ 1 ≤ c ∧ c ≤ 16 then rgN O V m c.toNat else none
theorem rgO_no {O : Ma → Nat → Bool} {V : Ma → Nat → Ma} {m : Ma} {c : Int} (h : ¬ (mav m = true ∧ 1 ≤ c ∧ c ≤ 16)) : rgO O V m c = none := if_neg h
theorem rgO_yes {O : Ma → Nat → Bool} {V : Ma → Nat → Ma} {m : Ma} {c : Nat} (h : mav m = true) (h1 : 1 ≤ c) (h2 : c ≤ 16) : rgO O V m c = rgN O V m c := by
 unfold rgO
 rw [if_pos ⟨h, by omega, by omega⟩, Int.toNat_natCast]
def rgV (O : Ma → Nat → Bool) (V : Ma → Nat → Ma) (m : Ma) (c : Int) : Ma := (rgO O V m c).getD maz
theorem rgN_keep {O : Ma → Nat → Bool} {V : Ma → Nat → Ma} {P : Ma → Prop} (hV : ∀ m' k, O m' k = true → P m' → P (V m' k)) {m : Ma} (h : P m) : ∀ (k : Nat) (m' : Ma), rgN O V m k = some m' → P m'
  | 0, m', e => by
    injection e with e
    rw [← e]; exact h
  | k + 1, m', e => by
    unfold rgN at e
    cases h1 : rgN O V m k with
    | none => rw [h1] at e; cases e
    | some m1 =>
      rw [h1] at e
      simp only at e
      split at e
      · rename_i hok
        injection e with e
        rw [← e]
        exact hV _ _ hok (rgN_keep hV h k m1 h1)
      · cases e
end Go.Proofs.YtnaagdmaggdbmaaGreatDoor
namespace Go.Proofs.YtnaagdmaggdbmaaGreatDoor
open Go.RowKit
set_option maxRecDepth 1000000
set_option maxHeartbeats 4000000 in
theorem guardRanged_any (vb vf vl vo : Value) (m : Ma) (s p c : Int) (gr : Nat) (O : Ma → Nat → Bool) (V : Ma → Nat → Ma) (w : World) (hM : MaR w vb vf vl vo m) (hfree : Free w)
    (hkv : ∀ m', O m' 0 = true → kval (s, p) = true)
    (hC : ∀ (c1 c2 c3 c4 : Value) (mk : Ma) (k : Nat) (W : World), k < 16 → Below w.heap.size w W → MaR W c1 c2 c3 c4 mk →
      Calls Tryz.prog 59 #[.agg #[c1, c2, c3, .int .i64 mk.c.hand, .int .i64 mk.g.count, .int .i64 mk.g.next, .int .i64 mk.g.round, c4, .int .i64 mk.sp], .int .i64 k, .agg #[.int .i64 s, .int .i64 (p + k)], .pointer (some ⟨gr, 0, none⟩)] W (Post2 fun v w' => ∃ v1 v2 v3 v4, v = .tuple #[.agg #[v1, v2, v3, .int .i64 (V mk k).c.hand, .int .i64 (V mk k).g.count, .int .i64 (V mk k).g.next, .int .i64 (V mk k).g.round, v4, .int .i64 (V mk k).sp], .bool (O mk k)] ∧ MaM W.heap.size w' v1 v2 v3 v4 (V mk k) ∧ Below W.heap.size W w')) :
    Calls Tryz.prog 50 #[.agg #[vb, vf, vl, .int .i64 m.c.hand, .int .i64 m.g.count, .int .i64 m.g.next, .int .i64 m.g.round, vo, .int .i64 m.sp], .agg #[.int .i64 s, .int .i64 p], .int .i64 c, .func (.func 59) #[] #[.pointer (some ⟨gr, 0, none⟩)]] w (Post2 fun v w' => ∃ v1 v2 v3 v4, v = .tuple #[.agg #[v1, v2, v3, .int .i64 (rgV O V m c).c.hand, .int .i64 (rgV O V m c).g.count, .int .i64 (rgV O V m c).g.next, .int .i64 (rgV O V m c).g.round, v4, .int .i64 (rgV O V m c).sp], .bool ((rgO O V m c).isSome)] ∧ MaM w.heap.size w' v1 v2 v3 v4 (rgV O V m c) ∧ Below w.heap.size w w') := by
  obtain ⟨W0, hW, hbx, hbk, hbo, hb0, hs0⟩ := box3 w #[vb, vf, vl, .int .i64 m.c.hand, .int .i64 m.g.count, .int .i64 m.g.next, .int .i64 m.g.round, vo, .int .i64 m.sp] 34 #[.int .i64 s, .int .i64 p] 36 #[.slice none 0 0, .slice none 0 0, .slice none 0 0, .int .i64 0, .int .i64 0, .int .i64 0, .int .i64 0, .slice none 0 0, .int .i64 0] 34
  have HX0 := Lib.hid hbx
  have HK0 := Lib.hid hbk
  have HR0 := Lib.hid hbo
  have HB0 := Lib.hid hb0
  have HS0 : Hid (w.heap.size + 3 ≤ W0.heap.size) := Nat.le_of_eq hs0.symm
  clear hbx hbk hbo hb0
  have HM := Lib.hid hM
  have HF := Lib.hid hfree
  clear hM hfree
  obtain ⟨m00, m10, m20, m30, m40, m50, m60, m70, m80⟩ := cells9 HX0.out
  go_enter Tryz.func50, Tryz.ntmps50
  go_wp2_with fail
  refine (MachineValid_any vb vf vl vo m _ (HM.out.now HB0.out) (HF.out.now HB0.out)).mono ?_
  rintro e w1 ⟨rfl, hb1⟩
  have HX1 := Lib.hid (HX0.out.below hb1)
  have HK1 := Lib.hid (HK0.out.below hb1)
  have HR1 := Lib.hid (HR0.out.below hb1)
  have HB1 := Lib.hid (bT HB0.out hb1)
  have HS1 := Lib.hid (Nat.le_trans HS0.out hb1.size)
  clear hb1
  clear m00 m10 m20 m30 m40 m50 m60 m70 m80
  cases h1 : mav m with
  | false =>
    have HO : Hid (rgO O V m c = none) := rgO_no (fun h => by rw [h1] at h; cases h.1)
    have HA : Hid ((rgO O V m c).isSome = false) := by show _ = _; rw [HO.out]; rfl
    have HV : Hid (rgV O V m c = maz) := by show _ = _; unfold rgV; rw [HO.out]; rfl
    obtain ⟨r0x, r1x, r2x, r3x, r4x, r5x, r6x, r7x, r8x⟩ := cells9 HR1.out
    obtain ⟨z0x, z1x, z2x, z3x, z4x, z5x, z6x, z7x, z8x⟩ := free9 HR1.out
    go_wp2
    obtain ⟨t0, t1, t2, t3, t4, t5, t6, t7, t8⟩ := cells9 (set9z HR1.out)
    refine bodyPost_ret (v := .tuple #[.agg #[.slice none 0 0, .slice none 0 0, .slice none 0 0, .int .i64 0, .int .i64 0, .int .i64 0, .int .i64 0, .slice none 0 0, .int .i64 0], .bool false]) (by simp [results, Tryz.results50, go_sem, t0, t1, t2, t3, t4, t5, t6, t7, t8]) rfl ⟨_, rfl, _, _, _, _, by rw [HA.out, HV.out]; rfl, by rw [HV.out]; exact mam_z, ?_⟩
    repeat (refine bS ?_ (by simp <;> omega))
    exact HB1.out
  | true =>
  have k01 := HK1.out.cell_ 0 (v := .int .i64 s) rfl
  have k11 := HK1.out.cell_ 1 (v := .int .i64 p) rfl
  go_wp2_with fail
  refine (keyValid_any s p _).mono ?_
  rintro e w2 ⟨rfl, hb2⟩
  have HX2 := Lib.hid (HX1.out.below hb2)
  have HK2 := Lib.hid (HK1.out.below hb2)
  have HR2 := Lib.hid (HR1.out.below hb2)
  have HB2 := Lib.hid (bT HB1.out hb2)
  have HS2 := Lib.hid (Nat.le_trans HS1.out hb2.size)
  clear hb2
  clear k01 k11
  cases h2k : kval (s, p) with
  | false =>
    have HO : Hid (rgO O V m c = none) := by
      show _ = _
      by_cases h : mav m = true ∧ 1 ≤ c ∧ c ≤ 16
      · have h0 : rgN O V m 1 = none := rgN_bad (rfl : rgN O V m 0 = some m) (bool_ff fun hh => by rw [hkv _ hh] at h2k; cases h2k)
        unfold rgO
        rw [if_pos h]
        exact rgN_none h0 (by omega)
      · exact rgO_no h
    have HA : Hid ((rgO O V m c).isSome = false) := by show _ = _; rw [HO.out]; rfl
    have HV : Hid (rgV O V m c = maz) := by show _ = _; unfold rgV; rw [HO.out]; rfl
    obtain ⟨r0x, r1x, r2x, r3x, r4x, r5x, r6x, r7x, r8x⟩ := cells9 HR2.out
    obtain ⟨z0x, z1x, z2x, z3x, z4x, z5x, z6x, z7x, z8x⟩ := free9 HR2.out
    go_wp2
    obtain ⟨t0, t1, t2, t3, t4, t5, t6, t7, t8⟩ := cells9 (set9z HR2.out)
    refine bodyPost_ret (v := .tuple #[.agg #[.slice none 0 0, .slice none 0 0, .slice none 0 0, .int .i64 0, .int .i64 0, .int .i64 0, .int .i64 0, .slice none 0 0, .int .i64 0], .bool false]) (by simp [results, Tryz.results50, go_sem, t0, t1, t2, t3, t4, t5, t6, t7, t8]) rfl ⟨_, rfl, _, _, _, _, by rw [HA.out, HV.out]; rfl, by rw [HV.out]; exact mam_z, ?_⟩
    repeat (refine bS ?_ (by simp <;> omega))
    exact HB2.out
  | true =>
  by_cases h2 : c < 1
  · have HO : Hid (rgO O V m c = none) := rgO_no (fun h => by omega)
    have HA : Hid ((rgO O V m c).isSome = false) := by show _ = _; rw [HO.out]; rfl
    have HV : Hid (rgV O V m c = maz) := by show _ = _; unfold rgV; rw [HO.out]; rfl
    obtain ⟨r0x, r1x, r2x, r3x, r4x, r5x, r6x, r7x, r8x⟩ := cells9 HR2.out
    obtain ⟨z0x, z1x, z2x, z3x, z4x, z5x, z6x, z7x, z8x⟩ := free9 HR2.out
    go_wp2
    obtain ⟨t0, t1, t2, t3, t4, t5, t6, t7, t8⟩ := cells9 (set9z HR2.out)
    refine bodyPost_ret (v := .tuple #[.agg #[.slice none 0 0, .slice none 0 0, .slice none 0 0, .int .i64 0, .int .i64 0, .int .i64 0, .int .i64 0, .slice none 0 0, .int .i64 0], .bool false]) (by simp [results, Tryz.results50, go_sem, t0, t1, t2, t3, t4, t5, t6, t7, t8]) rfl ⟨_, rfl, _, _, _, _, by rw [HA.out, HV.out]; rfl, by rw [HV.out]; exact mam_z, ?_⟩
    repeat (refine bS ?_ (by simp <;> omega))
    exact HB2.out
  by_cases h3 : 16 < c
  · have HO : Hid (rgO O V m c = none) := rgO_no (fun h => by omega)
    have HA : Hid ((rgO O V m c).isSome = false) := by show _ = _; rw [HO.out]; rfl
    have HV : Hid (rgV O V m c = maz) := by show _ = _; unfold rgV; rw [HO.out]; rfl
    obtain ⟨r0x, r1x, r2x, r3x, r4x, r5x, r6x, r7x, r8x⟩ := cells9 HR2.out
    obtain ⟨z0x, z1x, z2x, z3x, z4x, z5x, z6x, z7x, z8x⟩ := free9 HR2.out
    go_wp2
    obtain ⟨t0, t1, t2, t3, t4, t5, t6, t7, t8⟩ := cells9 (set9z HR2.out)
    refine bodyPost_ret (v := .tuple #[.agg #[.slice none 0 0, .slice none 0 0, .slice none 0 0, .int .i64 0, .int .i64 0, .int .i64 0, .int .i64 0, .slice none 0 0, .int .i64 0], .bool false]) (by simp [results, Tryz.results50, go_sem, t0, t1, t2, t3, t4, t5, t6, t7, t8]) rfl ⟨_, rfl, _, _, _, _, by rw [HA.out, HV.out]; rfl, by rw [HV.out]; exact mam_z, ?_⟩
    repeat (refine bS ?_ (by simp <;> omega))
    exact HB2.out
  obtain ⟨n, rfl⟩ := Int.eq_ofNat_of_zero_le (show 0 ≤ c by omega)
  have hi1 : 1 ≤ n := by omega
  have hi2 : n ≤ 16 := by omega
  obtain ⟨B1, d1, rfl, _⟩ := HM.out.t.b
  obtain ⟨B2, d2, rfl, _⟩ := HM.out.t.f
  obtain ⟨B3, d3, rfl, _⟩ := HM.out.l
  obtain ⟨B4, d4, rfl, _⟩ := HM.out.o
  obtain ⟨p0m, p1m, p2m, p3m, p4m, p5m, p6m, p7m, p8m⟩ := cells9 HX2.out
  have hkv' := kval_iff.1 h2k
  have HO2 := Lib.hid (Own.new_ w2 34 #[.slice B1 m.t.bs.length d1, .slice B2 m.t.fs.length d2, .slice B3 m.c.ls.length d3, .int .i64 m.c.hand, .int .i64 m.g.count, .int .i64 m.g.next, .int .i64 m.g.round, .slice B4 m.g.os.length d4, .int .i64 m.sp])
  have HK3 := Lib.hid (HK2.out.alloc (o := .cells #[.slice B1 m.t.bs.length d1, .slice B2 m.t.fs.length d2, .slice B3 m.c.ls.length d3, .int .i64 m.c.hand, .int .i64 m.g.count, .int .i64 m.g.next, .int .i64 m.g.round, .slice B4 m.g.os.length d4, .int .i64 m.sp] 34))
  have HR3 := Lib.hid (HR2.out.alloc (o := .cells #[.slice B1 m.t.bs.length d1, .slice B2 m.t.fs.length d2, .slice B3 m.c.ls.length d3, .int .i64 m.c.hand, .int .i64 m.g.count, .int .i64 m.g.next, .int .i64 m.g.round, .slice B4 m.g.os.length d4, .int .i64 m.sp] 34))
  have HM3 := Lib.hid (HM.out.now (bA HB2.out (o := .cells #[.slice B1 m.t.bs.length d1, .slice B2 m.t.fs.length d2, .slice B3 m.c.ls.length d3, .int .i64 m.c.hand, .int .i64 m.g.count, .int .i64 m.g.next, .int .i64 m.g.round, .slice B4 m.g.os.length d4, .int .i64 m.sp] 34)))
  have HB3 := Lib.hid (bA HB2.out (o := .cells #[.slice B1 m.t.bs.length d1, .slice B2 m.t.fs.length d2, .slice B3 m.c.ls.length d3, .int .i64 m.c.hand, .int .i64 m.g.count, .int .i64 m.g.next, .int .i64 m.g.round, .slice B4 m.g.os.length d4, .int .i64 m.sp] 34))
  have hgb := HR2.out.lt
  have hs2 := HS2.out
  go_wp2
  clear p0m p1m p2m p3m p4m p5m p6m p7m p8m
  go_loopw [33] (fun u wr => ∃ (k : Nat) (mk : Ma) (c1 c2 c3 c4 : Value), k ≤ n ∧ u = .int .i64 k ∧ Hid (rgN O V m k = some mk) ∧ Own wr w2.heap.size 34 #[c1, c2, c3, .int .i64 mk.c.hand, .int .i64 mk.g.count, .int .i64 mk.g.next, .int .i64 mk.g.round, c4, .int .i64 mk.sp] ∧ MaR wr c1 c2 c3 c4 mk ∧ Hid (0 < k → MaM (w.heap.size + 3) wr c1 c2 c3 c4 mk) ∧ Own wr (w.heap.size + 1) 36 #[.int .i64 s, .int .i64 p] ∧ Own wr (w.heap.size + 1 + 1) 34 #[.slice none 0 0, .slice none 0 0, .slice none 0 0, .int .i64 0, .int .i64 0, .int .i64 0, .int .i64 0, .slice none 0 0, .int .i64 0] ∧ Below w.heap.size w wr) (fun u _ => n - (intOf u).toNat)
  case atStart => exact ⟨0, m, _, _, _, _, by omega, rfl, rfl, HO2.out, HM3.out, (fun h => absurd h (by omega)), HK3.out, HR3.out, HB3.out⟩
  case round =>
    obtain ⟨k, mk, c1, c2, c3, c4, hk, rfl, hput, hob, hmk, hmm, hkb, hrb, hbw⟩ := hrel
    have HOB := Lib.hid hob
    have HMK := Lib.hid hmk
    have HKB := Lib.hid hkb
    have HRB := Lib.hid hrb
    have HBW := Lib.hid hbw
    clear hob hmk hkb hrb hbw
    by_cases hlt : k < n
    · have hwk : IntKind.i64.wrap (p + (k : Int)) = p + k := IntWalk.i64_in _ (by omega)
      have HC := Lib.hid (hC c1 c2 c3 c4 mk k wr (by omega) HBW.out HMK.out)
      obtain ⟨p0y, p1y, p2y, p3y, p4y, p5y, p6y, p7y, p8y⟩ := cells9 HOB.out
      have q0 := HKB.out.cell_ 0 (v := .int .i64 s) rfl
      have q1 := HKB.out.cell_ 1 (v := .int .i64 p) rfl
      go_wp2_with fail
      refine HC.out.mono ?_
      rintro e w5 ⟨_, rfl, e1, e2, e3, e4, rfl, hM5, hb5⟩
      have hsw : w.heap.size + 3 ≤ wr.heap.size := Nat.le_trans hs2 (Nat.le_of_lt HOB.out.lt)
      have HM5 := Lib.hid (hM5.mono hsw)
      obtain ⟨E1, n1, rfl, _⟩ := HM5.out.t.b
      obtain ⟨E2, n2, rfl, _⟩ := HM5.out.t.f
      obtain ⟨E3, n3, rfl, _⟩ := HM5.out.l
      obtain ⟨E4, n4, rfl, _⟩ := HM5.out.o
      have HOB5 := HOB.out.below hb5
      have hgl5 := HOB5.lt
      have hO6 := HOB5.alloc (o := .cells #[.slice E1 (V mk k).t.bs.length n1, .slice E2 (V mk k).t.fs.length n2, .slice E3 (V mk k).c.ls.length n3, .int .i64 (V mk k).c.hand, .int .i64 (V mk k).g.count, .int .i64 (V mk k).g.next, .int .i64 (V mk k).g.round, .slice E4 (V mk k).g.os.length n4, .int .i64 (V mk k).sp] 34)
      have hK6 := (HKB.out.below hb5).alloc (o := .cells #[.slice E1 (V mk k).t.bs.length n1, .slice E2 (V mk k).t.fs.length n2, .slice E3 (V mk k).c.ls.length n3, .int .i64 (V mk k).c.hand, .int .i64 (V mk k).g.count, .int .i64 (V mk k).g.next, .int .i64 (V mk k).g.round, .slice E4 (V mk k).g.os.length n4, .int .i64 (V mk k).sp] 34)
      have hR6 := (HRB.out.below hb5).alloc (o := .cells #[.slice E1 (V mk k).t.bs.length n1, .slice E2 (V mk k).t.fs.length n2, .slice E3 (V mk k).c.ls.length n3, .int .i64 (V mk k).c.hand, .int .i64 (V mk k).g.count, .int .i64 (V mk k).g.next, .int .i64 (V mk k).g.round, .slice E4 (V mk k).g.os.length n4, .int .i64 (V mk k).sp] 34)
      have hN6 := Own.new_ w5 34 #[.slice E1 (V mk k).t.bs.length n1, .slice E2 (V mk k).t.fs.length n2, .slice E3 (V mk k).c.ls.length n3, .int .i64 (V mk k).c.hand, .int .i64 (V mk k).g.count, .int .i64 (V mk k).g.next, .int .i64 (V mk k).g.round, .slice E4 (V mk k).g.os.length n4, .int .i64 (V mk k).sp]
      have hM6 := HM5.out.now (bA (bR (w := w5)) (o := .cells #[.slice E1 (V mk k).t.bs.length n1, .slice E2 (V mk k).t.fs.length n2, .slice E3 (V mk k).c.ls.length n3, .int .i64 (V mk k).c.hand, .int .i64 (V mk k).g.count, .int .i64 (V mk k).g.next, .int .i64 (V mk k).g.round, .slice E4 (V mk k).g.os.length n4, .int .i64 (V mk k).sp] 34))
      have hB6 := bA (bT HBW.out hb5) (o := .cells #[.slice E1 (V mk k).t.bs.length n1, .slice E2 (V mk k).t.fs.length n2, .slice E3 (V mk k).c.ls.length n3, .int .i64 (V mk k).c.hand, .int .i64 (V mk k).g.count, .int .i64 (V mk k).g.next, .int .i64 (V mk k).g.round, .slice E4 (V mk k).g.os.length n4, .int .i64 (V mk k).sp] 34)
      clear p0y p1y p2y p3y p4y p5y p6y p7y p8y q0 q1 hM5 hb5 HOB5
      have hne1 : w2.heap.size ≠ w5.heap.size := by omega
      generalize hW6 : w5.alloc (.cells #[.slice E1 (V mk k).t.bs.length n1, .slice E2 (V mk k).t.fs.length n2, .slice E3 (V mk k).c.ls.length n3, .int .i64 (V mk k).c.hand, .int .i64 (V mk k).g.count, .int .i64 (V mk k).g.next, .int .i64 (V mk k).g.round, .slice E4 (V mk k).g.os.length n4, .int .i64 (V mk k).sp] 34) = w6 at *
      have HO6 := Lib.hid hO6
      have HK6 := Lib.hid hK6
      have HR6 := Lib.hid hR6
      have HN6 := Lib.hid hN6
      have HM6 := Lib.hid hM6
      have HB6 := Lib.hid hB6
      clear hO6 hK6 hR6 hN6 hM6 hB6
      have hl6 := HO6.out.lt
      have hl7 := HR6.out.lt
      have hl8 := HN6.out.lt
      cases hok : O mk k with
      | false =>
        have HO : Hid (rgO O V m n = none) := by show _ = _; rw [rgO_yes h1 hi1 hi2]; exact rgN_none (rgN_bad hput.out hok) (by omega)
        have HA : Hid ((rgO O V m n).isSome = false) := by show _ = _; rw [HO.out]; rfl
        have HV : Hid (rgV O V m n = maz) := by show _ = _; unfold rgV; rw [HO.out]; rfl
        obtain ⟨r0x, r1x, r2x, r3x, r4x, r5x, r6x, r7x, r8x⟩ := cells9 HR6.out
        obtain ⟨z0x, z1x, z2x, z3x, z4x, z5x, z6x, z7x, z8x⟩ := free9 HR6.out
        go_wp2
        obtain ⟨t0, t1, t2, t3, t4, t5, t6, t7, t8⟩ := cells9 (set9z HR6.out)
        refine bodyPost_ret (v := .tuple #[.agg #[.slice none 0 0, .slice none 0 0, .slice none 0 0, .int .i64 0, .int .i64 0, .int .i64 0, .int .i64 0, .slice none 0 0, .int .i64 0], .bool false]) (by simp [results, Tryz.results50, go_sem, t0, t1, t2, t3, t4, t5, t6, t7, t8]) rfl ⟨_, rfl, _, _, _, _, by rw [HA.out, HV.out]; rfl, by rw [HV.out]; exact mam_z, ?_⟩
        repeat (refine bS ?_ (by simp <;> omega))
        exact HB6.out
      | true =>
        have HPUT := Lib.hid (rgN_step hput.out hok)
        obtain ⟨p0z, p1z, p2z, p3z, p4z, p5z, p6z, p7z, p8z⟩ := cells9 HO6.out
        obtain ⟨w0z, w1z, w2z, w3z, w4z, w5z, w6z, w7z, w8z⟩ := free9 HO6.out
        obtain ⟨p0n, p1n, p2n, p3n, p4n, p5n, p6n, p7n, p8n⟩ := cells9 HN6.out
        go_wp2
        go_roundw
        case rel =>
          refine ⟨k + 1, V mk k, _, _, _, _, by omega, by go_num, HPUT, HO6.out.set9 _ _ _ _ _ _ _ _ _, (HM6.out.far9 HO6.out _ _ _ _ _ _ _ _ _).r, (fun _ => HM6.out.far9 HO6.out _ _ _ _ _ _ _ _ _), HK6.out.far9 (by omega) _ _ _ _ _ _ _ _ _, HR6.out.far9 (by omega) _ _ _ _ _ _ _ _ _, ?_⟩
          repeat (refine bS ?_ (by simp <;> omega))
          exact HB6.out
        case measure => simp [intOf]; omega
    · obtain rfl : k = n := by omega
      have HO : Hid (rgO O V m k = some mk) := by show _ = _; rw [rgO_yes h1 hi1 hi2]; exact hput.out
      have HA : Hid ((rgO O V m k).isSome = true) := by show _ = _; rw [HO.out]; rfl
      have HV : Hid (rgV O V m k = mk) := by show _ = _; unfold rgV; rw [HO.out]; rfl
      have HMM := Lib.hid (hmm.out (by omega))
      obtain ⟨C1, n1, rfl, _⟩ := HMM.out.t.b
      obtain ⟨C2, n2, rfl, _⟩ := HMM.out.t.f
      obtain ⟨C3, n3, rfl, _⟩ := HMM.out.l
      obtain ⟨C4, n4, rfl, _⟩ := HMM.out.o
      obtain ⟨p0z, p1z, p2z, p3z, p4z, p5z, p6z, p7z, p8z⟩ := cells9 HOB.out
      obtain ⟨r0x, r1x, r2x, r3x, r4x, r5x, r6x, r7x, r8x⟩ := cells9 HRB.out
      obtain ⟨z0x, z1x, z2x, z3x, z4x, z5x, z6x, z7x, z8x⟩ := free9 HRB.out
      have hgl := HOB.out.lt
      have hrl := HRB.out.lt
      go_wp2
      have o3 := HRB.out.set9 (.slice C1 mk.t.bs.length n1) (.slice C2 mk.t.fs.length n2) (.slice C3 mk.c.ls.length n3) (.int .i64 mk.c.hand) (.int .i64 mk.g.count) (.int .i64 mk.g.next) (.int .i64 mk.g.round) (.slice C4 mk.g.os.length n4) (.int .i64 mk.sp)
      obtain ⟨p0t, p1t, p2t, p3t, p4t, p5t, p6t, p7t, p8t⟩ := cells9 o3
      refine bodyPost_ret (v := .tuple #[.agg #[.slice C1 mk.t.bs.length n1, .slice C2 mk.t.fs.length n2, .slice C3 mk.c.ls.length n3, .int .i64 mk.c.hand, .int .i64 mk.g.count, .int .i64 mk.g.next, .int .i64 mk.g.round, .slice C4 mk.g.os.length n4, .int .i64 mk.sp], .bool true]) (by simp [results, Tryz.results50, go_sem, p0t, p1t, p2t, p3t, p4t, p5t, p6t, p7t, p8t]) rfl ⟨_, rfl, _, _, _, _, by rw [HA.out, HV.out], ?_, ?_⟩
      · rw [HV.out]
        exact (HMM.out.far9 HRB.out _ _ _ _ _ _ _ _ _).mono (by omega)
      · repeat (refine bS ?_ (by simp <;> omega))
        exact HBW.out
end Go.Proofs.YtnaagdmaggdbmaaGreatDoor
