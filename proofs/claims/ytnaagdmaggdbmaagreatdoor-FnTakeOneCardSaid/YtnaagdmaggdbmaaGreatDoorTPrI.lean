/- A part of the proofs of this seat: PrI, DrpP, TagI, DrpI, RgP. -/
import Derived.Test.YtnaagdmaggdbmaaGreatDoorTCaP
import Derived.Test.YtnaagdmaggdbmaaGreatDoorTFind
import Derived.Test.YtnaagdmaggdbmaaGreatDoorTMa
import Derived.Test.YtnaagdmaggdbmaaGreatDoorTCopy
import Derived.Test.YtnaagdmaggdbmaaGreatDoorTCaI
import Derived.Test.YtnaagdmaggdbmaaGreatDoorTCp6
import Derived.Test.YtnaagdmaggdbmaaGreatDoorTMvS
set_option linter.unusedVariables false
set_option linter.unusedSimpArgs false
namespace Go.Proofs.YtnaagdmaggdbmaaGreatDoor
open Go.RowKit
set_option maxRecDepth 1000000
theorem MineE.farT {α : Type} {E : Enc α} {e ty : TypeId} {B g i : Nat} {w : World} {A : Option Addr} {l : List α} {cs : Array Value} {u : Value} (h : MineE E e B w A l) (ho : Own w g ty cs) (hne : ty ≠ e) : MineE E e B (w.setCell ⟨g, i, none⟩ u) A l := by
 rcases Nat.eq_zero_or_pos l.length with hl | hl
 ·exact ⟨⟨h.is.len, fun hn => absurd hn (by omega)⟩, fun hn => absurd hn (by omega)⟩
 ·obtain ⟨g2, cs2, rfl, _, ho2, _⟩ := h.own hl
  refine h.other (p := ⟨g, i, none⟩) (fun hg => ?_)
  replace hg : g = g2 := hg
  subst hg
  unfold Own at ho ho2
  rw [ho] at ho2
  injection ho2 with ho2
  injection ho2 with _ ho2
  exact hne ho2
theorem SlM.farT {α : Type} {E : Enc α} {e ty : TypeId} {B g i : Nat} {w : World} {v : Value} {l : List α} {cs : Array Value} {u : Value} (h : SlM E e B w v l) (ho : Own w g ty cs) (hne : ty ≠ e) : SlM E e B (w.setCell ⟨g, i, none⟩ u) v l := by
 obtain ⟨A, c, h1, h2, h3, h4⟩ := h
 exact ⟨A, c, h1, h2, h3, h4.farT ho hne⟩
theorem MaM.farT {B g i : Nat} {w : World} {vb vf vl vo : Value} {m : Ma} {cs : Array Value} {u : Value} (h : MaM B w vb vf vl vo m) (ho : Own w g 34 cs) : MaM B (w.setCell ⟨g, i, none⟩ u) vb vf vl vo m :=
 ⟨⟨h.t.b.farT ho (by decide), h.t.f.farT ho (by decide)⟩, h.l.farT ho (by decide), h.o.farT ho (by decide)⟩
theorem MaM.far9 {B g : Nat} {w : World} {vb vf vl vo : Value} {m : Ma} {cs : Array Value} (h : MaM B w vb vf vl vo m) (ho : Own w g 34 cs) (u0 u1 u2 u3 u4 u5 u6 u7 u8 : Value) :
  MaM B (((((((((w.setCell ⟨g, 0, none⟩ u0).setCell ⟨g, 1, none⟩ u1).setCell ⟨g, 2, none⟩ u2).setCell ⟨g, 3, none⟩ u3).setCell ⟨g, 4, none⟩ u4).setCell ⟨g, 5, none⟩ u5).setCell ⟨g, 6, none⟩ u6).setCell ⟨g, 7, none⟩ u7).setCell ⟨g, 8, none⟩ u8) vb vf vl vo m := by
 have o1 := ho.set_ 0 u0
 have o2 := o1.set_ 1 u1
 have o3 := o2.set_ 2 u2
 have o4 := o3.set_ 3 u3
 have o5 := o4.set_ 4 u4
 have o6 := o5.set_ 5 u5
 have o7 := o6.set_ 6 u6
 have o8 := o7.set_ 7 u7
 exact ((((((((h.farT ho).farT o1).farT o2).farT o3).farT o4).farT o5).farT o6).farT o7).farT o8
theorem Own.far9 {g h : Nat} {w : World} {ty : TypeId} {cs : Array Value} (ho : Own w h ty cs) (hne : h ≠ g) (u0 u1 u2 u3 u4 u5 u6 u7 u8 : Value) :
  Own (((((((((w.setCell ⟨g, 0, none⟩ u0).setCell ⟨g, 1, none⟩ u1).setCell ⟨g, 2, none⟩ u2).setCell ⟨g, 3, none⟩ u3).setCell ⟨g, 4, none⟩ u4).setCell ⟨g, 5, none⟩ u5).setCell ⟨g, 6, none⟩ u6).setCell ⟨g, 7, none⟩ u7).setCell ⟨g, 8, none⟩ u8) h ty cs :=
 ((((((((ho.far hne).far hne).far hne).far hne).far hne).far hne).far hne).far hne).far hne
theorem Own.set9 {g : Nat} {w : World} {ty : TypeId} {a0 a1 a2 a3 a4 a5 a6 a7 a8 : Value} (ho : Own w g ty #[a0, a1, a2, a3, a4, a5, a6, a7, a8]) (u0 u1 u2 u3 u4 u5 u6 u7 u8 : Value) :
  Own (((((((((w.setCell ⟨g, 0, none⟩ u0).setCell ⟨g, 1, none⟩ u1).setCell ⟨g, 2, none⟩ u2).setCell ⟨g, 3, none⟩ u3).setCell ⟨g, 4, none⟩ u4).setCell ⟨g, 5, none⟩ u5).setCell ⟨g, 6, none⟩ u6).setCell ⟨g, 7, none⟩ u7).setCell ⟨g, 8, none⟩ u8) g ty #[u0, u1, u2, u3, u4, u5, u6, u7, u8] := by
 have h := ((((((((ho.set_ 0 u0).set_ 1 u1).set_ 2 u2).set_ 3 u3).set_ 4 u4).set_ 5 u5).set_ 6 u6).set_ 7 u7).set_ 8 u8
 simpa using h
end Go.Proofs.YtnaagdmaggdbmaaGreatDoor
namespace Go.Proofs.YtnaagdmaggdbmaaGreatDoor
open Go.RowKit
def tagO (m : Ma) (s p : Int) : Bool := if 128 ≤ p then true else tgO m.g s
def tagT (m : Ma) (s p : Int) : Int := if 128 ≤ p then -1 else tgT m.g s
def drpC (m : Ma) (s p : Int) : Ca := if tagO m s p = true ∧ 0 ≤ plcI m.c.ls (tagT m s p) p then ⟨m.c.ls.set (plcI m.c.ls (tagT m s p) p).toNat lnz, m.c.hand⟩ else m.c
def drpM (m : Ma) (t : Tab) (s p : Int) : Ma := { m with t := t, c := drpC m s p }
def takO (m : Ma) (s p : Int) : Bool := mav m && fOK m.t s p
def takV (m : Ma) (s p : Int) : Ma := if takO m s p = true then drpM m (unmV m.t s p) s p else maz
theorem takO_false {m : Ma} {s p : Int} (h : takO m s p = false) : takV m s p = maz := by unfold takV; rw [h]; rfl
theorem tgO_no {g : Tg} {s : Int} (h : tgv g = false) : tgO g s = false ∧ tgT g s = 0 := by
 have h1 : tgO g s = false := by unfold tgO; rw [h]; rfl
 exact ⟨h1, by unfold tgT; rw [h1]; rfl⟩
theorem tgO_neg {g : Tg} {s : Int} (h : ¬ 0 ≤ ownI g.os s) : tgO g s = false ∧ tgT g s = 0 := by
 have h1 : tgO g s = false := by unfold tgO; rw [decide_eq_false h, Bool.and_false]
 exact ⟨h1, by unfold tgT; rw [h1]; rfl⟩
theorem ownI_lt {os : List (Int × Int)} {s : Int} (h : 0 ≤ ownI os s) : ∃ (k : Nat) (o : Int × Int), ownI os s = (k : Int) ∧ os[k]? = some o ∧ o.1 = s := by
 unfold ownI at h ⊢
 cases e : own os s with
 | none => rw [e] at h; simp at h
 | some i =>
  unfold own at e
  obtain ⟨hi, h1, _⟩ := List.findIdx?_eq_some_iff_getElem.1 e
  exact ⟨i, os[i], rfl, List.getElem?_eq_getElem hi, by simpa using h1⟩
theorem tgO_yes {g : Tg} {s : Int} (h : tgv g = true) {k : Nat} {o : Int × Int} (e : ownI g.os s = (k : Int)) (eo : g.os[k]? = some o) : tgO g s = true ∧ tgT g s = o.2 := by
 have h1 : tgO g s = true := by unfold tgO; rw [h, e]; simp
 refine ⟨h1, ?_⟩
 unfold tgT
 rw [h1, if_pos rfl, e, Int.toNat_natCast, List.getD_eq_getElem?_getD, eo]
 rfl
theorem plcI_lt {ls : List Ln} {t p : Int} (h : 0 ≤ plcI ls t p) : ∃ (k : Nat) (x : Ln), plcI ls t p = (k : Int) ∧ ls[k]? = some x ∧ fits t p x = true := by
 unfold plcI at h ⊢
 cases e : plc ls t p with
 | none => rw [e] at h; simp at h
 | some i =>
  unfold plc at e
  obtain ⟨hi, h1, _⟩ := List.findIdx?_eq_some_iff_getElem.1 e
  exact ⟨i, ls[i], rfl, List.getElem?_eq_getElem hi, h1⟩
theorem drpC_no {m : Ma} {s p : Int} (h : tagO m s p = false) : drpC m s p = m.c := by unfold drpC; rw [if_neg]; rintro ⟨h1, _⟩; rw [h] at h1; cases h1
theorem drpC_neg {m : Ma} {s p : Int} (h : ¬ 0 ≤ plcI m.c.ls (tagT m s p) p) : drpC m s p = m.c := by unfold drpC; rw [if_neg]; exact fun h1 => h h1.2
theorem drpC_at {m : Ma} {s p : Int} (h : tagO m s p = true) {k : Nat} (e : plcI m.c.ls (tagT m s p) p = (k : Int)) : drpC m s p = ⟨m.c.ls.set k lnz, m.c.hand⟩ := by unfold drpC; rw [if_pos ⟨h, by omega⟩, e, Int.toNat_natCast]
end Go.Proofs.YtnaagdmaggdbmaaGreatDoor
namespace Go.Proofs.YtnaagdmaggdbmaaGreatDoor
open Go.RowKit
set_option maxRecDepth 1000000
set_option maxHeartbeats 1000000 in
theorem TagOf_any (vo : Value) (g : Tg) (s : Int) (w : World) (hT : SlR owE w vo g.os) :
  Calls Tryz.prog 170 #[.agg #[.int .i64 g.count, .int .i64 g.next, .int .i64 g.round, vo], .int .i64 s] w fun r w' => r = .returned (.tuple #[.int .i64 (tgT g s), .bool (tgO g s)]) ∧ Below w.heap.size w w' := by
 have HV := Lib.hid hT
 obtain ⟨A, cc, rfl, hbc, hbm, hL⟩ := hT
 have hfm2 : g.os.length ≤ 9223372036854775807 := by unfold maxLen at hbm; omega
 have HL := Lib.hid hL
 have hbx := Own.new_ w 32 #[.int .i64 g.count, .int .i64 g.next, .int .i64 g.round, .slice A g.os.length cc]
 have hbz : Below w.heap.size w (w.alloc (.cells #[.int .i64 g.count, .int .i64 g.next, .int .i64 g.round, .slice A g.os.length cc] 32)) := bA bR
 have hsz0 : (w.alloc (.cells #[.int .i64 g.count, .int .i64 g.next, .int .i64 g.round, .slice A g.os.length cc] 32)).heap.size = w.heap.size + 1 := by simp
 generalize hW : w.alloc (.cells #[.int .i64 g.count, .int .i64 g.next, .int .i64 g.round, .slice A g.os.length cc] 32) = W0 at hbx hbz hsz0
 have q0 := hbx.cell_ 0 (v := .int .i64 g.count) rfl
 have q1 := hbx.cell_ 1 (v := .int .i64 g.next) rfl
 have q2 := hbx.cell_ 2 (v := .int .i64 g.round) rfl
 have q3 := hbx.cell_ 3 (v := .slice A g.os.length cc) rfl
 have HBX := Lib.hid hbx
 clear hL hbx
 go_enter Tryz.func170, Tryz.ntmps170
 go_wp2_with fail
 refine (TagsValid_any _ g _ (HV.out.now hbz)).mono ?_
 rintro e w1 ⟨rfl, hb1⟩
 have HBX1 := Lib.hid (HBX.out.below hb1)
 have HBZ1 := Lib.hid (bT hbz hb1)
 clear hb1 q0 q1 q2 q3
 have q0 := HBX1.out.cell_ 0 (v := .int .i64 g.count) rfl
 have q1 := HBX1.out.cell_ 1 (v := .int .i64 g.next) rfl
 have q2 := HBX1.out.cell_ 2 (v := .int .i64 g.round) rfl
 have q3 := HBX1.out.cell_ 3 (v := .slice A g.os.length cc) rfl
 cases h1 : tgv g with
 | false =>
  obtain ⟨e1, e2⟩ := tgO_no (s := s) h1
  have E1 := Lib.hid e1
  have E2 := Lib.hid e2
  clear e1 e2
  go_wp2
  go_ret2
  exact ⟨by rw [E1.out, E2.out]; rfl, HBZ1.out⟩
 | true =>
  go_wp2_with fail
  refine (own_any _ g s _ (HV.out.now HBZ1.out)).mono ?_
  rintro e w2 ⟨rfl, hb2⟩
  have HBX2 := Lib.hid (HBX1.out.below hb2)
  have HBZ2 := Lib.hid (bT HBZ1.out hb2)
  clear hb2 q0 q1 q2 q3
  have q0 := HBX2.out.cell_ 0 (v := .int .i64 g.count) rfl
  have q1 := HBX2.out.cell_ 1 (v := .int .i64 g.next) rfl
  have q2 := HBX2.out.cell_ 2 (v := .int .i64 g.round) rfl
  have q3 := HBX2.out.cell_ 3 (v := .slice A g.os.length cc) rfl
  by_cases h2 : 0 ≤ ownI g.os s
  case neg =>
   obtain ⟨e1, e2⟩ := tgO_neg h2
   have E1 := Lib.hid e1
   have E2 := Lib.hid e2
   have h2b : ownI g.os s < 0 := by omega
   clear e1 e2
   go_wp2
   go_ret2
   exact ⟨by rw [E1.out, E2.out]; rfl, HBZ2.out⟩
  case pos =>
   obtain ⟨k, o, hk, eo, _⟩ := ownI_lt h2
   obtain ⟨e1, e2⟩ := tgO_yes h1 hk eo
   have E1 := Lib.hid e1
   have E2 := Lib.hid e2
   have HN := Lib.hid hk
   have EO := Lib.hid eo
   have hkl := (List.getElem?_eq_some_iff.1 eo).1
   have HOW : Hid (∀ W, SlR owE W (.slice A g.os.length cc) g.os → Calls Tryz.prog 66 #[.agg #[.int .i64 g.count, .int .i64 g.next, .int .i64 g.round, .slice A g.os.length cc], .int .i64 s] W fun r w' => r = .returned (.int .i64 (k : Int)) ∧ Below W.heap.size W w') := fun W h => by rw [← hk]; exact own_any _ g s W h
   rw [hk]
   have h2b : ¬ (k : Int) < 0 := by omega
   clear e1 e2 hk eo h2 q0 q1 q2 q3
   obtain ⟨b, ob, rfl, hbb, d0, d1⟩ := (HL.out.now (Nat.le_refl _) HBZ2.out).ow EO.out
   have q0 := xcell (HBX2.out.cell_ 0 (v := .int .i64 g.count) rfl) HBX2.out.lt
   have q1 := xcell (HBX2.out.cell_ 1 (v := .int .i64 g.next) rfl) HBX2.out.lt
   have q2 := xcell (HBX2.out.cell_ 2 (v := .int .i64 g.round) rfl) HBX2.out.lt
   have q3 := xcell (HBX2.out.cell_ 3 (v := .slice (some ⟨b, ob, none⟩) g.os.length cc) rfl) HBX2.out.lt
   have y1 := xcell d1 hbb
   clear d0 d1
   go_wp2
   refine wp_region_ext (by kernel_rfl) (by kernel_rfl) ?_
   repeat (go_big_quiet_step ((go_at_call 66; exact ext_call (HOW.out _ (HV.out.now (bT HBZ2.out (Ext.ok _)))))))
   refine wpQuiet_nil ?_
   intro _ hw'
   obtain ⟨⟨wq, hq⟩, hw''⟩ := hw'
   subst hw''
   try dsimp only
   go_wp2
   go_ret2
   exact ⟨by rw [E1.out, E2.out]; rfl, bT HBZ2.out hq⟩
set_option maxHeartbeats 1000000 in
theorem tagFor_any (vb vf vl vo : Value) (m : Ma) (s p : Int) (w : World) (hM : MaR w vb vf vl vo m) :
  Calls Tryz.prog 102 #[.agg #[vb, vf, vl, .int .i64 m.c.hand, .int .i64 m.g.count, .int .i64 m.g.next, .int .i64 m.g.round, vo, .int .i64 m.sp], .int .i64 s, .int .i64 p] w fun r w' => r = .returned (.tuple #[.int .i64 (tagT m s p), .bool (tagO m s p)]) ∧ Below w.heap.size w w' := by
 have HM := Lib.hid hM
 clear hM
 obtain ⟨W0, hW, hbx, hbz, _⟩ := box1 w #[vb, vf, vl, .int .i64 m.c.hand, .int .i64 m.g.count, .int .i64 m.g.next, .int .i64 m.g.round, vo, .int .i64 m.sp] 34
 have HX0 := Lib.hid hbx
 have HB0 := Lib.hid hbz
 clear hbx hbz
 obtain ⟨m00, m10, m20, m30, m40, m50, m60, m70, m80⟩ := cells9 HX0.out
 by_cases h : 128 ≤ p
 ·have E1 : Hid (tagT m s p = -1) := if_pos h
  have E2 : Hid (tagO m s p = true) := if_pos h
  go_enter Tryz.func102, Tryz.ntmps102
  go_wp2
  go_ret2
  exact ⟨by rw [E1.out, E2.out]; rfl, HB0.out⟩
 ·have E1 : Hid (tagT m s p = tgT m.g s) := if_neg h
  have E2 : Hid (tagO m s p = tgO m.g s) := if_neg h
  go_enter Tryz.func102, Tryz.ntmps102
  go_wp2_with fail
  refine (TagOf_any vo m.g s _ (HM.out.o.now HB0.out)).mono ?_
  rintro e w1 ⟨rfl, hb1⟩
  go_wp2
  go_ret2
  exact ⟨by rw [E1.out, E2.out]; rfl, bT HB0.out hb1⟩
set_option maxHeartbeats 1000000 in
theorem l6Tag_any (vb vf vl vo : Value) (m : Ma) (s p : Int) (w : World) (hM : MaR w vb vf vl vo m) (hg : tgv m.g = true) :
  Calls Tryz.prog 142 #[.agg #[vb, vf, vl, .int .i64 m.c.hand, .int .i64 m.g.count, .int .i64 m.g.next, .int .i64 m.g.round, vo, .int .i64 m.sp], .int .i64 s, .int .i64 p] w fun r w' => r = .returned (.tuple #[.int .i64 (tagT m s p), .bool (tagO m s p)]) ∧ Below w.heap.size w w' := by
 have HM := Lib.hid hM
 clear hM
 obtain ⟨W0, hW, hbx, hbz, _⟩ := box1 w #[vb, vf, vl, .int .i64 m.c.hand, .int .i64 m.g.count, .int .i64 m.g.next, .int .i64 m.g.round, vo, .int .i64 m.sp] 34
 have HX0 := Lib.hid hbx
 have HB0 := Lib.hid hbz
 clear hbx hbz
 obtain ⟨m00, m10, m20, m30, m40, m50, m60, m70, m80⟩ := cells9 HX0.out
 by_cases h : 128 ≤ p
 ·have E1 : Hid (tagT m s p = -1) := if_pos h
  have E2 : Hid (tagO m s p = true) := if_pos h
  go_enter Tryz.func142, Tryz.ntmps142
  go_wp2
  go_ret2
  exact ⟨by rw [E1.out, E2.out]; rfl, HB0.out⟩
 ·have E1 : Hid (tagT m s p = tgT m.g s) := if_neg h
  have E2 : Hid (tagO m s p = tgO m.g s) := if_neg h
  by_cases h2 : 0 ≤ ownI m.g.os s
  case neg =>
   obtain ⟨e1, e2⟩ := tgO_neg h2
   have F1 := Lib.hid e1
   have F2 := Lib.hid e2
   have h2b : ownI m.g.os s < 0 := by omega
   clear e1 e2
   go_enter Tryz.func142, Tryz.ntmps142
   go_wp2_with fail
   refine (l5Find_any _ m.g s _ (HM.out.o.now HB0.out)).mono ?_
   rintro e w1 ⟨rfl, hb1⟩
   go_wp2
   go_ret2
   exact ⟨by rw [E1.out, E2.out, F1.out, F2.out]; rfl, bT HB0.out hb1⟩
  case pos =>
   obtain ⟨k, o, hk, eo, _⟩ := ownI_lt h2
   obtain ⟨e1, e2⟩ := tgO_yes hg hk eo
   have F1 := Lib.hid e1
   have F2 := Lib.hid e2
   have HN := Lib.hid hk
   have EO := Lib.hid eo
   have hkl := (List.getElem?_eq_some_iff.1 eo).1
   have h2b : ¬ (k : Int) < 0 := by omega
   clear e1 e2 hk eo h2
   go_enter Tryz.func142, Tryz.ntmps142
   go_wp2_with fail
   refine (l5Find_any _ m.g s _ (HM.out.o.now HB0.out)).mono ?_
   rintro e w1 ⟨rfl, hb1⟩
   rw [HN.out]
   obtain ⟨A, cc, rfl, hbc, hbm, hL⟩ := HM.out.o
   obtain ⟨b, ob, rfl, hbb, d0, d1⟩ := (hL.now (Nat.le_refl _) (bT HB0.out hb1)).ow EO.out
   have HB1 := Lib.hid (bT HB0.out hb1)
   have m7 := (HX0.out.below hb1).cell_ 7 (v := .slice (some ⟨b, ob, none⟩) m.g.os.length cc) rfl
   clear m00 m10 m20 m30 m40 m50 m60 m70 m80 hb1
   go_wp2
   go_ret2
   exact ⟨by rw [E1.out, E2.out, F1.out, F2.out]; rfl, HB1.out⟩
end Go.Proofs.YtnaagdmaggdbmaaGreatDoor
namespace Go.Proofs.YtnaagdmaggdbmaaGreatDoor
open Go.RowKit
set_option maxRecDepth 1000000
theorem Own.ne {w : World} {g g2 : Nat} {t t2 : TypeId} {cs cs2 : Array Value} (h : Own w g t cs) (h2 : Own w g2 t2 cs2) (hne : t ≠ t2) : g ≠ g2 := by
 rintro rfl
 unfold Own at h h2
 rw [h] at h2
 injection h2 with h2
 injection h2 with _ h2
 exact hne h2
set_option maxHeartbeats 2000000 in
theorem MineE.wln {e : TypeId} {B : Nat} {w : World} {g : Nat} {l : List Ln} (h : MineE lnE e B w (some ⟨g, 0, none⟩) l) {k : Nat} (hk : k < l.length) (x : Ln) :
  MineE lnE e B ((((((w.setCell ⟨g, k * 6, none⟩ (.bool x.v)).setCell ⟨g, k * 6 + 1, none⟩ (.int .i64 x.t)).setCell ⟨g, k * 6 + 2, none⟩ (.int .i64 x.p)).setCell ⟨g, k * 6 + 3, none⟩ (.int .i64 x.f)).setCell ⟨g, k * 6 + 4, none⟩ (.int .i64 x.r)).setCell ⟨g, k * 6 + 5, none⟩ (.bool x.w)) (some ⟨g, 0, none⟩) (l.set k x) := by
 obtain ⟨g2, cs, e1, hB, ho, hs⟩ := h.own (by omega)
 injection e1 with e1
 injection e1 with e1
 subst e1
 have hs2 : l.length * 6 ≤ cs.size := by simpa [lnE] using hs
 refine h.write ho ((((((ho.set_ (k * 6) _).set_ (k * 6 + 1) _).set_ (k * 6 + 2) _).set_ (k * 6 + 3) _).set_ (k * 6 + 4) _).set_ (k * 6 + 5) _) (by simp) hk x (fun j u hj => ?_) (fun i hi => ?_)
 ·simp only [lnE] at hj ⊢
  match j, hj with
  | 0, hj => simp at hj; subst hj; simp [Array.getElem?_setIfInBounds]; omega
  | 1, hj => simp at hj; subst hj; simp [Array.getElem?_setIfInBounds]; omega
  | 2, hj => simp at hj; subst hj; simp [Array.getElem?_setIfInBounds]; omega
  | 3, hj => simp at hj; subst hj; simp [Array.getElem?_setIfInBounds]; omega
  | 4, hj => simp at hj; subst hj; simp [Array.getElem?_setIfInBounds]; omega
  | 5, hj => simp at hj; subst hj; simp [Array.getElem?_setIfInBounds]; omega
  | j + 6, hj => simp at hj
 ·simp only [lnE] at hi
  rw [Array.getElem?_setIfInBounds, if_neg (by omega), Array.getElem?_setIfInBounds, if_neg (by omega), Array.getElem?_setIfInBounds, if_neg (by omega), Array.getElem?_setIfInBounds, if_neg (by omega), Array.getElem?_setIfInBounds, if_neg (by omega), Array.getElem?_setIfInBounds, if_neg (by omega)]
theorem SlM.own_ {α : Type} {E : Enc α} {e : TypeId} {B : Nat} {w : World} {A : Option Addr} {n c : Nat} {l : List α} (h : SlM E e B w (.slice A n c) l) : MineE E e B w A l ∧ n = l.length ∧ l.length ≤ c ∧ c ≤ maxLen := by
 obtain ⟨A', c', h1, h2, h3, h4⟩ := h
 injection h1 with h1 h5 h6
 subst h1 h6
 exact ⟨h4, h5, h2, h3⟩
set_option maxHeartbeats 4000000 in
theorem dropped_any (vb vf vl vo ta tb : Value) (m : Ma) (t : Tab) (s p : Int) (B : Nat) (w : World) (hM : MaR w vb vf vl vo m) (hB : B ≤ w.heap.size) (hT : TaM B w ta tb t)
  (a1 : m.t.bs.length ≤ 1048576) (a2 : m.t.fs.length ≤ 1048576) (a3 : m.c.ls.length ≤ 1048576) (a4 : m.g.os.length ≤ 1048576) :
  Calls Tryz.prog 62 #[.agg #[vb, vf, vl, .int .i64 m.c.hand, .int .i64 m.g.count, .int .i64 m.g.next, .int .i64 m.g.round, vo, .int .i64 m.sp], .agg #[ta, tb], .agg #[.int .i64 s, .int .i64 p]] w (Post2 fun v w' => ∃ v1 v2 v3 v4, v = .agg #[v1, v2, v3, .int .i64 (drpM m t s p).c.hand, .int .i64 (drpM m t s p).g.count, .int .i64 (drpM m t s p).g.next, .int .i64 (drpM m t s p).g.round, v4, .int .i64 (drpM m t s p).sp] ∧ MaM B w' v1 v2 v3 v4 (drpM m t s p) ∧ Below w.heap.size w w') := by
 have hbx := (((Own.new_ w 34 #[vb, vf, vl, .int .i64 m.c.hand, .int .i64 m.g.count, .int .i64 m.g.next, .int .i64 m.g.round, vo, .int .i64 m.sp]).alloc (o := .cells #[ta, tb] 26)).alloc (o := .cells #[.int .i64 s, .int .i64 p] 36)).alloc (o := .cells #[.slice none 0 0, .slice none 0 0, .slice none 0 0, .int .i64 0, .int .i64 0, .int .i64 0, .int .i64 0, .slice none 0 0, .int .i64 0] 34)
 have hbt := ((ownAt (W := w.alloc (.cells #[vb, vf, vl, .int .i64 m.c.hand, .int .i64 m.g.count, .int .i64 m.g.next, .int .i64 m.g.round, vo, .int .i64 m.sp] 34)) (g := w.heap.size + 1) (t := 26) (cs := #[ta, tb]) (by simp)).alloc (o := .cells #[.int .i64 s, .int .i64 p] 36)).alloc (o := .cells #[.slice none 0 0, .slice none 0 0, .slice none 0 0, .int .i64 0, .int .i64 0, .int .i64 0, .int .i64 0, .slice none 0 0, .int .i64 0] 34)
 have hbk := (ownAt (W := (w.alloc (.cells #[vb, vf, vl, .int .i64 m.c.hand, .int .i64 m.g.count, .int .i64 m.g.next, .int .i64 m.g.round, vo, .int .i64 m.sp] 34)).alloc (.cells #[ta, tb] 26)) (g := w.heap.size + 1 + 1) (t := 36) (cs := #[.int .i64 s, .int .i64 p]) (by simp)).alloc (o := .cells #[.slice none 0 0, .slice none 0 0, .slice none 0 0, .int .i64 0, .int .i64 0, .int .i64 0, .int .i64 0, .slice none 0 0, .int .i64 0] 34)
 have hbo := ownAt (W := ((w.alloc (.cells #[vb, vf, vl, .int .i64 m.c.hand, .int .i64 m.g.count, .int .i64 m.g.next, .int .i64 m.g.round, vo, .int .i64 m.sp] 34)).alloc (.cells #[ta, tb] 26)).alloc (.cells #[.int .i64 s, .int .i64 p] 36)) (g := w.heap.size + 1 + 1 + 1) (t := 34) (cs := #[.slice none 0 0, .slice none 0 0, .slice none 0 0, .int .i64 0, .int .i64 0, .int .i64 0, .int .i64 0, .slice none 0 0, .int .i64 0]) (by simp)
 have hb0 : Below w.heap.size w ((((w.alloc (.cells #[vb, vf, vl, .int .i64 m.c.hand, .int .i64 m.g.count, .int .i64 m.g.next, .int .i64 m.g.round, vo, .int .i64 m.sp] 34)).alloc (.cells #[ta, tb] 26)).alloc (.cells #[.int .i64 s, .int .i64 p] 36)).alloc (.cells #[.slice none 0 0, .slice none 0 0, .slice none 0 0, .int .i64 0, .int .i64 0, .int .i64 0, .int .i64 0, .slice none 0 0, .int .i64 0] 34)) := bA (bA (bA (bA bR)))
 have hs0 : ((((w.alloc (.cells #[vb, vf, vl, .int .i64 m.c.hand, .int .i64 m.g.count, .int .i64 m.g.next, .int .i64 m.g.round, vo, .int .i64 m.sp] 34)).alloc (.cells #[ta, tb] 26)).alloc (.cells #[.int .i64 s, .int .i64 p] 36)).alloc (.cells #[.slice none 0 0, .slice none 0 0, .slice none 0 0, .int .i64 0, .int .i64 0, .int .i64 0, .int .i64 0, .slice none 0 0, .int .i64 0] 34)).heap.size = w.heap.size + 4 := by simp
 generalize hW : (((w.alloc (.cells #[vb, vf, vl, .int .i64 m.c.hand, .int .i64 m.g.count, .int .i64 m.g.next, .int .i64 m.g.round, vo, .int .i64 m.sp] 34)).alloc (.cells #[ta, tb] 26)).alloc (.cells #[.int .i64 s, .int .i64 p] 36)).alloc (.cells #[.slice none 0 0, .slice none 0 0, .slice none 0 0, .int .i64 0, .int .i64 0, .int .i64 0, .int .i64 0, .slice none 0 0, .int .i64 0] 34) = W0 at hbx hbt hbk hbo hb0 hs0
 have HX0 := Lib.hid hbx
 have HY0 := Lib.hid hbt
 have HK0 := Lib.hid hbk
 have HR0 := Lib.hid hbo
 have HB0 := Lib.hid hb0
 have HS0 : Hid (w.heap.size + 4 ≤ W0.heap.size) := Nat.le_of_eq hs0.symm
 clear hbx hbt hbk hbo hb0
 have HM := Lib.hid hM
 clear hM
 obtain ⟨A1, c1, rfl, _⟩ := hT.b
 obtain ⟨A2, c2, rfl, _⟩ := hT.f
 have HT := Lib.hid (hT.now HB0.out)
 clear hT
 have hBW : B ≤ W0.heap.size := Nat.le_trans hB (by omega)
 obtain ⟨m00, m10, m20, m30, m40, m50, m60, m70, m80⟩ := cells9 HX0.out
 go_enter Tryz.func62, Tryz.ntmps62
 go_wp2_with fail
 refine (mclone_any vb vf vl vo m _ (HM.out.now HB0.out) a1 a2 a3 a4).mono ?_
 rintro e w3 ⟨_, rfl, q1, q2, q3, q4, rfl, hM3, hb3⟩
 obtain ⟨B1, d1, rfl, _⟩ := hM3.t.b
 obtain ⟨B2, d2, rfl, _⟩ := hM3.t.f
 obtain ⟨B3, d3, rfl, _⟩ := hM3.l
 obtain ⟨B4, d4, rfl, _⟩ := hM3.o
 have HY3 := HY0.out.below hb3
 have hly3 := HY3.lt
 have u0 := HY3.cell_ 0 (v := .slice A1 t.bs.length c1) rfl
 have u1 := HY3.cell_ 1 (v := .slice A2 t.fs.length c2) rfl
 have HMM3 := Lib.hid hM3
 have HX3 := Lib.hid (HX0.out.below hb3)
 have HK3 := Lib.hid (HK0.out.below hb3)
 have HR3 := Lib.hid (HR0.out.below hb3)
 have HB3 := Lib.hid (bT HB0.out hb3)
 have HTM3 := Lib.hid (HT.out.now hb3)
 have hs3 := hb3.size
 have ho4 := Own.new_ w3 34 #[.slice A1 t.bs.length c1, .slice A2 t.fs.length c2, .slice B3 m.c.ls.length d3, .int .i64 m.c.hand, .int .i64 m.g.count, .int .i64 m.g.next, .int .i64 m.g.round, .slice B4 m.g.os.length d4, .int .i64 m.sp]
 have hb4 : Below w3.heap.size w3 (w3.alloc (.cells #[.slice A1 t.bs.length c1, .slice A2 t.fs.length c2, .slice B3 m.c.ls.length d3, .int .i64 m.c.hand, .int .i64 m.g.count, .int .i64 m.g.next, .int .i64 m.g.round, .slice B4 m.g.os.length d4, .int .i64 m.sp] 34)) := bA bR
 generalize hW4 : w3.alloc (.cells #[.slice A1 t.bs.length c1, .slice A2 t.fs.length c2, .slice B3 m.c.ls.length d3, .int .i64 m.c.hand, .int .i64 m.g.count, .int .i64 m.g.next, .int .i64 m.g.round, .slice B4 m.g.os.length d4, .int .i64 m.sp] 34) = w4 at ho4 hb4
 have HX4 := Lib.hid (HX3.out.below hb4)
 have HK4 := Lib.hid (HK3.out.below hb4)
 have HR4 := Lib.hid (HR3.out.below hb4)
 have HB4 := Lib.hid (bT HB3.out hb4)
 have HMM4 := Lib.hid (HMM3.out.now hb4)
 have HTM4 := Lib.hid (HTM3.out.now hb4)
 have HO4 := Lib.hid ho4
 clear hM3 hb3 hb4 ho4 HY3 m00 m10 m20 m30 m40 m50 m60 m70 m80
 obtain ⟨m04, m14, m24, m34, m44, m54, m64, m74, m84⟩ := cells9 HX4.out
 have k04 := HK4.out.cell_ 0 (v := .int .i64 s) rfl
 have k14 := HK4.out.cell_ 1 (v := .int .i64 p) rfl
 go_wp2_with fail
 refine (tagFor_any vb vf vl vo m s p _ (HM.out.now HB4.out)).mono ?_
 rintro e w5 ⟨rfl, hb5⟩
 have HX5 := Lib.hid (HX4.out.below hb5)
 have HK5 := Lib.hid (HK4.out.below hb5)
 have HR5 := Lib.hid (HR4.out.below hb5)
 have HB5 := Lib.hid (bT HB4.out hb5)
 have HMM5 := Lib.hid (HMM4.out.now hb5)
 have HTM5 := Lib.hid (HTM4.out.now hb5)
 have HO5 := Lib.hid (HO4.out.below hb5)
 clear m04 m14 m24 m34 m44 m54 m64 m74 m84
 clear hb5 u0 u1 k04 k14 hW4
 cases hto : tagO m s p with
 | false =>
  have HV : Hid (drpM m t s p = ⟨t, m.c, m.g, m.sp⟩) := by show _ = _; unfold drpM; rw [drpC_no hto]
  obtain ⟨r0x, r1x, r2x, r3x, r4x, r5x, r6x, r7x, r8x⟩ := cells9 HR5.out
  obtain ⟨z0x, z1x, z2x, z3x, z4x, z5x, z6x, z7x, z8x⟩ := free9 HR5.out
  obtain ⟨p0o, p1o, p2o, p3o, p4o, p5o, p6o, p7o, p8o⟩ := cells9 HO5.out
  have hlr := HR5.out.lt
  have hlo := HO5.out.lt
  go_wp2
  have o3 := HR5.out.set9 (.slice A1 t.bs.length c1) (.slice A2 t.fs.length c2) (.slice B3 m.c.ls.length d3) (.int .i64 m.c.hand) (.int .i64 m.g.count) (.int .i64 m.g.next) (.int .i64 m.g.round) (.slice B4 m.g.os.length d4) (.int .i64 m.sp)
  obtain ⟨p0t, p1t, p2t, p3t, p4t, p5t, p6t, p7t, p8t⟩ := cells9 o3
  have hmm : MaM B _ (.slice A1 t.bs.length c1) (.slice A2 t.fs.length c2) (.slice B3 m.c.ls.length d3) (.slice B4 m.g.os.length d4) ⟨t, m.c, m.g, m.sp⟩ := ⟨HTM5.out, HMM5.out.l.mono hBW, HMM5.out.o.mono hBW⟩
  refine bodyPost_ret (v := .agg #[.slice A1 t.bs.length c1, .slice A2 t.fs.length c2, .slice B3 m.c.ls.length d3, .int .i64 m.c.hand, .int .i64 m.g.count, .int .i64 m.g.next, .int .i64 m.g.round, .slice B4 m.g.os.length d4, .int .i64 m.sp]) (by simp [results, Tryz.results62, go_sem, p0t, p1t, p2t, p3t, p4t, p5t, p6t, p7t, p8t]) rfl ⟨_, rfl, _, _, _, _, by rw [HV.out], ?_, ?_⟩
  ·rw [HV.out]
   exact hmm.far9 HR5.out _ _ _ _ _ _ _ _ _
  ·repeat (refine bS ?_ (by simp <;> omega))
   exact HB5.out
 | true =>
  obtain ⟨m05, m15, m25, m35, m45, m55, m65, m75, m85⟩ := cells9 HX5.out
  have k05 := HK5.out.cell_ 0 (v := .int .i64 s) rfl
  have k15 := HK5.out.cell_ 1 (v := .int .i64 p) rfl
  go_wp2_with fail
  refine (place_any vl m.c (tagT m s p) p _ (HM.out.l.now HB5.out)).mono ?_
  rintro e w6 ⟨rfl, hb6⟩
  have HX6 := Lib.hid (HX5.out.below hb6)
  have HK6 := Lib.hid (HK5.out.below hb6)
  have HR6 := Lib.hid (HR5.out.below hb6)
  have HB6 := Lib.hid (bT HB5.out hb6)
  have HMM6 := Lib.hid (HMM5.out.now hb6)
  have HTM6 := Lib.hid (HTM5.out.now hb6)
  have HO6 := Lib.hid (HO5.out.below hb6)
  clear m05 m15 m25 m35 m45 m55 m65 m75 m85
  clear hb6 k05 k15
  by_cases hp : 0 ≤ plcI m.c.ls (tagT m s p) p
  case neg =>
   have HV : Hid (drpM m t s p = ⟨t, m.c, m.g, m.sp⟩) := by show _ = _; unfold drpM; rw [drpC_neg hp]
   obtain ⟨r0x, r1x, r2x, r3x, r4x, r5x, r6x, r7x, r8x⟩ := cells9 HR6.out
   obtain ⟨z0x, z1x, z2x, z3x, z4x, z5x, z6x, z7x, z8x⟩ := free9 HR6.out
   obtain ⟨p0o, p1o, p2o, p3o, p4o, p5o, p6o, p7o, p8o⟩ := cells9 HO6.out
   have hlr := HR6.out.lt
   have hlo := HO6.out.lt
   go_wp2
   have o3 := HR6.out.set9 (.slice A1 t.bs.length c1) (.slice A2 t.fs.length c2) (.slice B3 m.c.ls.length d3) (.int .i64 m.c.hand) (.int .i64 m.g.count) (.int .i64 m.g.next) (.int .i64 m.g.round) (.slice B4 m.g.os.length d4) (.int .i64 m.sp)
   obtain ⟨p0t, p1t, p2t, p3t, p4t, p5t, p6t, p7t, p8t⟩ := cells9 o3
   have hmm : MaM B _ (.slice A1 t.bs.length c1) (.slice A2 t.fs.length c2) (.slice B3 m.c.ls.length d3) (.slice B4 m.g.os.length d4) ⟨t, m.c, m.g, m.sp⟩ := ⟨HTM6.out, HMM6.out.l.mono hBW, HMM6.out.o.mono hBW⟩
   refine bodyPost_ret (v := .agg #[.slice A1 t.bs.length c1, .slice A2 t.fs.length c2, .slice B3 m.c.ls.length d3, .int .i64 m.c.hand, .int .i64 m.g.count, .int .i64 m.g.next, .int .i64 m.g.round, .slice B4 m.g.os.length d4, .int .i64 m.sp]) (by simp [results, Tryz.results62, go_sem, p0t, p1t, p2t, p3t, p4t, p5t, p6t, p7t, p8t]) rfl ⟨_, rfl, _, _, _, _, by rw [HV.out], ?_, ?_⟩
   ·rw [HV.out]
    exact hmm.far9 HR6.out _ _ _ _ _ _ _ _ _
   ·repeat (refine bS ?_ (by simp <;> omega))
    exact HB6.out
  case pos =>
   obtain ⟨k, x, hk, ex, _⟩ := plcI_lt hp
   have HV : Hid (drpM m t s p = ⟨t, ⟨m.c.ls.set k lnz, m.c.hand⟩, m.g, m.sp⟩) := by show _ = _; unfold drpM; rw [drpC_at hto hk]
   have hkl := (List.getElem?_eq_some_iff.1 ex).1
   rw [hk]
   have EX := Lib.hid ex
   clear hk ex hp hto
   have HL6 := Lib.hid HMM6.out.l.own_
   obtain ⟨g3, cs3, rfl, hg3, O3, _⟩ := HL6.out.1.own (by omega)
   have z0 := O3.free (k * 6)
   have z1 := O3.free (k * 6 + 1)
   have z2 := O3.free (k * 6 + 2)
   have z3 := O3.free (k * 6 + 3)
   have z4 := O3.free (k * 6 + 4)
   have z5 := O3.free (k * 6 + 5)
   obtain ⟨bq, oq, eq1, _, y0, y1, y2, y3, y4, y5⟩ := HL6.out.1.is.ln EX.out
   injection eq1 with eq1
   injection eq1 with eq1 eq2
   subst eq1 eq2
   rw [Nat.zero_add] at y0 y1 y2 y3 y4 y5
   have q1 : w3.heap.size ≠ g3 := HO6.out.ne O3 (by decide)
   have q2 : g3 ≠ w3.heap.size := fun h => q1 h.symm
   have q3 : w.heap.size + 1 + 1 + 1 ≠ g3 := HR6.out.ne O3 (by decide)
   have q4 : g3 ≠ w.heap.size + 1 + 1 + 1 := fun h => q3 h.symm
   clear O3
   obtain ⟨r0x, r1x, r2x, r3x, r4x, r5x, r6x, r7x, r8x⟩ := cells9 HR6.out
   obtain ⟨z0x, z1x, z2x, z3x, z4x, z5x, z6x, z7x, z8x⟩ := free9 HR6.out
   obtain ⟨p0o, p1o, p2o, p3o, p4o, p5o, p6o, p7o, p8o⟩ := cells9 HO6.out
   have hlr := HR6.out.lt
   have hlo := HO6.out.lt
   have HML := Lib.hid (HL6.out.1.wln hkl lnz)
   go_wp2
   have f1 := ((((((HR6.out.far (p := ⟨g3, k * 6, none⟩) (u := .bool false) q3).far (p := ⟨g3, k * 6 + 1, none⟩) (u := .int .i64 0) q3).far (p := ⟨g3, k * 6 + 2, none⟩) (u := .int .i64 0) q3).far (p := ⟨g3, k * 6 + 3, none⟩) (u := .int .i64 0) q3).far (p := ⟨g3, k * 6 + 4, none⟩) (u := .int .i64 0) q3).far (p := ⟨g3, k * 6 + 5, none⟩) (u := .bool false) q3)
   have o3 := f1.set9 (.slice A1 t.bs.length c1) (.slice A2 t.fs.length c2) (.slice (some ⟨g3, 0, none⟩) m.c.ls.length d3) (.int .i64 m.c.hand) (.int .i64 m.g.count) (.int .i64 m.g.next) (.int .i64 m.g.round) (.slice B4 m.g.os.length d4) (.int .i64 m.sp)
   obtain ⟨p0t, p1t, p2t, p3t, p4t, p5t, p6t, p7t, p8t⟩ := cells9 o3
   obtain ⟨_, cs3, u3, _, O3, _⟩ := HL6.out.1.own (by omega)
   injection u3 with u3
   injection u3 with u3
   subst u3
   have oa := O3.set_ (k * 6) (.bool false)
   have ob := oa.set_ (k * 6 + 1) (.int .i64 0)
   have oc := ob.set_ (k * 6 + 2) (.int .i64 0)
   have od := oc.set_ (k * 6 + 3) (.int .i64 0)
   have oe := od.set_ (k * 6 + 4) (.int .i64 0)
   have hts := ((((((HTM6.out.b.farT O3 (u := .bool false) (i := k * 6) (by decide)).farT oa (u := .int .i64 0) (i := k * 6 + 1) (by decide)).farT ob (u := .int .i64 0) (i := k * 6 + 2) (by decide)).farT oc (u := .int .i64 0) (i := k * 6 + 3) (by decide)).farT od (u := .int .i64 0) (i := k * 6 + 4) (by decide)).farT oe (u := .bool false) (i := k * 6 + 5) (by decide))
   have htf := ((((((HTM6.out.f.farT O3 (u := .bool false) (i := k * 6) (by decide)).farT oa (u := .int .i64 0) (i := k * 6 + 1) (by decide)).farT ob (u := .int .i64 0) (i := k * 6 + 2) (by decide)).farT oc (u := .int .i64 0) (i := k * 6 + 3) (by decide)).farT od (u := .int .i64 0) (i := k * 6 + 4) (by decide)).farT oe (u := .bool false) (i := k * 6 + 5) (by decide))
   have hto := ((((((HMM6.out.o.farT O3 (u := .bool false) (i := k * 6) (by decide)).farT oa (u := .int .i64 0) (i := k * 6 + 1) (by decide)).farT ob (u := .int .i64 0) (i := k * 6 + 2) (by decide)).farT oc (u := .int .i64 0) (i := k * 6 + 3) (by decide)).farT od (u := .int .i64 0) (i := k * 6 + 4) (by decide)).farT oe (u := .bool false) (i := k * 6 + 5) (by decide))
   have hmm : MaM B _ (.slice A1 t.bs.length c1) (.slice A2 t.fs.length c2) (.slice (some ⟨g3, 0, none⟩) m.c.ls.length d3) (.slice B4 m.g.os.length d4) ⟨t, ⟨m.c.ls.set k lnz, m.c.hand⟩, m.g, m.sp⟩ := ⟨⟨hts, htf⟩, slm_of (by simp) (by simpa using HL6.out.2.2.1) HL6.out.2.2.2 (HML.out.mono hBW), hto.mono hBW⟩
   refine bodyPost_ret (v := .agg #[.slice A1 t.bs.length c1, .slice A2 t.fs.length c2, .slice (some ⟨g3, 0, none⟩) m.c.ls.length d3, .int .i64 m.c.hand, .int .i64 m.g.count, .int .i64 m.g.next, .int .i64 m.g.round, .slice B4 m.g.os.length d4, .int .i64 m.sp]) (by simp [results, Tryz.results62, go_sem, p0t, p1t, p2t, p3t, p4t, p5t, p6t, p7t, p8t]) rfl ⟨_, rfl, _, _, _, _, by rw [HV.out], ?_, ?_⟩
   ·rw [HV.out]
    exact hmm.far9 f1 _ _ _ _ _ _ _ _ _
   ·repeat (refine bS ?_ (by simp <;> omega))
    exact HB6.out
end Go.Proofs.YtnaagdmaggdbmaaGreatDoor
namespace Go.Proofs.YtnaagdmaggdbmaaGreatDoor
open Go.RowKit
def rgN (O : Ma → Nat → Bool) (V : Ma → Nat → Ma) (m : Ma) : Nat → Option Ma
 | 0 => some m
 | k + 1 => match rgN O V m k with
  | some m' => if O m' k = true then some (V m' k) else none
  | none => none
theorem rgN_step {O : Ma → Nat → Bool} {V : Ma → Nat → Ma} {m m' : Ma} {k : Nat} (h : rgN O V m k = some m') (hok : O m' k = true) : rgN O V m (k + 1) = some (V m' k) := by
 unfold rgN
 rw [h]
 simp only
 rw [if_pos hok]
theorem rgN_bad {O : Ma → Nat → Bool} {V : Ma → Nat → Ma} {m m' : Ma} {k : Nat} (h : rgN O V m k = some m') (hok : O m' k = false) : rgN O V m (k + 1) = none := by
 unfold rgN
 rw [h]
 simp only
 rw [if_neg (by rw [hok]; decide)]
theorem rgN_none {O : Ma → Nat → Bool} {V : Ma → Nat → Ma} {m : Ma} {k : Nat} (h : rgN O V m k = none) : ∀ {n : Nat}, k ≤ n → rgN O V m n = none := by
 intro n hn
 induction n with
 | zero => rw [show (0 : Nat) = k by omega]; exact h
 | succ n ih =>
  rcases Nat.lt_or_ge n k with hlt | hge
  ·rw [show n + 1 = k by omega]; exact h
  ·unfold rgN
   rw [ih hge]
def rgO (O : Ma → Nat → Bool) (V : Ma → Nat → Ma) (m : Ma) (c : Int) : Option Ma := if mav m = true ∧ 1 ≤ c ∧ c ≤ 16 then rgN O V m c.toNat else none
theorem rgO_no {O : Ma → Nat → Bool} {V : Ma → Nat → Ma} {m : Ma} {c : Int} (h : ¬ (mav m = true ∧ 1 ≤ c ∧ c ≤ 16)) : rgO O V m c = none := if_neg h
theorem rgO_yes {O : Ma → Nat → Bool} {V : Ma → Nat → Ma} {m : Ma} {c : Nat} (h : mav m = true) (h1 : 1 ≤ c) (h2 : c ≤ 16) : rgO O V m c = rgN O V m c := by
 unfold rgO
 rw [if_pos ⟨h, by omega, by omega⟩, Int.toNat_natCast]
def rgV (O : Ma → Nat → Bool) (V : Ma → Nat → Ma) (m : Ma) (c : Int) : Ma := (rgO O V m c).getD maz
end Go.Proofs.YtnaagdmaggdbmaaGreatDoor
