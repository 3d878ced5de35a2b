/- A part of the proofs of this seat: DrpP, TagI, DrpI, RgP, Val, DrpS, DrpT, VicP, VicS, FilS. -/
import Derived.Test.YtnaagdmaggdbmaaGreatDoorKB
import Derived.Test.YtnaagdmaggdbmaaGreatDoorKD
import Derived.Test.YtnaagdmaggdbmaaGreatDoorZKeep
import Derived.Test.YtnaagdmaggdbmaaGreatDoorKC
import Derived.Deep.LoopGhost
set_option linter.unusedVariables false
set_option linter.unusedSimpArgs false
namespace Go.Proofs.YtnaagdmaggdbmaaGreatDoor
open Go.RowKit
/-! ### dropping a page's line; taking a page; guarding a page -/
/-- the tag with which a space looks for a page, and whether it has one -/
def tagO (m : Ma) (s p : Int) : Bool := if 128 ≤ p then true else tgO m.g s
def tagT (m : Ma) (s p : Int) : Int := if 128 ≤ p then -1 else tgT m.g s
def drpC (m : Ma) (s p : Int) : Ca := if tagO m s p = true ∧ 0 ≤ plcI m.c.ls (tagT m s p) p then ⟨m.c.ls.set (plcI m.c.ls (tagT m s p) p).toNat lnz, m.c.hand⟩ else m.c
def drpM (m : Ma) (t : Tab) (s p : Int) : Ma := { m with t := t, c := drpC m s p }
def takO (m : Ma) (s p : Int) : Bool := mav m && fOK m.t s p
def takV (m : Ma) (s p : Int) : Ma := if takO m s p = true then drpM m (unmV m.t s p) s p else maz
def grdO (m : Ma) (s p r : Int) : Bool := mav m && prOK m.t s p r
def grdV (m : Ma) (s p r : Int) : Ma := if grdO m s p r = true then drpM m (prV m.t s p r) s p else maz
theorem takO_false {m : Ma} {s p : Int} (h : takO m s p = false) : takV m s p = maz := by unfold takV; rw [h]; rfl
theorem grdO_false {m : Ma} {s p r : Int} (h : grdO m s p r = false) : grdV m s p r = maz := by unfold grdV; rw [h]; rfl
theorem tgO_no {g : Tg} {s : Int} (h : tgv g = false) : tgO g s = false ∧ tgT g s = 0 := by
  have h1 : tgO g s = false := by unfold tgO; rw [h]; rfl
  exact ⟨h1, by unfold tgT; rw [h1]; rfl⟩
theorem tgO_neg {g : Tg} {s : Int} (h : ¬ 0 ≤ ownI g.os s) : tgO g s = false ∧ tgT g s = 0 := by
  have h1 : tgO g s = false := by unfold tgO; rw [decide_eq_false h, Bool.and_false]
  exact ⟨h1, by unfold tgT; rw [h1]; rfl⟩
theorem ownI_lt {os : List (Int × Int)} {s : Int} (h : 0 ≤ ownI os s) : ∃ (k : Nat) (o : Int × Int), ownI os s = (k : Int) ∧ os[k]? = some o ∧ o.1 = s := by
  unfold ownI at h ⊢
  cases e : own os s with
  | none => rw [e] at h; simp at h
  | some i =>
    unfold own at e
    obtain ⟨hi, h1, _⟩ := List.findIdx?_eq_some_iff_getElem.1 e
    exact ⟨i, os[i], rfl, List.getElem?_eq_getElem hi, by simpa using h1⟩
theorem tgO_yes {g : Tg} {s : Int} (h : tgv g = true) {k : Nat} {o : Int × Int} (e : ownI g.os s = (k : Int)) (eo : g.os[k]? = some o) : tgO g s = true ∧ tgT g s = o.2 := by
  have h1 : tgO g s = true := by unfold tgO; rw [h, e]; simp
  refine ⟨h1, ?_⟩
  unfold tgT
  rw [h1, if_pos rfl, e, Int.toNat_natCast, List.getD_eq_getElem?_getD, eo]
  rfl
theorem plcI_lt {ls : List Ln} {t p : Int} (h : 0 ≤ plcI ls t p) : ∃ (k : Nat) (x : Ln), plcI ls t p = (k : Int) ∧ ls[k]? = some x ∧ fits t p x = true := by
  unfold plcI at h ⊢
  cases e : plc ls t p with
  | none => rw [e] at h; simp at h
  | some i =>
    unfold plc at e
    obtain ⟨hi, h1, _⟩ := List.findIdx?_eq_some_iff_getElem.1 e
    exact ⟨i, ls[i], rfl, List.getElem?_eq_getElem hi, h1⟩
theorem drpC_no {m : Ma} {s p : Int} (h : tagO m s p = false) : drpC m s p = m.c := by unfold drpC; rw [if_neg]; rintro ⟨h1, _⟩; rw [h] at h1; cases h1
theorem drpC_neg {m : Ma} {s p : Int} (h : ¬ 0 ≤ plcI m.c.ls (tagT m s p) p) : drpC m s p = m.c := by unfold drpC; rw [if_neg]; exact fun h1 => h h1.2
theorem drpC_at {m : Ma} {s p : Int} (h : tagO m s p = true) {k : Nat} (e : plcI m.c.ls (tagT m s p) p = (k : Int)) : drpC m s p = ⟨m.c.ls.set k lnz, m.c.hand⟩ := by unfold drpC; rw [if_pos ⟨h, by omega⟩, e, Int.toNat_natCast]
theorem drpC_len {m : Ma} {s p : Int} : (drpC m s p).ls.length = m.c.ls.length := by unfold drpC; split <;> simp
theorem drpC_hand {m : Ma} {s p : Int} : (drpC m s p).hand = m.c.hand := by unfold drpC; split <;> rfl
end Go.Proofs.YtnaagdmaggdbmaaGreatDoor
namespace Go.Proofs.YtnaagdmaggdbmaaGreatDoor
open Go.RowKit
set_option maxRecDepth 1000000
theorem own_p (vo : Value) (g : Tg) (s : Int) (w : World) (hT : SlR owE w vo g.os) :
    Calls Tryz.prog 66 #[.agg #[.int .i64 g.count, .int .i64 g.next, .int .i64 g.round, vo], .int .i64 s] w (Post2 fun v w' => v = .int .i64 (ownI g.os s) ∧ Below w.heap.size w w') := post2_of (own_any vo g s w hT)
set_option maxHeartbeats 1000000 in
theorem TagOf_any (vo : Value) (g : Tg) (s : Int) (w : World) (hT : SlR owE w vo g.os) :
    Calls Tryz.prog 170 #[.agg #[.int .i64 g.count, .int .i64 g.next, .int .i64 g.round, vo], .int .i64 s] w fun r w' => r = .returned (.tuple #[.int .i64 (tgT g s), .bool (tgO g s)]) ∧ Below w.heap.size w w' := by
  have HV := Lib.hid hT
  obtain ⟨A, cc, rfl, hbc, hbm, hL⟩ := hT
  have hfm2 : g.os.length ≤ 9223372036854775807 := by unfold maxLen at hbm; omega
  have HL := Lib.hid hL
  have hbx := Own.new_ w 32 #[.int .i64 g.count, .int .i64 g.next, .int .i64 g.round, .slice A g.os.length cc]
  have hbz : Below w.heap.size w (w.alloc (.cells #[.int .i64 g.count, .int .i64 g.next, .int .i64 g.round, .slice A g.os.length cc] 32)) := bA bR
  have hsz0 : (w.alloc (.cells #[.int .i64 g.count, .int .i64 g.next, .int .i64 g.round, .slice A g.os.length cc] 32)).heap.size = w.heap.size + 1 := by simp
  generalize hW : w.alloc (.cells #[.int .i64 g.count, .int .i64 g.next, .int .i64 g.round, .slice A g.os.length cc] 32) = W0 at hbx hbz hsz0
  have q0 := hbx.cell_ 0 (v := .int .i64 g.count) rfl
  have q1 := hbx.cell_ 1 (v := .int .i64 g.next) rfl
  have q2 := hbx.cell_ 2 (v := .int .i64 g.round) rfl
  have q3 := hbx.cell_ 3 (v := .slice A g.os.length cc) rfl
  have HBX := Lib.hid hbx
  clear hL hbx
  go_enter Tryz.func170, Tryz.ntmps170
  go_wp2_with fail
  refine (TagsValid_any _ g _ (HV.out.now hbz)).mono ?_
  rintro e w1 ⟨rfl, hb1⟩
  have HBX1 := Lib.hid (HBX.out.below hb1)
  have HBZ1 := Lib.hid (bT hbz hb1)
  clear hb1 q0 q1 q2 q3
  have q0 := HBX1.out.cell_ 0 (v := .int .i64 g.count) rfl
  have q1 := HBX1.out.cell_ 1 (v := .int .i64 g.next) rfl
  have q2 := HBX1.out.cell_ 2 (v := .int .i64 g.round) rfl
  have q3 := HBX1.out.cell_ 3 (v := .slice A g.os.length cc) rfl
  cases h1 : tgv g with
  | false =>
    obtain ⟨e1, e2⟩ := tgO_no (s := s) h1
    have E1 := Lib.hid e1
    have E2 := Lib.hid e2
    clear e1 e2
    go_wp2
    go_ret2
    exact ⟨by rw [E1.out, E2.out]; rfl, HBZ1.out⟩
  | true =>
    go_wp2_with fail
    refine (own_any _ g s _ (HV.out.now HBZ1.out)).mono ?_
    rintro e w2 ⟨rfl, hb2⟩
    have HBX2 := Lib.hid (HBX1.out.below hb2)
    have HBZ2 := Lib.hid (bT HBZ1.out hb2)
    clear hb2 q0 q1 q2 q3
    have q0 := HBX2.out.cell_ 0 (v := .int .i64 g.count) rfl
    have q1 := HBX2.out.cell_ 1 (v := .int .i64 g.next) rfl
    have q2 := HBX2.out.cell_ 2 (v := .int .i64 g.round) rfl
    have q3 := HBX2.out.cell_ 3 (v := .slice A g.os.length cc) rfl
    by_cases h2 : 0 ≤ ownI g.os s
    case neg =>
      obtain ⟨e1, e2⟩ := tgO_neg h2
      have E1 := Lib.hid e1
      have E2 := Lib.hid e2
      have h2b : ownI g.os s < 0 := by omega
      clear e1 e2
      go_wp2
      go_ret2
      exact ⟨by rw [E1.out, E2.out]; rfl, HBZ2.out⟩
    case pos =>
      obtain ⟨k, o, hk, eo, _⟩ := ownI_lt h2
      obtain ⟨e1, e2⟩ := tgO_yes h1 hk eo
      have E1 := Lib.hid e1
      have E2 := Lib.hid e2
      have HN := Lib.hid hk
      have EO := Lib.hid eo
      have hkl := (List.getElem?_eq_some_iff.1 eo).1
      have HOW : Hid (∀ W, SlR owE W (.slice A g.os.length cc) g.os → Calls Tryz.prog 66 #[.agg #[.int .i64 g.count, .int .i64 g.next, .int .i64 g.round, .slice A g.os.length cc], .int .i64 s] W fun r w' => r = .returned (.int .i64 (k : Int)) ∧ Below W.heap.size W w') := fun W h => by rw [← hk]; exact own_any _ g s W h
      rw [hk]
      have h2b : ¬ (k : Int) < 0 := by omega
      clear e1 e2 hk eo h2 q0 q1 q2 q3
      obtain ⟨b, ob, rfl, hbb, d0, d1⟩ := (HL.out.now (Nat.le_refl _) HBZ2.out).ow EO.out
      have q0 := xcell (HBX2.out.cell_ 0 (v := .int .i64 g.count) rfl) HBX2.out.lt
      have q1 := xcell (HBX2.out.cell_ 1 (v := .int .i64 g.next) rfl) HBX2.out.lt
      have q2 := xcell (HBX2.out.cell_ 2 (v := .int .i64 g.round) rfl) HBX2.out.lt
      have q3 := xcell (HBX2.out.cell_ 3 (v := .slice (some ⟨b, ob, none⟩) g.os.length cc) rfl) HBX2.out.lt
      have y1 := xcell d1 hbb
      clear d0 d1
      go_wp2
      refine wp_region_ext (by kernel_rfl) (by kernel_rfl) ?_
      repeat (go_big_quiet_step ((go_at_call 66; exact ext_call (HOW.out _ (HV.out.now (bT HBZ2.out (Ext.ok _)))))))
      refine wpQuiet_nil ?_
      intro _ hw'
      obtain ⟨⟨wq, hq⟩, hw''⟩ := hw'
      subst hw''
      try dsimp only
      go_wp2
      go_ret2
      exact ⟨by rw [E1.out, E2.out]; rfl, bT HBZ2.out hq⟩
set_option maxHeartbeats 1000000 in
theorem tagFor_any (vb vf vl vo : Value) (m : Ma) (s p : Int) (w : World) (hM : MaR w vb vf vl vo m) :
    Calls Tryz.prog 102 #[.agg #[vb, vf, vl, .int .i64 m.c.hand, .int .i64 m.g.count, .int .i64 m.g.next, .int .i64 m.g.round, vo, .int .i64 m.sp], .int .i64 s, .int .i64 p] w fun r w' => r = .returned (.tuple #[.int .i64 (tagT m s p), .bool (tagO m s p)]) ∧ Below w.heap.size w w' := by
  have HM := Lib.hid hM
  clear hM
  have hbx := Own.new_ w 34 #[vb, vf, vl, .int .i64 m.c.hand, .int .i64 m.g.count, .int .i64 m.g.next, .int .i64 m.g.round, vo, .int .i64 m.sp]
  have hbz : Below w.heap.size w (w.alloc (.cells #[vb, vf, vl, .int .i64 m.c.hand, .int .i64 m.g.count, .int .i64 m.g.next, .int .i64 m.g.round, vo, .int .i64 m.sp] 34)) := bA bR
  generalize hW : w.alloc (.cells #[vb, vf, vl, .int .i64 m.c.hand, .int .i64 m.g.count, .int .i64 m.g.next, .int .i64 m.g.round, vo, .int .i64 m.sp] 34) = W0 at hbx hbz
  have HX0 := Lib.hid hbx
  have HB0 := Lib.hid hbz
  clear hbx hbz
  have m00 := HX0.out.cell_ 0 (v := vb) rfl
  have m10 := HX0.out.cell_ 1 (v := vf) rfl
  have m20 := HX0.out.cell_ 2 (v := vl) rfl
  have m30 := HX0.out.cell_ 3 (v := .int .i64 m.c.hand) rfl
  have m40 := HX0.out.cell_ 4 (v := .int .i64 m.g.count) rfl
  have m50 := HX0.out.cell_ 5 (v := .int .i64 m.g.next) rfl
  have m60 := HX0.out.cell_ 6 (v := .int .i64 m.g.round) rfl
  have m70 := HX0.out.cell_ 7 (v := vo) rfl
  have m80 := HX0.out.cell_ 8 (v := .int .i64 m.sp) rfl
  by_cases h : 128 ≤ p
  · have E1 : Hid (tagT m s p = -1) := if_pos h
    have E2 : Hid (tagO m s p = true) := if_pos h
    go_enter Tryz.func102, Tryz.ntmps102
    go_wp2
    go_ret2
    exact ⟨by rw [E1.out, E2.out]; rfl, HB0.out⟩
  · have E1 : Hid (tagT m s p = tgT m.g s) := if_neg h
    have E2 : Hid (tagO m s p = tgO m.g s) := if_neg h
    go_enter Tryz.func102, Tryz.ntmps102
    go_wp2_with fail
    refine (TagOf_any vo m.g s _ (HM.out.o.now HB0.out)).mono ?_
    rintro e w1 ⟨rfl, hb1⟩
    go_wp2
    go_ret2
    exact ⟨by rw [E1.out, E2.out]; rfl, bT HB0.out hb1⟩
set_option maxHeartbeats 1000000 in
theorem l6Tag_any (vb vf vl vo : Value) (m : Ma) (s p : Int) (w : World) (hM : MaR w vb vf vl vo m) (hg : tgv m.g = true) :
    Calls Tryz.prog 142 #[.agg #[vb, vf, vl, .int .i64 m.c.hand, .int .i64 m.g.count, .int .i64 m.g.next, .int .i64 m.g.round, vo, .int .i64 m.sp], .int .i64 s, .int .i64 p] w fun r w' => r = .returned (.tuple #[.int .i64 (tagT m s p), .bool (tagO m s p)]) ∧ Below w.heap.size w w' := by
  have HM := Lib.hid hM
  clear hM
  have hbx := Own.new_ w 34 #[vb, vf, vl, .int .i64 m.c.hand, .int .i64 m.g.count, .int .i64 m.g.next, .int .i64 m.g.round, vo, .int .i64 m.sp]
  have hbz : Below w.heap.size w (w.alloc (.cells #[vb, vf, vl, .int .i64 m.c.hand, .int .i64 m.g.count, .int .i64 m.g.next, .int .i64 m.g.round, vo, .int .i64 m.sp] 34)) := bA bR
  generalize hW : w.alloc (.cells #[vb, vf, vl, .int .i64 m.c.hand, .int .i64 m.g.count, .int .i64 m.g.next, .int .i64 m.g.round, vo, .int .i64 m.sp] 34) = W0 at hbx hbz
  have HX0 := Lib.hid hbx
  have HB0 := Lib.hid hbz
  clear hbx hbz
  have m00 := HX0.out.cell_ 0 (v := vb) rfl
  have m10 := HX0.out.cell_ 1 (v := vf) rfl
  have m20 := HX0.out.cell_ 2 (v := vl) rfl
  have m30 := HX0.out.cell_ 3 (v := .int .i64 m.c.hand) rfl
  have m40 := HX0.out.cell_ 4 (v := .int .i64 m.g.count) rfl
  have m50 := HX0.out.cell_ 5 (v := .int .i64 m.g.next) rfl
  have m60 := HX0.out.cell_ 6 (v := .int .i64 m.g.round) rfl
  have m70 := HX0.out.cell_ 7 (v := vo) rfl
  have m80 := HX0.out.cell_ 8 (v := .int .i64 m.sp) rfl
  by_cases h : 128 ≤ p
  · have E1 : Hid (tagT m s p = -1) := if_pos h
    have E2 : Hid (tagO m s p = true) := if_pos h
    go_enter Tryz.func142, Tryz.ntmps142
    go_wp2
    go_ret2
    exact ⟨by rw [E1.out, E2.out]; rfl, HB0.out⟩
  · have E1 : Hid (tagT m s p = tgT m.g s) := if_neg h
    have E2 : Hid (tagO m s p = tgO m.g s) := if_neg h
    by_cases h2 : 0 ≤ ownI m.g.os s
    case neg =>
      obtain ⟨e1, e2⟩ := tgO_neg h2
      have F1 := Lib.hid e1
      have F2 := Lib.hid e2
      have h2b : ownI m.g.os s < 0 := by omega
      clear e1 e2
      go_enter Tryz.func142, Tryz.ntmps142
      go_wp2_with fail
      refine (l5Find_any _ m.g s _ (HM.out.o.now HB0.out)).mono ?_
      rintro e w1 ⟨rfl, hb1⟩
      go_wp2
      go_ret2
      exact ⟨by rw [E1.out, E2.out, F1.out, F2.out]; rfl, bT HB0.out hb1⟩
    case pos =>
      obtain ⟨k, o, hk, eo, _⟩ := ownI_lt h2
      obtain ⟨e1, e2⟩ := tgO_yes hg hk eo
      have F1 := Lib.hid e1
      have F2 := Lib.hid e2
      have HN := Lib.hid hk
      have EO := Lib.hid eo
      have hkl := (List.getElem?_eq_some_iff.1 eo).1
      have h2b : ¬ (k : Int) < 0 := by omega
      clear e1 e2 hk eo h2
      go_enter Tryz.func142, Tryz.ntmps142
      go_wp2_with fail
      refine (l5Find_any _ m.g s _ (HM.out.o.now HB0.out)).mono ?_
      rintro e w1 ⟨rfl, hb1⟩
      rw [HN.out]
      obtain ⟨A, cc, rfl, hbc, hbm, hL⟩ := HM.out.o
      obtain ⟨b, ob, rfl, hbb, d0, d1⟩ := (hL.now (Nat.le_refl _) (bT HB0.out hb1)).ow EO.out
      have HB1 := Lib.hid (bT HB0.out hb1)
      have m7 := (HX0.out.below hb1).cell_ 7 (v := .slice (some ⟨b, ob, none⟩) m.g.os.length cc) rfl
      clear m00 m10 m20 m30 m40 m50 m60 m70 m80 hb1
      go_wp2
      go_ret2
      exact ⟨by rw [E1.out, E2.out, F1.out, F2.out]; rfl, HB1.out⟩
end Go.Proofs.YtnaagdmaggdbmaaGreatDoor
namespace Go.Proofs.YtnaagdmaggdbmaaGreatDoor
open Go.RowKit
set_option maxRecDepth 1000000
theorem Own.ne {w : World} {g g2 : Nat} {t t2 : TypeId} {cs cs2 : Array Value} (h : Own w g t cs) (h2 : Own w g2 t2 cs2) (hne : t ≠ t2) : g ≠ g2 := by
  rintro rfl
  unfold Own at h h2
  rw [h] at h2
  injection h2 with h2
  injection h2 with _ h2
  exact hne h2
set_option maxHeartbeats 2000000 in
theorem MineE.wln {e : TypeId} {B : Nat} {w : World} {g : Nat} {l : List Ln} (h : MineE lnE e B w (some ⟨g, 0, none⟩) l) {k : Nat} (hk : k < l.length) (x : Ln) :
    MineE lnE e B ((((((w.setCell ⟨g, k * 6, none⟩ (.bool x.v)).setCell ⟨g, k * 6 + 1, none⟩ (.int .i64 x.t)).setCell ⟨g, k * 6 + 2, none⟩ (.int .i64 x.p)).setCell ⟨g, k * 6 + 3, none⟩ (.int .i64 x.f)).setCell ⟨g, k * 6 + 4, none⟩ (.int .i64 x.r)).setCell ⟨g, k * 6 + 5, none⟩ (.bool x.w)) (some ⟨g, 0, none⟩) (l.set k x) := by
  obtain ⟨g2, cs, e1, hB, ho, hs⟩ := h.own (by omega)
  injection e1 with e1
  injection e1 with e1
  subst e1
  have hs2 : l.length * 6 ≤ cs.size := by simpa [lnE] using hs
  refine h.write ho ((((((ho.set_ (k * 6) _).set_ (k * 6 + 1) _).set_ (k * 6 + 2) _).set_ (k * 6 + 3) _).set_ (k * 6 + 4) _).set_ (k * 6 + 5) _) (by simp) hk x (fun j u hj => ?_) (fun i hi => ?_)
  · simp only [lnE] at hj ⊢
    match j, hj with
    | 0, hj => simp at hj; subst hj; simp [Array.getElem?_setIfInBounds]; omega
    | 1, hj => simp at hj; subst hj; simp [Array.getElem?_setIfInBounds]; omega
    | 2, hj => simp at hj; subst hj; simp [Array.getElem?_setIfInBounds]; omega
    | 3, hj => simp at hj; subst hj; simp [Array.getElem?_setIfInBounds]; omega
    | 4, hj => simp at hj; subst hj; simp [Array.getElem?_setIfInBounds]; omega
    | 5, hj => simp at hj; subst hj; simp [Array.getElem?_setIfInBounds]; omega
    | j + 6, hj => simp at hj
  · simp only [lnE] at hi
    rw [Array.getElem?_setIfInBounds, if_neg (by omega), Array.getElem?_setIfInBounds, if_neg (by omega), Array.getElem?_setIfInBounds, if_neg (by omega), Array.getElem?_setIfInBounds, if_neg (by omega), Array.getElem?_setIfInBounds, if_neg (by omega), Array.getElem?_setIfInBounds, if_neg (by omega)]
theorem SlM.own_ {α : Type} {E : Enc α} {e : TypeId} {B : Nat} {w : World} {A : Option Addr} {n c : Nat} {l : List α} (h : SlM E e B w (.slice A n c) l) : MineE E e B w A l ∧ n = l.length ∧ l.length ≤ c ∧ c ≤ maxLen := by
  obtain ⟨A', c', h1, h2, h3, h4⟩ := h
  injection h1 with h1 h5 h6
  subst h1 h6
  exact ⟨h4, h5, h2, h3⟩
set_option maxHeartbeats 4000000 in
theorem dropped_any (vb vf vl vo ta tb : Value) (m : Ma) (t : Tab) (s p : Int) (B : Nat) (w : World) (hM : MaR w vb vf vl vo m) (hB : B ≤ w.heap.size) (hT : TaM B w ta tb t)
    (a1 : m.t.bs.length ≤ 1048576) (a2 : m.t.fs.length ≤ 1048576) (a3 : m.c.ls.length ≤ 1048576) (a4 : m.g.os.length ≤ 1048576) :
    Calls Tryz.prog 62 #[.agg #[vb, vf, vl, .int .i64 m.c.hand, .int .i64 m.g.count, .int .i64 m.g.next, .int .i64 m.g.round, vo, .int .i64 m.sp], .agg #[ta, tb], .agg #[.int .i64 s, .int .i64 p]] w (Post2 fun v w' => ∃ v1 v2 v3 v4, v = .agg #[v1, v2, v3, .int .i64 (drpM m t s p).c.hand, .int .i64 (drpM m t s p).g.count, .int .i64 (drpM m t s p).g.next, .int .i64 (drpM m t s p).g.round, v4, .int .i64 (drpM m t s p).sp] ∧ MaM B w' v1 v2 v3 v4 (drpM m t s p) ∧ Below w.heap.size w w') := by
  have hbx := (((Own.new_ w 34 #[vb, vf, vl, .int .i64 m.c.hand, .int .i64 m.g.count, .int .i64 m.g.next, .int .i64 m.g.round, vo, .int .i64 m.sp]).alloc (o := .cells #[ta, tb] 26)).alloc (o := .cells #[.int .i64 s, .int .i64 p] 36)).alloc (o := .cells #[.slice none 0 0, .slice none 0 0, .slice none 0 0, .int .i64 0, .int .i64 0, .int .i64 0, .int .i64 0, .slice none 0 0, .int .i64 0] 34)
  have hbt := ((ownAt (W := w.alloc (.cells #[vb, vf, vl, .int .i64 m.c.hand, .int .i64 m.g.count, .int .i64 m.g.next, .int .i64 m.g.round, vo, .int .i64 m.sp] 34)) (g := w.heap.size + 1) (t := 26) (cs := #[ta, tb]) (by simp)).alloc (o := .cells #[.int .i64 s, .int .i64 p] 36)).alloc (o := .cells #[.slice none 0 0, .slice none 0 0, .slice none 0 0, .int .i64 0, .int .i64 0, .int .i64 0, .int .i64 0, .slice none 0 0, .int .i64 0] 34)
  have hbk := (ownAt (W := (w.alloc (.cells #[vb, vf, vl, .int .i64 m.c.hand, .int .i64 m.g.count, .int .i64 m.g.next, .int .i64 m.g.round, vo, .int .i64 m.sp] 34)).alloc (.cells #[ta, tb] 26)) (g := w.heap.size + 1 + 1) (t := 36) (cs := #[.int .i64 s, .int .i64 p]) (by simp)).alloc (o := .cells #[.slice none 0 0, .slice none 0 0, .slice none 0 0, .int .i64 0, .int .i64 0, .int .i64 0, .int .i64 0, .slice none 0 0, .int .i64 0] 34)
  have hbo := ownAt (W := ((w.alloc (.cells #[vb, vf, vl, .int .i64 m.c.hand, .int .i64 m.g.count, .int .i64 m.g.next, .int .i64 m.g.round, vo, .int .i64 m.sp] 34)).alloc (.cells #[ta, tb] 26)).alloc (.cells #[.int .i64 s, .int .i64 p] 36)) (g := w.heap.size + 1 + 1 + 1) (t := 34) (cs := #[.slice none 0 0, .slice none 0 0, .slice none 0 0, .int .i64 0, .int .i64 0, .int .i64 0, .int .i64 0, .slice none 0 0, .int .i64 0]) (by simp)
  have hb0 : Below w.heap.size w ((((w.alloc (.cells #[vb, vf, vl, .int .i64 m.c.hand, .int .i64 m.g.count, .int .i64 m.g.next, .int .i64 m.g.round, vo, .int .i64 m.sp] 34)).alloc (.cells #[ta, tb] 26)).alloc (.cells #[.int .i64 s, .int .i64 p] 36)).alloc (.cells #[.slice none 0 0, .slice none 0 0, .slice none 0 0, .int .i64 0, .int .i64 0, .int .i64 0, .int .i64 0, .slice none 0 0, .int .i64 0] 34)) := bA (bA (bA (bA bR)))
  have hs0 : ((((w.alloc (.cells #[vb, vf, vl, .int .i64 m.c.hand, .int .i64 m.g.count, .int .i64 m.g.next, .int .i64 m.g.round, vo, .int .i64 m.sp] 34)).alloc (.cells #[ta, tb] 26)).alloc (.cells #[.int .i64 s, .int .i64 p] 36)).alloc (.cells #[.slice none 0 0, .slice none 0 0, .slice none 0 0, .int .i64 0, .int .i64 0, .int .i64 0, .int .i64 0, .slice none 0 0, .int .i64 0] 34)).heap.size = w.heap.size + 4 := by simp
  generalize hW : (((w.alloc (.cells #[vb, vf, vl, .int .i64 m.c.hand, .int .i64 m.g.count, .int .i64 m.g.next, .int .i64 m.g.round, vo, .int .i64 m.sp] 34)).alloc (.cells #[ta, tb] 26)).alloc (.cells #[.int .i64 s, .int .i64 p] 36)).alloc (.cells #[.slice none 0 0, .slice none 0 0, .slice none 0 0, .int .i64 0, .int .i64 0, .int .i64 0, .int .i64 0, .slice none 0 0, .int .i64 0] 34) = W0 at hbx hbt hbk hbo hb0 hs0
  have HX0 := Lib.hid hbx
  have HY0 := Lib.hid hbt
  have HK0 := Lib.hid hbk
  have HR0 := Lib.hid hbo
  have HB0 := Lib.hid hb0
  have HS0 : Hid (w.heap.size + 4 ≤ W0.heap.size) := Nat.le_of_eq hs0.symm
  clear hbx hbt hbk hbo hb0
  have HM := Lib.hid hM
  clear hM
  obtain ⟨A1, c1, rfl, _⟩ := hT.b
  obtain ⟨A2, c2, rfl, _⟩ := hT.f
  have HT := Lib.hid (hT.now HB0.out)
  clear hT
  have hBW : B ≤ W0.heap.size := Nat.le_trans hB (by omega)
  have m00 := HX0.out.cell_ 0 (v := vb) rfl
  have m10 := HX0.out.cell_ 1 (v := vf) rfl
  have m20 := HX0.out.cell_ 2 (v := vl) rfl
  have m30 := HX0.out.cell_ 3 (v := .int .i64 m.c.hand) rfl
  have m40 := HX0.out.cell_ 4 (v := .int .i64 m.g.count) rfl
  have m50 := HX0.out.cell_ 5 (v := .int .i64 m.g.next) rfl
  have m60 := HX0.out.cell_ 6 (v := .int .i64 m.g.round) rfl
  have m70 := HX0.out.cell_ 7 (v := vo) rfl
  have m80 := HX0.out.cell_ 8 (v := .int .i64 m.sp) rfl
  go_enter Tryz.func62, Tryz.ntmps62
  go_wp2_with fail
  refine (mclone_any vb vf vl vo m _ (HM.out.now HB0.out) a1 a2 a3 a4).mono ?_
  rintro e w3 ⟨_, rfl, q1, q2, q3, q4, rfl, hM3, hb3⟩
  obtain ⟨B1, d1, rfl, _⟩ := hM3.t.b
  obtain ⟨B2, d2, rfl, _⟩ := hM3.t.f
  obtain ⟨B3, d3, rfl, _⟩ := hM3.l
  obtain ⟨B4, d4, rfl, _⟩ := hM3.o
  have HY3 := HY0.out.below hb3
  have hly3 := HY3.lt
  have u0 := HY3.cell_ 0 (v := .slice A1 t.bs.length c1) rfl
  have u1 := HY3.cell_ 1 (v := .slice A2 t.fs.length c2) rfl
  have HMM3 := Lib.hid hM3
  have HX3 := Lib.hid (HX0.out.below hb3)
  have HK3 := Lib.hid (HK0.out.below hb3)
  have HR3 := Lib.hid (HR0.out.below hb3)
  have HB3 := Lib.hid (bT HB0.out hb3)
  have HTM3 := Lib.hid (HT.out.now hb3)
  have hs3 := hb3.size
  have ho4 := Own.new_ w3 34 #[.slice A1 t.bs.length c1, .slice A2 t.fs.length c2, .slice B3 m.c.ls.length d3, .int .i64 m.c.hand, .int .i64 m.g.count, .int .i64 m.g.next, .int .i64 m.g.round, .slice B4 m.g.os.length d4, .int .i64 m.sp]
  have hb4 : Below w3.heap.size w3 (w3.alloc (.cells #[.slice A1 t.bs.length c1, .slice A2 t.fs.length c2, .slice B3 m.c.ls.length d3, .int .i64 m.c.hand, .int .i64 m.g.count, .int .i64 m.g.next, .int .i64 m.g.round, .slice B4 m.g.os.length d4, .int .i64 m.sp] 34)) := bA bR
  generalize hW4 : w3.alloc (.cells #[.slice A1 t.bs.length c1, .slice A2 t.fs.length c2, .slice B3 m.c.ls.length d3, .int .i64 m.c.hand, .int .i64 m.g.count, .int .i64 m.g.next, .int .i64 m.g.round, .slice B4 m.g.os.length d4, .int .i64 m.sp] 34) = w4 at ho4 hb4
  have HX4 := Lib.hid (HX3.out.below hb4)
  have HK4 := Lib.hid (HK3.out.below hb4)
  have HR4 := Lib.hid (HR3.out.below hb4)
  have HB4 := Lib.hid (bT HB3.out hb4)
  have HMM4 := Lib.hid (HMM3.out.now hb4)
  have HTM4 := Lib.hid (HTM3.out.now hb4)
  have HO4 := Lib.hid ho4
  clear hM3 hb3 hb4 ho4 HY3 m00 m10 m20 m30 m40 m50 m60 m70 m80
  have m04 := HX4.out.cell_ 0 (v := vb) rfl
  have m14 := HX4.out.cell_ 1 (v := vf) rfl
  have m24 := HX4.out.cell_ 2 (v := vl) rfl
  have m34 := HX4.out.cell_ 3 (v := .int .i64 m.c.hand) rfl
  have m44 := HX4.out.cell_ 4 (v := .int .i64 m.g.count) rfl
  have m54 := HX4.out.cell_ 5 (v := .int .i64 m.g.next) rfl
  have m64 := HX4.out.cell_ 6 (v := .int .i64 m.g.round) rfl
  have m74 := HX4.out.cell_ 7 (v := vo) rfl
  have m84 := HX4.out.cell_ 8 (v := .int .i64 m.sp) rfl
  have k04 := HK4.out.cell_ 0 (v := .int .i64 s) rfl
  have k14 := HK4.out.cell_ 1 (v := .int .i64 p) rfl
  go_wp2_with fail
  refine (tagFor_any vb vf vl vo m s p _ (HM.out.now HB4.out)).mono ?_
  rintro e w5 ⟨rfl, hb5⟩
  have HX5 := Lib.hid (HX4.out.below hb5)
  have HK5 := Lib.hid (HK4.out.below hb5)
  have HR5 := Lib.hid (HR4.out.below hb5)
  have HB5 := Lib.hid (bT HB4.out hb5)
  have HMM5 := Lib.hid (HMM4.out.now hb5)
  have HTM5 := Lib.hid (HTM4.out.now hb5)
  have HO5 := Lib.hid (HO4.out.below hb5)
  clear m04 m14 m24 m34 m44 m54 m64 m74 m84
  clear hb5 u0 u1 k04 k14 hW4
  cases hto : tagO m s p with
  | false =>
    have HV : Hid (drpM m t s p = ⟨t, m.c, m.g, m.sp⟩) := by show _ = _; unfold drpM; rw [drpC_no hto]
    have r0x := HR5.out.cell_ 0 (v := .slice none 0 0) rfl
    have r1x := HR5.out.cell_ 1 (v := .slice none 0 0) rfl
    have r2x := HR5.out.cell_ 2 (v := .slice none 0 0) rfl
    have r3x := HR5.out.cell_ 3 (v := .int .i64 0) rfl
    have r4x := HR5.out.cell_ 4 (v := .int .i64 0) rfl
    have r5x := HR5.out.cell_ 5 (v := .int .i64 0) rfl
    have r6x := HR5.out.cell_ 6 (v := .int .i64 0) rfl
    have r7x := HR5.out.cell_ 7 (v := .slice none 0 0) rfl
    have r8x := HR5.out.cell_ 8 (v := .int .i64 0) rfl
    have z0x := HR5.out.free 0
    have z1x := HR5.out.free 1
    have z2x := HR5.out.free 2
    have z3x := HR5.out.free 3
    have z4x := HR5.out.free 4
    have z5x := HR5.out.free 5
    have z6x := HR5.out.free 6
    have z7x := HR5.out.free 7
    have z8x := HR5.out.free 8
    have p0o := HO5.out.cell_ 0 (v := .slice A1 t.bs.length c1) rfl
    have p1o := HO5.out.cell_ 1 (v := .slice A2 t.fs.length c2) rfl
    have p2o := HO5.out.cell_ 2 (v := .slice B3 m.c.ls.length d3) rfl
    have p3o := HO5.out.cell_ 3 (v := .int .i64 m.c.hand) rfl
    have p4o := HO5.out.cell_ 4 (v := .int .i64 m.g.count) rfl
    have p5o := HO5.out.cell_ 5 (v := .int .i64 m.g.next) rfl
    have p6o := HO5.out.cell_ 6 (v := .int .i64 m.g.round) rfl
    have p7o := HO5.out.cell_ 7 (v := .slice B4 m.g.os.length d4) rfl
    have p8o := HO5.out.cell_ 8 (v := .int .i64 m.sp) rfl
    have hlr := HR5.out.lt
    have hlo := HO5.out.lt
    go_wp2
    have o3 := HR5.out.set9 (.slice A1 t.bs.length c1) (.slice A2 t.fs.length c2) (.slice B3 m.c.ls.length d3) (.int .i64 m.c.hand) (.int .i64 m.g.count) (.int .i64 m.g.next) (.int .i64 m.g.round) (.slice B4 m.g.os.length d4) (.int .i64 m.sp)
    have p0t := o3.cell_ 0 (v := .slice A1 t.bs.length c1) rfl
    have p1t := o3.cell_ 1 (v := .slice A2 t.fs.length c2) rfl
    have p2t := o3.cell_ 2 (v := .slice B3 m.c.ls.length d3) rfl
    have p3t := o3.cell_ 3 (v := .int .i64 m.c.hand) rfl
    have p4t := o3.cell_ 4 (v := .int .i64 m.g.count) rfl
    have p5t := o3.cell_ 5 (v := .int .i64 m.g.next) rfl
    have p6t := o3.cell_ 6 (v := .int .i64 m.g.round) rfl
    have p7t := o3.cell_ 7 (v := .slice B4 m.g.os.length d4) rfl
    have p8t := o3.cell_ 8 (v := .int .i64 m.sp) rfl
    have hmm : MaM B _ (.slice A1 t.bs.length c1) (.slice A2 t.fs.length c2) (.slice B3 m.c.ls.length d3) (.slice B4 m.g.os.length d4) ⟨t, m.c, m.g, m.sp⟩ := ⟨HTM5.out, HMM5.out.l.mono hBW, HMM5.out.o.mono hBW⟩
    refine bodyPost_ret (v := .agg #[.slice A1 t.bs.length c1, .slice A2 t.fs.length c2, .slice B3 m.c.ls.length d3, .int .i64 m.c.hand, .int .i64 m.g.count, .int .i64 m.g.next, .int .i64 m.g.round, .slice B4 m.g.os.length d4, .int .i64 m.sp]) (by simp [results, Tryz.results62, go_sem, p0t, p1t, p2t, p3t, p4t, p5t, p6t, p7t, p8t]) rfl ⟨_, rfl, _, _, _, _, by rw [HV.out], ?_, ?_⟩
    · rw [HV.out]
      exact hmm.far9 HR5.out _ _ _ _ _ _ _ _ _
    · repeat (refine bS ?_ (by simp <;> omega))
      exact HB5.out
  | true =>
    have m05 := HX5.out.cell_ 0 (v := vb) rfl
    have m15 := HX5.out.cell_ 1 (v := vf) rfl
    have m25 := HX5.out.cell_ 2 (v := vl) rfl
    have m35 := HX5.out.cell_ 3 (v := .int .i64 m.c.hand) rfl
    have m45 := HX5.out.cell_ 4 (v := .int .i64 m.g.count) rfl
    have m55 := HX5.out.cell_ 5 (v := .int .i64 m.g.next) rfl
    have m65 := HX5.out.cell_ 6 (v := .int .i64 m.g.round) rfl
    have m75 := HX5.out.cell_ 7 (v := vo) rfl
    have m85 := HX5.out.cell_ 8 (v := .int .i64 m.sp) rfl
    have k05 := HK5.out.cell_ 0 (v := .int .i64 s) rfl
    have k15 := HK5.out.cell_ 1 (v := .int .i64 p) rfl
    go_wp2_with fail
    refine (place_any vl m.c (tagT m s p) p _ (HM.out.l.now HB5.out)).mono ?_
    rintro e w6 ⟨rfl, hb6⟩
    have HX6 := Lib.hid (HX5.out.below hb6)
    have HK6 := Lib.hid (HK5.out.below hb6)
    have HR6 := Lib.hid (HR5.out.below hb6)
    have HB6 := Lib.hid (bT HB5.out hb6)
    have HMM6 := Lib.hid (HMM5.out.now hb6)
    have HTM6 := Lib.hid (HTM5.out.now hb6)
    have HO6 := Lib.hid (HO5.out.below hb6)
    clear m05 m15 m25 m35 m45 m55 m65 m75 m85
    clear hb6 k05 k15
    by_cases hp : 0 ≤ plcI m.c.ls (tagT m s p) p
    case neg =>
      have HV : Hid (drpM m t s p = ⟨t, m.c, m.g, m.sp⟩) := by show _ = _; unfold drpM; rw [drpC_neg hp]
      have r0x := HR6.out.cell_ 0 (v := .slice none 0 0) rfl
      have r1x := HR6.out.cell_ 1 (v := .slice none 0 0) rfl
      have r2x := HR6.out.cell_ 2 (v := .slice none 0 0) rfl
      have r3x := HR6.out.cell_ 3 (v := .int .i64 0) rfl
      have r4x := HR6.out.cell_ 4 (v := .int .i64 0) rfl
      have r5x := HR6.out.cell_ 5 (v := .int .i64 0) rfl
      have r6x := HR6.out.cell_ 6 (v := .int .i64 0) rfl
      have r7x := HR6.out.cell_ 7 (v := .slice none 0 0) rfl
      have r8x := HR6.out.cell_ 8 (v := .int .i64 0) rfl
      have z0x := HR6.out.free 0
      have z1x := HR6.out.free 1
      have z2x := HR6.out.free 2
      have z3x := HR6.out.free 3
      have z4x := HR6.out.free 4
      have z5x := HR6.out.free 5
      have z6x := HR6.out.free 6
      have z7x := HR6.out.free 7
      have z8x := HR6.out.free 8
      have p0o := HO6.out.cell_ 0 (v := .slice A1 t.bs.length c1) rfl
      have p1o := HO6.out.cell_ 1 (v := .slice A2 t.fs.length c2) rfl
      have p2o := HO6.out.cell_ 2 (v := .slice B3 m.c.ls.length d3) rfl
      have p3o := HO6.out.cell_ 3 (v := .int .i64 m.c.hand) rfl
      have p4o := HO6.out.cell_ 4 (v := .int .i64 m.g.count) rfl
      have p5o := HO6.out.cell_ 5 (v := .int .i64 m.g.next) rfl
      have p6o := HO6.out.cell_ 6 (v := .int .i64 m.g.round) rfl
      have p7o := HO6.out.cell_ 7 (v := .slice B4 m.g.os.length d4) rfl
      have p8o := HO6.out.cell_ 8 (v := .int .i64 m.sp) rfl
      have hlr := HR6.out.lt
      have hlo := HO6.out.lt
      go_wp2
      have o3 := HR6.out.set9 (.slice A1 t.bs.length c1) (.slice A2 t.fs.length c2) (.slice B3 m.c.ls.length d3) (.int .i64 m.c.hand) (.int .i64 m.g.count) (.int .i64 m.g.next) (.int .i64 m.g.round) (.slice B4 m.g.os.length d4) (.int .i64 m.sp)
      have p0t := o3.cell_ 0 (v := .slice A1 t.bs.length c1) rfl
      have p1t := o3.cell_ 1 (v := .slice A2 t.fs.length c2) rfl
      have p2t := o3.cell_ 2 (v := .slice B3 m.c.ls.length d3) rfl
      have p3t := o3.cell_ 3 (v := .int .i64 m.c.hand) rfl
      have p4t := o3.cell_ 4 (v := .int .i64 m.g.count) rfl
      have p5t := o3.cell_ 5 (v := .int .i64 m.g.next) rfl
      have p6t := o3.cell_ 6 (v := .int .i64 m.g.round) rfl
      have p7t := o3.cell_ 7 (v := .slice B4 m.g.os.length d4) rfl
      have p8t := o3.cell_ 8 (v := .int .i64 m.sp) rfl
      have hmm : MaM B _ (.slice A1 t.bs.length c1) (.slice A2 t.fs.length c2) (.slice B3 m.c.ls.length d3) (.slice B4 m.g.os.length d4) ⟨t, m.c, m.g, m.sp⟩ := ⟨HTM6.out, HMM6.out.l.mono hBW, HMM6.out.o.mono hBW⟩
      refine bodyPost_ret (v := .agg #[.slice A1 t.bs.length c1, .slice A2 t.fs.length c2, .slice B3 m.c.ls.length d3, .int .i64 m.c.hand, .int .i64 m.g.count, .int .i64 m.g.next, .int .i64 m.g.round, .slice B4 m.g.os.length d4, .int .i64 m.sp]) (by simp [results, Tryz.results62, go_sem, p0t, p1t, p2t, p3t, p4t, p5t, p6t, p7t, p8t]) rfl ⟨_, rfl, _, _, _, _, by rw [HV.out], ?_, ?_⟩
      · rw [HV.out]
        exact hmm.far9 HR6.out _ _ _ _ _ _ _ _ _
      · repeat (refine bS ?_ (by simp <;> omega))
        exact HB6.out
    case pos =>
      obtain ⟨k, x, hk, ex, _⟩ := plcI_lt hp
      have HV : Hid (drpM m t s p = ⟨t, ⟨m.c.ls.set k lnz, m.c.hand⟩, m.g, m.sp⟩) := by show _ = _; unfold drpM; rw [drpC_at hto hk]
      have hkl := (List.getElem?_eq_some_iff.1 ex).1
      rw [hk]
      have EX := Lib.hid ex
      clear hk ex hp hto
      have HL6 := Lib.hid HMM6.out.l.own_
      obtain ⟨g3, cs3, rfl, hg3, O3, _⟩ := HL6.out.1.own (by omega)
      have z0 := O3.free (k * 6)
      have z1 := O3.free (k * 6 + 1)
      have z2 := O3.free (k * 6 + 2)
      have z3 := O3.free (k * 6 + 3)
      have z4 := O3.free (k * 6 + 4)
      have z5 := O3.free (k * 6 + 5)
      obtain ⟨bq, oq, eq1, _, y0, y1, y2, y3, y4, y5⟩ := HL6.out.1.is.ln EX.out
      injection eq1 with eq1
      injection eq1 with eq1 eq2
      subst eq1 eq2
      rw [Nat.zero_add] at y0 y1 y2 y3 y4 y5
      have q1 : w3.heap.size ≠ g3 := HO6.out.ne O3 (by decide)
      have q2 : g3 ≠ w3.heap.size := fun h => q1 h.symm
      have q3 : w.heap.size + 1 + 1 + 1 ≠ g3 := HR6.out.ne O3 (by decide)
      have q4 : g3 ≠ w.heap.size + 1 + 1 + 1 := fun h => q3 h.symm
      clear O3
      have r0x := HR6.out.cell_ 0 (v := .slice none 0 0) rfl
      have r1x := HR6.out.cell_ 1 (v := .slice none 0 0) rfl
      have r2x := HR6.out.cell_ 2 (v := .slice none 0 0) rfl
      have r3x := HR6.out.cell_ 3 (v := .int .i64 0) rfl
      have r4x := HR6.out.cell_ 4 (v := .int .i64 0) rfl
      have r5x := HR6.out.cell_ 5 (v := .int .i64 0) rfl
      have r6x := HR6.out.cell_ 6 (v := .int .i64 0) rfl
      have r7x := HR6.out.cell_ 7 (v := .slice none 0 0) rfl
      have r8x := HR6.out.cell_ 8 (v := .int .i64 0) rfl
      have z0x := HR6.out.free 0
      have z1x := HR6.out.free 1
      have z2x := HR6.out.free 2
      have z3x := HR6.out.free 3
      have z4x := HR6.out.free 4
      have z5x := HR6.out.free 5
      have z6x := HR6.out.free 6
      have z7x := HR6.out.free 7
      have z8x := HR6.out.free 8
      have p0o := HO6.out.cell_ 0 (v := .slice A1 t.bs.length c1) rfl
      have p1o := HO6.out.cell_ 1 (v := .slice A2 t.fs.length c2) rfl
      have p2o := HO6.out.cell_ 2 (v := .slice (some ⟨g3, 0, none⟩) m.c.ls.length d3) rfl
      have p3o := HO6.out.cell_ 3 (v := .int .i64 m.c.hand) rfl
      have p4o := HO6.out.cell_ 4 (v := .int .i64 m.g.count) rfl
      have p5o := HO6.out.cell_ 5 (v := .int .i64 m.g.next) rfl
      have p6o := HO6.out.cell_ 6 (v := .int .i64 m.g.round) rfl
      have p7o := HO6.out.cell_ 7 (v := .slice B4 m.g.os.length d4) rfl
      have p8o := HO6.out.cell_ 8 (v := .int .i64 m.sp) rfl
      have hlr := HR6.out.lt
      have hlo := HO6.out.lt
      have HML := Lib.hid (HL6.out.1.wln hkl lnz)
      go_wp2
      have f1 := ((((((HR6.out.far (p := ⟨g3, k * 6, none⟩) (u := .bool false) q3).far (p := ⟨g3, k * 6 + 1, none⟩) (u := .int .i64 0) q3).far (p := ⟨g3, k * 6 + 2, none⟩) (u := .int .i64 0) q3).far (p := ⟨g3, k * 6 + 3, none⟩) (u := .int .i64 0) q3).far (p := ⟨g3, k * 6 + 4, none⟩) (u := .int .i64 0) q3).far (p := ⟨g3, k * 6 + 5, none⟩) (u := .bool false) q3)
      have o3 := f1.set9 (.slice A1 t.bs.length c1) (.slice A2 t.fs.length c2) (.slice (some ⟨g3, 0, none⟩) m.c.ls.length d3) (.int .i64 m.c.hand) (.int .i64 m.g.count) (.int .i64 m.g.next) (.int .i64 m.g.round) (.slice B4 m.g.os.length d4) (.int .i64 m.sp)
      have p0t := o3.cell_ 0 (v := .slice A1 t.bs.length c1) rfl
      have p1t := o3.cell_ 1 (v := .slice A2 t.fs.length c2) rfl
      have p2t := o3.cell_ 2 (v := .slice (some ⟨g3, 0, none⟩) m.c.ls.length d3) rfl
      have p3t := o3.cell_ 3 (v := .int .i64 m.c.hand) rfl
      have p4t := o3.cell_ 4 (v := .int .i64 m.g.count) rfl
      have p5t := o3.cell_ 5 (v := .int .i64 m.g.next) rfl
      have p6t := o3.cell_ 6 (v := .int .i64 m.g.round) rfl
      have p7t := o3.cell_ 7 (v := .slice B4 m.g.os.length d4) rfl
      have p8t := o3.cell_ 8 (v := .int .i64 m.sp) rfl
      obtain ⟨_, cs3, u3, _, O3, _⟩ := HL6.out.1.own (by omega)
      injection u3 with u3
      injection u3 with u3
      subst u3
      have oa := O3.set_ (k * 6) (.bool false)
      have ob := oa.set_ (k * 6 + 1) (.int .i64 0)
      have oc := ob.set_ (k * 6 + 2) (.int .i64 0)
      have od := oc.set_ (k * 6 + 3) (.int .i64 0)
      have oe := od.set_ (k * 6 + 4) (.int .i64 0)
      have hts := ((((((HTM6.out.b.farT O3 (u := .bool false) (i := k * 6) (by decide)).farT oa (u := .int .i64 0) (i := k * 6 + 1) (by decide)).farT ob (u := .int .i64 0) (i := k * 6 + 2) (by decide)).farT oc (u := .int .i64 0) (i := k * 6 + 3) (by decide)).farT od (u := .int .i64 0) (i := k * 6 + 4) (by decide)).farT oe (u := .bool false) (i := k * 6 + 5) (by decide))
      have htf := ((((((HTM6.out.f.farT O3 (u := .bool false) (i := k * 6) (by decide)).farT oa (u := .int .i64 0) (i := k * 6 + 1) (by decide)).farT ob (u := .int .i64 0) (i := k * 6 + 2) (by decide)).farT oc (u := .int .i64 0) (i := k * 6 + 3) (by decide)).farT od (u := .int .i64 0) (i := k * 6 + 4) (by decide)).farT oe (u := .bool false) (i := k * 6 + 5) (by decide))
      have hto := ((((((HMM6.out.o.farT O3 (u := .bool false) (i := k * 6) (by decide)).farT oa (u := .int .i64 0) (i := k * 6 + 1) (by decide)).farT ob (u := .int .i64 0) (i := k * 6 + 2) (by decide)).farT oc (u := .int .i64 0) (i := k * 6 + 3) (by decide)).farT od (u := .int .i64 0) (i := k * 6 + 4) (by decide)).farT oe (u := .bool false) (i := k * 6 + 5) (by decide))
      have hmm : MaM B _ (.slice A1 t.bs.length c1) (.slice A2 t.fs.length c2) (.slice (some ⟨g3, 0, none⟩) m.c.ls.length d3) (.slice B4 m.g.os.length d4) ⟨t, ⟨m.c.ls.set k lnz, m.c.hand⟩, m.g, m.sp⟩ := ⟨⟨hts, htf⟩, slm_of (by simp) (by simpa using HL6.out.2.2.1) HL6.out.2.2.2 (HML.out.mono hBW), hto.mono hBW⟩
      refine bodyPost_ret (v := .agg #[.slice A1 t.bs.length c1, .slice A2 t.fs.length c2, .slice (some ⟨g3, 0, none⟩) m.c.ls.length d3, .int .i64 m.c.hand, .int .i64 m.g.count, .int .i64 m.g.next, .int .i64 m.g.round, .slice B4 m.g.os.length d4, .int .i64 m.sp]) (by simp [results, Tryz.results62, go_sem, p0t, p1t, p2t, p3t, p4t, p5t, p6t, p7t, p8t]) rfl ⟨_, rfl, _, _, _, _, by rw [HV.out], ?_, ?_⟩
      · rw [HV.out]
        exact hmm.far9 f1 _ _ _ _ _ _ _ _ _
      · repeat (refine bS ?_ (by simp <;> omega))
        exact HB6.out
end Go.Proofs.YtnaagdmaggdbmaaGreatDoor
namespace Go.Proofs.YtnaagdmaggdbmaaGreatDoor
open Go.RowKit
/-! ### an operation on the pages of a range, one behind the other -/
def rgN (O : Ma → Nat → Bool) (V : Ma → Nat → Ma) (m : Ma) : Nat → Option Ma
  | 0 => some m
  | k + 1 => match rgN O V m k with
    | some m' => if O m' k = true then some (V m' k) else none
    | none => none
theorem rgN_step {O : Ma → Nat → Bool} {V : Ma → Nat → Ma} {m m' : Ma} {k : Nat} (h : rgN O V m k = some m') (hok : O m' k = true) : rgN O V m (k + 1) = some (V m' k) := by
  unfold rgN
  rw [h]
  simp only
  rw [if_pos hok]
theorem rgN_bad {O : Ma → Nat → Bool} {V : Ma → Nat → Ma} {m m' : Ma} {k : Nat} (h : rgN O V m k = some m') (hok : O m' k = false) : rgN O V m (k + 1) = none := by
  unfold rgN
  rw [h]
  simp only
  rw [if_neg (by rw [hok]; decide)]
theorem rgN_none {O : Ma → Nat → Bool} {V : Ma → Nat → Ma} {m : Ma} {k : Nat} (h : rgN O V m k = none) : ∀ {n : Nat}, k ≤ n → rgN O V m n = none := by
  intro n hn
  induction n with
  | zero => rw [show (0 : Nat) = k by omega]; exact h
  | succ n ih =>
    rcases Nat.lt_or_ge n k with hlt | hge
    · rw [show n + 1 = k by omega]; exact h
    · unfold rgN
      rw [ih hge]
def rgO (O : Ma → Nat → Bool) (V : Ma → Nat → Ma) (m : Ma) (c : Int) : Option Ma := if mav m = true ∧ 1 ≤ c ∧ c ≤ 16 then rgN O V m c.toNat else none
theorem rgO_no {O : Ma → Nat → Bool} {V : Ma → Nat → Ma} {m : Ma} {c : Int} (h : ¬ (mav m = true ∧ 1 ≤ c ∧ c ≤ 16)) : rgO O V m c = none := if_neg h
theorem rgO_yes {O : Ma → Nat → Bool} {V : Ma → Nat → Ma} {m : Ma} {c : Nat} (h : mav m = true) (h1 : 1 ≤ c) (h2 : c ≤ 16) : rgO O V m c = rgN O V m c := by
  unfold rgO
  rw [if_pos ⟨h, by omega, by omega⟩, Int.toNat_natCast]
def rgV (O : Ma → Nat → Bool) (V : Ma → Nat → Ma) (m : Ma) (c : Int) : Ma := (rgO O V m c).getD maz
/-- what the operation keeps, the range keeps -/
theorem rgN_keep {O : Ma → Nat → Bool} {V : Ma → Nat → Ma} {P : Ma → Prop} (hV : ∀ m' k, O m' k = true → P m' → P (V m' k)) {m : Ma} (h : P m) : ∀ (k : Nat) (m' : Ma), rgN O V m k = some m' → P m'
  | 0, m', e => by
    injection e with e
    rw [← e]; exact h
  | k + 1, m', e => by
    unfold rgN at e
    cases h1 : rgN O V m k with
    | none => rw [h1] at e; cases e
    | some m1 =>
      rw [h1] at e
      simp only at e
      split at e
      · rename_i hok
        injection e with e
        rw [← e]
        exact hV _ _ hok (rgN_keep hV h k m1 h1)
      · cases e
end Go.Proofs.YtnaagdmaggdbmaaGreatDoor
namespace Go.Proofs.YtnaagdmaggdbmaaGreatDoor
open Go.RowKit
/-! ### valid caches, as what it says -/
structure CV (c : Ca) : Prop where
  sz : 1 ≤ c.ls.length ∧ c.ls.length ≤ 8
  hand : inR c.hand c.ls.length = true
  ok : ∀ (i : Nat) (x : Ln), c.ls[i]? = some x → lnok x = true
  cl : ∀ (i j : Nat) (x y : Ln), i ≠ j → c.ls[i]? = some x → c.ls[j]? = some y → clash x y = false
  loose : ∃ (i : Nat) (x : Ln), c.ls[i]? = some x ∧ x.w = false
theorem clash_symm (x y : Ln) : clash x y = clash y x := by
  unfold clash
  rw [Bool.eq_iff_iff]
  simp only [Bool.and_eq_true, Bool.or_eq_true, decide_eq_true_eq]
  constructor
  · rintro ⟨⟨⟨a, b⟩, c⟩, d⟩
    refine ⟨⟨⟨b, a⟩, c.symm⟩, ?_⟩
    rcases d with (d | d) | d
    · exact .inl (.inl d.symm)
    · exact .inr d
    · exact .inl (.inr d)
  · rintro ⟨⟨⟨a, b⟩, c⟩, d⟩
    refine ⟨⟨⟨b, a⟩, c.symm⟩, ?_⟩
    rcases d with (d | d) | d
    · exact .inl (.inl d.symm)
    · exact .inr d
    · exact .inl (.inr d)
theorem lok_of {ls : List Ln} (h1 : ∀ (i : Nat) (x : Ln), ls[i]? = some x → lnok x = true) (h2 : ∀ (i j : Nat) (x y : Ln), i ≠ j → ls[i]? = some x → ls[j]? = some y → clash x y = false) : ∀ k, k ≤ ls.length → lok ls k = true
  | 0, _ => rfl
  | k + 1, hk => by
    obtain ⟨x, e⟩ : ∃ x, ls[k]? = some x := ⟨_, List.getElem?_eq_getElem (by omega)⟩
    exact lok_step (lok_of h1 h2 k (by omega)) e (h1 k x e) (fun r y hr er => h2 k r x y (by omega) e er)
theorem cav_CV {c : Ca} : cav c = true ↔ CV c := by
  constructor
  · intro h
    obtain ⟨a, b, d, e, f⟩ := cav_parts h
    refine ⟨⟨a, b⟩, d, fun i x hi => ?_, fun i j x y hij hi hj => ?_, ?_⟩
    · obtain ⟨x', e1, e2, _⟩ := lok_at e (List.getElem?_eq_some_iff.1 hi).1
      rw [hi] at e1
      injection e1 with e1
      rw [e1]; exact e2
    · rcases Nat.lt_or_gt_of_ne hij with hlt | hlt
      · obtain ⟨y', e1, _, e3⟩ := lok_at e (List.getElem?_eq_some_iff.1 hj).1
        rw [hj] at e1
        injection e1 with e1
        subst e1
        rw [clash_symm]
        exact e3 i x hlt hi
      · obtain ⟨x', e1, _, e3⟩ := lok_at e (List.getElem?_eq_some_iff.1 hi).1
        rw [hi] at e1
        injection e1 with e1
        subst e1
        exact e3 j y hlt hj
    · rw [List.any_eq_true] at f
      obtain ⟨x, hx, hw⟩ := f
      obtain ⟨i, hi, e1⟩ := List.getElem_of_mem hx
      exact ⟨i, x, by rw [List.getElem?_eq_getElem hi, e1], by simpa using hw⟩
  · intro h
    rw [cav_end h.sz.1 h.sz.2 h.hand (lok_of h.ok h.cl _ (Nat.le_refl _)), List.any_eq_true]
    obtain ⟨i, x, e, hw⟩ := h.loose
    exact ⟨x, List.mem_of_getElem? e, by rw [hw]; rfl⟩
theorem lnok_z : lnok lnz = true := by decide
theorem clash_z (y : Ln) : clash lnz y = false := by unfold clash; rfl
/-- a line dropped -/
theorem CV.drop {c : Ca} (h : CV c) (k : Nat) : CV ⟨c.ls.set k lnz, c.hand⟩ := by
  refine ⟨by simpa using h.sz, by simpa using h.hand, fun i x hi => ?_, fun i j x y hij hi hj => ?_, ?_⟩
  · simp only at hi
    rw [List.getElem?_set] at hi
    split at hi
    · split at hi
      · injection hi with hi
        rw [← hi]; exact lnok_z
      · cases hi
    · exact h.ok i x hi
  · simp only at hi hj
    rw [List.getElem?_set] at hi hj
    split at hi
    · split at hi
      · injection hi with hi
        rw [← hi]; exact clash_z y
      · cases hi
    · split at hj
      · split at hj
        · injection hj with hj
          rw [← hj, clash_symm]; exact clash_z x
        · cases hj
      · exact h.cl i j x y hij hi hj
  · obtain ⟨i, x, e, hw⟩ := h.loose
    by_cases hk : k = i
    · subst hk
      exact ⟨k, lnz, by simp only; rw [List.getElem?_set, if_pos rfl, if_pos (List.getElem?_eq_some_iff.1 e).1], rfl⟩
    · exact ⟨i, x, by simp only; rw [List.getElem?_set, if_neg hk]; exact e, hw⟩
theorem fits_iff {t p : Int} {x : Ln} : fits t p x = true ↔ x.v = true ∧ x.p = p ∧ (x.t = t ∨ x.t = -1) := by
  unfold fits
  simp only [Bool.and_eq_true, Bool.or_eq_true, decide_eq_true_eq, and_assoc]
theorem plcI_none {ls : List Ln} {t p : Int} (h : ¬ 0 ≤ plcI ls t p) {i : Nat} {x : Ln} (e : ls[i]? = some x) : fits t p x = false := by
  unfold plcI plc at h
  cases e2 : ls.findIdx? (fits t p) with
  | some j => rw [e2] at h; simp at h
  | none =>
    rw [List.findIdx?_eq_none_iff] at e2
    exact e2 x (List.mem_of_getElem? e)
/-- two lines that fit the same are one -/
theorem CV.once {c : Ca} (h : CV c) {t p : Int} {i j : Nat} {x y : Ln} (hi : c.ls[i]? = some x) (hj : c.ls[j]? = some y) (hx : fits t p x = true) (hy : fits t p y = true) : i = j := by
  by_cases hij : i = j
  · exact hij
  · have h1 := h.cl i j x y hij hi hj
    obtain ⟨a1, a2, a3⟩ := fits_iff.1 hx
    obtain ⟨b1, b2, b3⟩ := fits_iff.1 hy
    exfalso
    have : clash x y = true := by
      unfold clash
      simp only [Bool.and_eq_true, Bool.or_eq_true, decide_eq_true_eq]
      refine ⟨⟨⟨a1, b1⟩, by rw [a2, b2]⟩, ?_⟩
      rcases a3 with a3 | a3
      · rcases b3 with b3 | b3
        · exact .inl (.inl (by rw [a3, b3]))
        · exact .inr b3
      · exact .inl (.inr a3)
    rw [h1] at this
    cases this
/-! ### lines of a machine -/
theorem lnM_some {m : Ma} {x : Ln} (hv : x.v = true) (h : lnM m x = true) : ∃ (s : Int) (i : Nat), lnSp m x = some s ∧ fnd m.t.fs (keyI s x.p) x.p = some i ∧ (i : Int) = x.f ∧ (m.t.fs.getD i frz).r = x.r ∧ ((128 ≤ x.p) ↔ x.t = -1) ∧ (x.w = true → 128 ≤ x.p) := by
  rw [lnM_def, if_pos hv] at h
  simp only [Bool.and_eq_true, Bool.or_eq_true, decide_eq_true_eq] at h
  obtain ⟨⟨h1, h2⟩, h3⟩ := h
  have hw : x.w = true → 128 ≤ x.p := fun hw => by
    rcases h2 with h2 | h2
    · rw [hw] at h2; cases h2
    · exact h2
  cases hs : lnSp m x with
  | none => rw [hs] at h3; cases h3
  | some s =>
    rw [hs] at h3
    simp only at h3
    cases e : fnd m.t.fs (keyI s x.p) x.p with
    | none => rw [e] at h3; cases h3
    | some i =>
      rw [e] at h3
      simp only [Bool.and_eq_true, decide_eq_true_eq] at h3
      exact ⟨s, i, rfl, e, h3.1, h3.2, h1, hw⟩
theorem lnM_mk {m : Ma} {x : Ln} {s : Int} {i : Nat} (hs : lnSp m x = some s) (hf : fnd m.t.fs (keyI s x.p) x.p = some i) (hi : (i : Int) = x.f) (hr : (m.t.fs.getD i frz).r = x.r) (h1 : (128 ≤ x.p) ↔ x.t = -1) (hw : x.w = true → 128 ≤ x.p) : lnM m x = true := by
  rw [lnM_def]
  split
  · rw [hs]
    simp only
    rw [hf]
    simp only [Bool.and_eq_true, Bool.or_eq_true, decide_eq_true_eq]
    refine ⟨⟨h1, ?_⟩, hi, hr⟩
    cases hx : x.w with
    | false => exact .inl rfl
    | true => exact .inr (hw hx)
  · rfl
theorem lnM_keep {m m' : Ma} {x : Ln} (hg : m'.g = m.g) (hf : ∀ (s : Int) (i : Nat), lnSp m x = some s → fnd m.t.fs (keyI s x.p) x.p = some i → fnd m'.t.fs (keyI s x.p) x.p = some i ∧ (m'.t.fs.getD i frz).r = (m.t.fs.getD i frz).r) (h : lnM m x = true) : lnM m' x = true := by
  cases hv : x.v with
  | false => exact lnM_inv hv
  | true =>
    obtain ⟨s, i, a1, a2, a3, a4, a5, a6⟩ := lnM_some hv h
    obtain ⟨b1, b2⟩ := hf s i a1 a2
    exact lnM_mk (by unfold lnSp at a1 ⊢; rw [hg]; exact a1) b1 a3 (by rw [b2]; exact a4) a5 a6
/-- a valid machine, as what it says -/
structure MV (m : Ma) : Prop where
  t : TV m.t
  c : CV m.c
  g : tgv m.g = true
  o : 0 ≤ ownI m.g.os m.sp
  f : ∀ (i : Nat) (f : Fr), m.t.fs[i]? = some f → frM f = true
  l : ∀ (i : Nat) (x : Ln), m.c.ls[i]? = some x → lnM m x = true
theorem mav_MV {m : Ma} : mav m = true ↔ MV m := by
  constructor
  · intro h
    obtain ⟨a, b, c, d, e, f⟩ := mav_parts h
    exact ⟨tv_TV.1 a, cav_CV.1 b, c, d, fun i x hi => e x (List.mem_of_getElem? hi), fun i x hi => f x (List.mem_of_getElem? hi)⟩
  · intro h
    refine mav_end (tv_TV.2 h.t) (cav_CV.2 h.c) h.g h.o (fun f hf => ?_) (fun x hx => ?_)
    · obtain ⟨i, hi, e⟩ := List.getElem_of_mem hf
      exact h.f i f (by rw [List.getElem?_eq_getElem hi, e])
    · obtain ⟨i, hi, e⟩ := List.getElem_of_mem hx
      exact h.l i x (by rw [List.getElem?_eq_getElem hi, e])
theorem TV.fnd {t : Tab} (h : TV t) {s p : Int} {i : Nat} {f : Fr} (e : t.fs[i]? = some f) (hu : f.used = true) (hk : (f.s, f.p) = (s, p)) : fnd t.fs s p = some i := fnd_of (tv_parts (tv_TV.2 h)).2.1 e hu hk
theorem getD_at {fs : List Fr} {i : Nat} {f : Fr} (e : fs[i]? = some f) : fs.getD i frz = f := by rw [List.getD_eq_getElem?_getD, e]; rfl
/-- putting a page keeps a machine valid -/
theorem mav_put {m : Ma} {s p fr r : Int} (h : putOK m s p fr r = true) : mav (putV m s p fr r) = true := by
  have hV : putV m s p fr r = { m with t := mapV m.t s p fr r } := by unfold putV; rw [if_pos h]
  unfold putOK at h
  simp only [Bool.and_eq_true, decide_eq_true_eq] at h
  obtain ⟨⟨hm, hk⟩, hok⟩ := h
  have hT : mapV m.t s p fr r = mapT m.t s p fr r := by unfold mapV; rw [if_pos hok]
  unfold mapOK at hok
  simp only [Bool.and_eq_true] at hok
  obtain ⟨⟨⟨⟨⟨htv, hkv⟩, hnf⟩, hin⟩, hu⟩, hr⟩ := hok
  have M := mav_MV.1 hm
  have hnf' : fnd m.t.fs s p = none := by
    cases e : fnd m.t.fs s p with
    | none => rfl
    | some i => unfold fndI at hnf; rw [e] at hnf; simp at hnf
  obtain ⟨hi0, hi1⟩ := inR_iff.1 hin
  obtain ⟨k, rfl⟩ := Int.eq_ofNat_of_zero_le hi0
  rw [Int.toNat_natCast] at hu
  cases ef : m.t.fs[k]? with
  | none => rw [ef] at hu; cases hu
  | some f0 =>
  rw [ef] at hu
  have hu0 : f0.used = false := by simpa using hu
  have hTV := M.t.map hkv hnf' ef hu0 hr
  have hmt : mapT m.t s p (k : Int) r = ⟨m.t.bs.set (bkt m.t s p) k, m.t.fs.set k ⟨true, s, p, r, m.t.bs.getD (bkt m.t s p) 0⟩⟩ := by unfold mapT; rw [Int.toNat_natCast]
  rw [hV, hT, hmt]
  have hkl := (List.getElem?_eq_some_iff.1 ef).1
  refine mav_MV.2 ⟨hTV, M.c, M.g, M.o, fun i f hi => ?_, fun i x hi => ?_⟩
  · simp only at hi
    rw [List.getElem?_set] at hi
    split at hi
    · injection hi with hi
      rw [← hi]
      unfold frM
      unfold keyI at hk
      by_cases h128 : 128 ≤ p
      · rw [if_pos h128] at hk
        simp [← hk]
      · simp [h128]
    · exact M.f i f hi
  · refine lnM_keep (m := m) rfl (fun s' j hs' hj => ?_) (M.l i x hi)
    obtain ⟨f, e1, e2, e3⟩ := fnd_some hj
    have hne : k ≠ j := by rintro rfl; rw [ef] at e1; injection e1 with e1; rw [e1, e2] at hu0; cases hu0
    have e4 : (m.t.fs.set k ⟨true, s, p, r, m.t.bs.getD (bkt m.t s p) 0⟩)[j]? = some f := by rw [List.getElem?_set, if_neg hne]; exact e1
    exact ⟨hTV.fnd e4 e2 e3, by rw [getD_at e4, getD_at e1]⟩
/-- a line that is left when a page's line is dropped has another key -/
theorem MV.apart {m : Ma} (M : MV m) {s p : Int} {i : Nat} {x : Ln} (hi : (drpC m s p).ls[i]? = some x) (hv : x.v = true) :
    m.c.ls[i]? = some x ∧ ∀ s', lnSp m x = some s' → ¬ (keyI s' x.p, x.p) = (s, p) := by
  have key : ∀ (y : Ln), m.c.ls[i]? = some y → y.v = true → ∀ s', lnSp m y = some s' → (keyI s' y.p, y.p) = (s, p) → tagO m s p = true ∧ fits (tagT m s p) p y = true := by
    intro y hy hyv s' hs' hkk
    obtain ⟨_, _, a1, a2, a3, a4, a5, a6⟩ := lnM_some hyv (M.l i y hy)
    injection hkk with hk1 hk2
    by_cases h128 : 128 ≤ p
    · have ht : y.t = -1 := a5.1 (by rw [hk2]; exact h128)
      exact ⟨if_pos h128, fits_iff.2 ⟨hyv, hk2, .inr ht⟩⟩
    · unfold lnSp at hs'
      rw [if_neg (by rw [hk2]; exact h128)] at hs'
      cases es : spc m.g.os y.t with
      | none => rw [es] at hs'; cases hs'
      | some j =>
        rw [es] at hs'
        injection hs' with hs'
        unfold spc at es
        obtain ⟨hj, hj1, _⟩ := List.findIdx?_eq_some_iff_getElem.1 es
        have ej : m.g.os[j]? = some m.g.os[j] := List.getElem?_eq_getElem hj
        rw [List.getD_eq_getElem?_getD, ej] at hs'
        simp only [Option.getD_some] at hs'
        have hj1 : m.g.os[j].2 = y.t := by simpa using hj1
        have hks : keyI s' y.p = s' := by unfold keyI; rw [if_neg (by rw [hk2]; exact h128)]
        rw [hks] at hk1
        have hos : m.g.os[j].1 = s := by rw [hs', hk1]
        obtain ⟨k, o, hk3, ek, hk4⟩ : ∃ (k : Nat) (o : Int × Int), ownI m.g.os s = (k : Int) ∧ m.g.os[k]? = some o ∧ o.1 = s := by
          refine ownI_lt ?_
          unfold ownI
          cases eo : own m.g.os s with
          | some _ => simp
          | none =>
            unfold own at eo
            rw [List.findIdx?_eq_none_iff] at eo
            have := eo _ (List.mem_of_getElem? ej)
            rw [hos] at this
            simp at this
        have hkj : k = j := by
          obtain ⟨_, ht⟩ := tgv_parts M.g
          rcases Nat.lt_trichotomy k j with hlt | heq | hlt
          · obtain ⟨q, eq, _, _, _, _, hq⟩ := tok_at ht hj
            rw [ej] at eq
            injection eq with eq
            exact absurd (by rw [← eq, hos, hk4]) (hq k o hlt ek)
          · exact heq
          · obtain ⟨q, eq, _, _, _, _, hq⟩ := tok_at ht (List.getElem?_eq_some_iff.1 ek).1
            rw [ek] at eq
            injection eq with eq
            exact absurd (by rw [← eq, hos, hk4]) (hq j _ hlt ej)
        subst hkj
        obtain ⟨b1, b2⟩ := tgO_yes M.g hk3 ek
        rw [ej] at ek
        injection ek with ek
        refine ⟨by unfold tagO; rw [if_neg h128]; exact b1, fits_iff.2 ⟨hyv, hk2, .inl ?_⟩⟩
        unfold tagT
        rw [if_neg h128, b2, ← ek, hj1]
  unfold drpC at hi
  split at hi
  · rename_i hh
    simp only at hi
    rw [List.getElem?_set] at hi
    split at hi
    · split at hi
      · injection hi with hi
        rw [← hi] at hv
        cases hv
      · cases hi
    · rename_i hne
      refine ⟨hi, fun s' hs' hkk => ?_⟩
      obtain ⟨_, hf⟩ := key x hi hv s' hs' hkk
      obtain ⟨k, y, e1, e2, e3⟩ := plcI_lt hh.2
      have := M.c.once hi e2 hf e3
      rw [e1, Int.toNat_natCast] at hne
      exact hne this.symm
  · rename_i hh
    refine ⟨hi, fun s' hs' hkk => ?_⟩
    obtain ⟨h1, hf⟩ := key x hi hv s' hs' hkk
    by_cases hp : 0 ≤ plcI m.c.ls (tagT m s p) p
    · exact hh ⟨h1, hp⟩
    · rw [plcI_none hp hi] at hf; cases hf
theorem MV.drp {m : Ma} (M : MV m) (s p : Int) : CV (drpC m s p) := by
  unfold drpC
  split
  · exact M.c.drop _
  · exact M.c
theorem fOK_at {t : Tab} {s p : Int} (h : fOK t s p = true) : ∃ (k : Nat) (f : Fr), fndI t.fs s p = (k : Int) ∧ fnd t.fs s p = some k ∧ t.fs[k]? = some f ∧ f.used = true ∧ (f.s, f.p) = (s, p) ∧ kval (s, p) = true := by
  unfold fOK at h
  simp only [Bool.and_eq_true, decide_eq_true_eq] at h
  obtain ⟨⟨_, hk⟩, h3⟩ := h
  unfold fndI at h3 ⊢
  cases e : fnd t.fs s p with
  | none => rw [e] at h3; simp at h3
  | some i =>
    obtain ⟨f, a, b, c⟩ := fnd_some e
    exact ⟨i, f, rfl, rfl, a, b, c, hk⟩
theorem MV.shared {m : Ma} (M : MV m) {s p : Int} {k : Nat} {f : Fr} (e : m.t.fs[k]? = some f) (hu : f.used = true) (hk : (f.s, f.p) = (s, p)) : 128 ≤ p → s = 0 := by
  intro h
  have := M.f k f e
  injection hk with h1 h2
  unfold frM at this
  rw [hu, h1, h2, decide_eq_true h] at this
  simpa using this
/-- giving a page other rights keeps a machine valid -/
theorem mav_grd {m : Ma} {s p r : Int} (h : grdO m s p r = true) : mav (grdV m s p r) = true := by
  have hV : grdV m s p r = drpM m (prV m.t s p r) s p := by unfold grdV; rw [if_pos h]
  unfold grdO at h
  rw [Bool.and_eq_true] at h
  obtain ⟨hm, hok⟩ := h
  have hT : prV m.t s p r = prT m.t s p r := by unfold prV; rw [if_pos hok]
  unfold prOK at hok
  rw [Bool.and_eq_true] at hok
  obtain ⟨hf, hr⟩ := hok
  have M := mav_MV.1 hm
  obtain ⟨k, f, hk, hk', ef, hu, hkk, hkv⟩ := fOK_at hf
  have hpt : prT m.t s p r = ⟨m.t.bs, m.t.fs.set k { f with r := r }⟩ := by
    unfold prT
    rw [hk, Int.toNat_natCast]
    simp only [getD_at ef]
  have hTV := M.t.rights (r := r) ef hu hr
  have hkl := (List.getElem?_eq_some_iff.1 ef).1
  rw [hV, hT, hpt]
  refine mav_MV.2 ⟨hTV, M.drp s p, M.g, M.o, fun i g hi => ?_, fun i x hi => ?_⟩
  · simp only [drpM] at hi
    rw [List.getElem?_set] at hi
    split at hi
    · injection hi with hi
      rw [← hi]
      exact M.f k f ef
    · exact M.f i g hi
  · cases hv : x.v with
    | false => exact lnM_inv hv
    | true =>
      obtain ⟨e0, hne⟩ := M.apart hi hv
      refine lnM_keep (m := m) rfl (fun s' j hs' hj => ?_) (M.l i x e0)
      obtain ⟨g, e1, e2, e3⟩ := fnd_some hj
      have hkj : k ≠ j := by
        rintro rfl
        rw [ef] at e1
        injection e1 with e1
        subst e1
        exact hne s' hs' (e3.symm.trans hkk)
      have e4 : (m.t.fs.set k { f with r := r })[j]? = some g := by rw [List.getElem?_set, if_neg hkj]; exact e1
      exact ⟨hTV.fnd e4 e2 e3, by simp only [drpM]; rw [getD_at e4, getD_at e1]⟩
/-- taking a page keeps a machine valid -/
theorem mav_tak {m : Ma} {s p : Int} (h : takO m s p = true) : mav (takV m s p) = true := by
  have hV : takV m s p = drpM m (unmV m.t s p) s p := by unfold takV; rw [if_pos h]
  unfold takO at h
  rw [Bool.and_eq_true] at h
  obtain ⟨hm, hf⟩ := h
  have hT : unmV m.t s p = unmT m.t s p := by unfold unmV; rw [if_pos hf]
  have M := mav_MV.1 hm
  obtain ⟨k, f, hk, hk', ef, hu, hkk, hkv⟩ := fOK_at hf
  injection hkk with hk1 hk2
  have hTV := M.t.unmap ef hu (by rw [hk1, hk2]; exact hkv)
  have hut : unmT m.t s p = (if m.t.bs.getD (bkt m.t f.s f.p) 0 = (k : Int) then ⟨m.t.bs.set (bkt m.t f.s f.p) f.n, m.t.fs.set k frz⟩ else ⟨m.t.bs, (m.t.fs.map (relink k f.n)).set k frz⟩) := by
    unfold unmT
    simp only [hk, Int.toNat_natCast, getD_at ef, hk1, hk2]
  rw [← hut] at hTV
  have hkl := (List.getElem?_eq_some_iff.1 ef).1
  /- what the table's frames are now -/
  have hfr : ∀ j, (unmT m.t s p).fs[j]? = if k = j then some frz else (m.t.fs[j]?).map (fun g => if (m.t.bs.getD (bkt m.t f.s f.p) 0 = (k : Int)) then g else relink k f.n g) := by
    intro j
    rw [hut]
    split
    · simp only
      rw [List.getElem?_set]
      split
      · rfl
      · simp
    · simp only
      rw [List.getElem?_set]
      split
      · rw [if_pos (by simpa using hkl)]
      · rw [List.getElem?_map]
  have hre : ∀ g : Fr, (relink k f.n g).used = g.used ∧ (relink k f.n g).s = g.s ∧ (relink k f.n g).p = g.p ∧ (relink k f.n g).r = g.r := by
    intro g
    unfold relink
    split <;> exact ⟨rfl, rfl, rfl, rfl⟩
  have hsame : ∀ (j : Nat) (g : Fr), k ≠ j → m.t.fs[j]? = some g → ∃ g', (unmT m.t s p).fs[j]? = some g' ∧ g'.used = g.used ∧ g'.s = g.s ∧ g'.p = g.p ∧ g'.r = g.r := by
    intro j g hj eg
    refine ⟨_, by rw [hfr, if_neg hj, eg]; rfl, ?_⟩
    split
    · exact ⟨rfl, rfl, rfl, rfl⟩
    · exact hre g
  rw [hV, hT]
  refine mav_MV.2 ⟨hTV, M.drp s p, M.g, M.o, fun i g hi => ?_, fun i x hi => ?_⟩
  · simp only [drpM] at hi
    rw [hfr] at hi
    split at hi
    · injection hi with hi
      rw [← hi]; rfl
    · cases e : m.t.fs[i]? with
      | none => rw [e] at hi; cases hi
      | some g0 =>
        rw [e] at hi
        injection hi with hi
        have h0 := M.f i g0 e
        rw [← hi]
        split
        · exact h0
        · obtain ⟨r1, r2, r3, _⟩ := hre g0
          unfold frM at h0 ⊢
          rw [r1, r2, r3]; exact h0
  · cases hv : x.v with
    | false => exact lnM_inv hv
    | true =>
      obtain ⟨e0, hne⟩ := M.apart hi hv
      refine lnM_keep (m := m) rfl (fun s' j hs' hj => ?_) (M.l i x e0)
      obtain ⟨g, e1, e2, e3⟩ := fnd_some hj
      have hkj : k ≠ j := by
        rintro rfl
        rw [ef] at e1
        injection e1 with e1
        subst e1
        exact hne s' hs' (by rw [← e3, hk1, hk2])
      obtain ⟨g', b1, b2, b3, b4, b5⟩ := hsame j g hkj e1
      exact ⟨hTV.fnd b1 (by rw [b2, e2]) (by rw [b3, b4]; exact e3), by simp only [drpM]; rw [getD_at b1, getD_at e1, b5]⟩
end Go.Proofs.YtnaagdmaggdbmaaGreatDoor
namespace Go.Proofs.YtnaagdmaggdbmaaGreatDoor
open Go.RowKit
set_option maxRecDepth 1000000
theorem l4Fits_any (f : Ln) (tag page : Int) (w : World) : Calls Tryz.prog 201 #[lnV f, .int .i64 tag, .int .i64 page] w fun r w' => r = .returned (.bool (fits tag page f)) ∧ Below w.heap.size w w' := by
  unfold lnV
  cases hv : f.v with
  | false =>
    have H : Hid (fits tag page f = false) := by simp [Hid, fits, hv]
    go_enter Tryz.func201, Tryz.ntmps201
    go_wp2
    go_ret
    exact ⟨by rw [H.out]; rfl, bA bR⟩
  | true =>
    by_cases hp : f.p = page
    · by_cases ht : f.t = tag
      · have H : Hid (fits tag page f = true) := by simp [Hid, fits, hv, hp, ht]
        go_enter Tryz.func201, Tryz.ntmps201
        go_wp2
        go_ret
        exact ⟨by rw [H.out]; rfl, bA bR⟩
      · have H : Hid (fits tag page f = (f.t == tag || f.t == -1)) := by
          show _ = _
          rw [beq_eq_false_iff_ne.2 ht, Bool.false_or]
          simp [fits, hv, hp, ht]
          by_cases h : f.t = -1 <;> simp [h]
        go_enter Tryz.func201, Tryz.ntmps201
        go_wp2
        go_ret
        exact ⟨by rw [H.out]; rfl, bA bR⟩
    · have H : Hid (fits tag page f = false) := by simp [Hid, fits, hp]
      go_enter Tryz.func201, Tryz.ntmps201
      go_wp2
      go_ret
      exact ⟨by rw [H.out]; rfl, bA bR⟩
set_option maxHeartbeats 2000000 in
theorem l4Find_any (vl : Value) (c : Ca) (tag page : Int) (w : World) (hT : SlR lnE w vl c.ls) :
    Calls Tryz.prog 143 #[.agg #[vl, .int .i64 c.hand], .int .i64 tag, .int .i64 page] w fun r w' => r = .returned (.int .i64 (plcI c.ls tag page)) ∧ Below w.heap.size w w' := by
  obtain ⟨A, cc, rfl, hbc, hbm, hL⟩ := hT
  have hfm2 : c.ls.length ≤ 9223372036854775807 := by unfold maxLen at hbm; omega
  have HL := Lib.hid hL
  have hbx := Own.new_ w 29 #[.slice A c.ls.length cc, .int .i64 c.hand]
  have hbz : Below w.heap.size w (w.alloc (.cells #[.slice A c.ls.length cc, .int .i64 c.hand] 29)) := bA bR
  generalize hW : w.alloc (.cells #[.slice A c.ls.length cc, .int .i64 c.hand] 29) = W0 at hbx hbz
  have q0 := hbx.cell_ 0 (v := .slice A c.ls.length cc) rfl
  have q1 := hbx.cell_ 1 (v := .int .i64 c.hand) rfl
  have HBX := Lib.hid hbx
  clear hL hbx
  clear q0 q1
  rw [← pix_plc]
  go_enter Tryz.func143, Tryz.ntmps143
  go_wp2
  go_loopw [7] (fun u wr => ∃ k : Nat, k ≤ c.ls.length ∧ u = .int .i64 k ∧ Hid (∀ (j : Nat) (q : Ln), j < k → c.ls[j]? = some q → fits tag page q = false) ∧ Own wr w.heap.size 29 #[.slice A c.ls.length cc, .int .i64 c.hand] ∧ Below w.heap.size w wr) (fun u _ => c.ls.length - (intOf u).toNat)
  case atStart => exact ⟨0, by omega, rfl, (fun j q h => absurd h (by omega)), HBX.out, hbz⟩
  case round =>
    obtain ⟨k, hk, rfl, hacc, hbox, hbi⟩ := hrel
    have q0 := hbox.cell_ 0 (v := .slice A c.ls.length cc) rfl
    by_cases hlt : k < c.ls.length
    · obtain ⟨o, eo⟩ : ∃ o, c.ls[k]? = some o := ⟨_, List.getElem?_eq_getElem hlt⟩
      obtain ⟨b, ob, rfl, hbb, d0, d1, d2, d3, d4, d5⟩ := (HL.out.below hbi).ln eo
      have HBOX := Lib.hid hbox
      have EO := Lib.hid eo
      clear hbox eo
      go_wp2_with fail
      refine (l4Fits_any o tag page _).mono ?_
      rintro e w2 ⟨rfl, hb2⟩
      have HB2 := Lib.hid (bT hbi hb2)
      have HBOX2 := Lib.hid (HBOX.out.below hb2)
      clear hb2 q0 d0 d1 d2 d3 d4 d5
      cases ht : fits tag page o with
      | true =>
        have H := Lib.hid (pix_at EO.out hacc.out ht)
        go_wp2
        go_ret
        exact ⟨by rw [H.out]; rfl, HB2.out⟩
      | false =>
        have HACC := Lib.hid (pix_step EO.out hacc.out ht)
        go_wp2
        go_roundw
        case rel => exact ⟨k + 1, by omega, by go_num, HACC, HBOX2.out, HB2.out⟩
        case measure => simp [intOf]; omega
    · have H := Lib.hid (pix_none (Nat.le_of_not_lt hlt) hacc.out)
      clear hbox
      go_wp2
      go_ret
      exact ⟨by rw [H.out]; rfl, hbi⟩
theorem l4Tag_any (n : Int) (w : World) : Calls Tryz.prog 216 #[.int .i64 n] w fun r w' => r = .returned (.bool (tagv n)) ∧ w = w' := by
  by_cases h1 : -1 ≤ n
  · by_cases h2 : n < 8
    · have H := Lib.hid (tagv_iff.2 ⟨h1, h2⟩)
      go_enter Tryz.func216, Tryz.ntmps216
      go_wp2
      go_ret
      exact ⟨by rw [H.out]; rfl, rfl⟩
    · have H := Lib.hid (tagv_no (n := n) (fun h => h2 h.2))
      go_enter Tryz.func216, Tryz.ntmps216
      go_wp2
      go_ret
      exact ⟨by rw [H.out]; rfl, rfl⟩
  · have H := Lib.hid (tagv_no (n := n) (fun h => h1 h.1))
    go_enter Tryz.func216, Tryz.ntmps216
    go_wp2
    go_ret
    exact ⟨by rw [H.out]; rfl, rfl⟩
/-- dropping a page's line -/
def dpO (c : Ca) (t p : Int) : Bool := cav c && tagv t && inR p 256 && decide (0 ≤ plcI c.ls t p)
def dpV (c : Ca) (t p : Int) : Ca := if dpO c t p = true then ⟨c.ls.set (plcI c.ls t p).toNat lnz, c.hand⟩ else caz
def flV (c : Ca) (t p : Int) : Int := if dpO c t p = true then plcI c.ls t p else 0
theorem flV_no {c : Ca} {t p : Int} (h : dpO c t p = false) : flV c t p = 0 := by unfold flV; rw [h]; rfl
theorem dpV_no {c : Ca} {t p : Int} (h : dpO c t p = false) : dpV c t p = caz := by unfold dpV; rw [h]; rfl
set_option maxHeartbeats 2000000 in
theorem sFindLine_any (vl : Value) (c : Ca) (tag page : Int) (w : World) (hT : SlR lnE w vl c.ls) :
    Calls Tryz.prog 211 #[.agg #[vl, .int .i64 c.hand], .int .i64 tag, .int .i64 page] w fun r w' => r = .returned (.tuple #[.int .i64 (flV c tag page), .bool (dpO c tag page)]) ∧ Below w.heap.size w w' := by
  have HV := Lib.hid hT
  obtain ⟨A, cc, rfl, hbc, hbm, hL⟩ := hT
  have HL := Lib.hid hL
  have hbx := Own.new_ w 29 #[.slice A c.ls.length cc, .int .i64 c.hand]
  have hbz : Below w.heap.size w (w.alloc (.cells #[.slice A c.ls.length cc, .int .i64 c.hand] 29)) := bA bR
  generalize hW : w.alloc (.cells #[.slice A c.ls.length cc, .int .i64 c.hand] 29) = W0 at hbx hbz
  have q0 := hbx.cell_ 0 (v := .slice A c.ls.length cc) rfl
  have q1 := hbx.cell_ 1 (v := .int .i64 c.hand) rfl
  have HBX := Lib.hid hbx
  clear hL hbx
  go_enter Tryz.func211, Tryz.ntmps211
  go_wp2_with fail
  refine (sCacheValid_any _ c _ (HV.out.now hbz)).mono ?_
  rintro e w1 ⟨rfl, hb1⟩
  have HX1 := Lib.hid (HBX.out.below hb1)
  have HB1 := Lib.hid (bT hbz hb1)
  clear hb1 q0 q1
  cases h1 : cav c with
  | false =>
    have E1 : Hid (dpO c tag page = false) := by show _ = _; unfold dpO; rw [h1]; rfl
    have E2 := Lib.hid (flV_no E1.out)
    go_wp2
    go_ret2
    exact ⟨by rw [E1.out, E2.out]; rfl, HB1.out⟩
  | true =>
    go_wp2_with fail
    refine (l4Tag_any _ _).mono ?_
    rintro e w' ⟨rfl, rfl⟩
    cases h2 : tagv tag with
    | false =>
      have E1 : Hid (dpO c tag page = false) := by show _ = _; unfold dpO; rw [h2]; simp
      have E2 := Lib.hid (flV_no E1.out)
      go_wp2
      go_ret2
      exact ⟨by rw [E1.out, E2.out]; rfl, HB1.out⟩
    | true =>
      go_wp2_with fail
      refine (l1Page_any _ _).mono ?_
      rintro e w' ⟨rfl, rfl⟩
      cases h3 : inR page 256 with
      | false =>
        have E1 : Hid (dpO c tag page = false) := by show _ = _; unfold dpO; rw [h3]; simp
        have E2 := Lib.hid (flV_no E1.out)
        go_wp2
        go_ret2
        exact ⟨by rw [E1.out, E2.out]; rfl, HB1.out⟩
      | true =>
        have q0 := HX1.out.cell_ 0 (v := .slice A c.ls.length cc) rfl
        have q1 := HX1.out.cell_ 1 (v := .int .i64 c.hand) rfl
        go_wp2_with fail
        refine (l4Find_any _ c tag page _ (HV.out.now HB1.out)).mono ?_
        rintro e w2 ⟨rfl, hb2⟩
        have HB2 := Lib.hid (bT HB1.out hb2)
        clear hb2 q0 q1
        by_cases h4 : 0 ≤ plcI c.ls tag page
        · have E1 : Hid (dpO c tag page = true) := by show _ = _; unfold dpO; rw [h1, h2, h3, decide_eq_true h4]; rfl
          have E2 : Hid (flV c tag page = plcI c.ls tag page) := by show _ = _; unfold flV; rw [E1.out]; rfl
          have h4b : ¬ plcI c.ls tag page < 0 := by omega
          go_wp2
          go_ret2
          exact ⟨by rw [E1.out, E2.out]; rfl, HB2.out⟩
        · have E1 : Hid (dpO c tag page = false) := by show _ = _; unfold dpO; rw [decide_eq_false h4]; simp
          have E2 := Lib.hid (flV_no E1.out)
          have h4b : plcI c.ls tag page < 0 := by omega
          go_wp2
          go_ret2
          exact ⟨by rw [E1.out, E2.out]; rfl, HB2.out⟩
end Go.Proofs.YtnaagdmaggdbmaaGreatDoor
namespace Go.Proofs.YtnaagdmaggdbmaaGreatDoor
open Go.RowKit
set_option maxRecDepth 1000000
set_option maxHeartbeats 4000000 in
theorem sDropPage_any (vl : Value) (c : Ca) (tag page : Int) (w : World) (hT : SlR lnE w vl c.ls) :
    Calls Tryz.prog 193 #[.agg #[vl, .int .i64 c.hand], .int .i64 tag, .int .i64 page] w (Post2 fun v w' => ∃ v1, v = .tuple #[.agg #[v1, .int .i64 (dpV c tag page).hand], .bool (dpO c tag page)] ∧ SlM lnE 106 w.heap.size w' v1 (dpV c tag page).ls ∧ Below w.heap.size w w') := by
  have HV := Lib.hid hT
  obtain ⟨A, cc, rfl, hbc, hbm, hL⟩ := hT
  have HL := Lib.hid hL
  have hbx := (Own.new_ w 29 #[.slice A c.ls.length cc, .int .i64 c.hand]).alloc (o := .cells #[.slice none 0 0, .int .i64 0] 29)
  have hbo := ownAt (W := w.alloc (.cells #[.slice A c.ls.length cc, .int .i64 c.hand] 29)) (g := w.heap.size + 1) (t := 29) (cs := #[.slice none 0 0, .int .i64 0]) (by simp)
  have hb0 : Below w.heap.size w ((w.alloc (.cells #[.slice A c.ls.length cc, .int .i64 c.hand] 29)).alloc (.cells #[.slice none 0 0, .int .i64 0] 29)) := bA (bA bR)
  have hs0 : ((w.alloc (.cells #[.slice A c.ls.length cc, .int .i64 c.hand] 29)).alloc (.cells #[.slice none 0 0, .int .i64 0] 29)).heap.size = w.heap.size + 2 := by simp
  generalize hW : (w.alloc (.cells #[.slice A c.ls.length cc, .int .i64 c.hand] 29)).alloc (.cells #[.slice none 0 0, .int .i64 0] 29) = W0 at hbx hbo hb0 hs0
  have q0 := hbx.cell_ 0 (v := .slice A c.ls.length cc) rfl
  have q1 := hbx.cell_ 1 (v := .int .i64 c.hand) rfl
  have HX0 := Lib.hid hbx
  have HR0 := Lib.hid hbo
  have HB0 := Lib.hid hb0
  have HS0 : Hid (w.heap.size + 2 ≤ W0.heap.size) := Nat.le_of_eq hs0.symm
  clear hbx hbo hb0 hL
  go_enter Tryz.func193, Tryz.ntmps193
  go_wp2_with fail
  refine (sFindLine_any _ c tag page _ (HV.out.now HB0.out)).mono ?_
  rintro e w1 ⟨rfl, hb1⟩
  have HX1 := Lib.hid (HX0.out.below hb1)
  have HR1 := Lib.hid (HR0.out.below hb1)
  have HB1 := Lib.hid (bT HB0.out hb1)
  have HS1 := Lib.hid (Nat.le_trans HS0.out hb1.size)
  clear hb1
  clear q0 q1
  cases h1 : dpO c tag page with
  | false =>
    have HD := Lib.hid (dpV_no h1)
    have hl1 := HR1.out.lt
    have r0 := HR1.out.cell_ 0 (v := .slice none 0 0) rfl
    have r1 := HR1.out.cell_ 1 (v := .int .i64 0) rfl
    have f0 := HR1.out.free 0
    have f1 := HR1.out.free 1
    go_wp2
    have o3 := (HR1.out.set_ 0 (.slice none 0 0)).set_ 1 (.int .i64 0)
    have t0 := o3.cell_ 0 (v := .slice none 0 0) rfl
    have t1 := o3.cell_ 1 (v := .int .i64 0) rfl
    refine bodyPost_ret (v := .tuple #[.agg #[.slice none 0 0, .int .i64 0], .bool false]) (by simp [results, Tryz.results193, go_sem, t0, t1]) rfl ⟨_, rfl, _, by rw [HD.out, h1]; rfl, by rw [HD.out]; exact SlM.nil_ _, bS (bS HB1.out (by simp)) (by simp)⟩
  | true =>
    have h2 := h1
    unfold dpO at h2
    simp only [Bool.and_eq_true, decide_eq_true_eq] at h2
    obtain ⟨⟨⟨hcv, _⟩, _⟩, h4⟩ := h2
    have hcl := (cav_parts hcv).2.1
    obtain ⟨k, x, hk, ex, _⟩ := plcI_lt h4
    have HD : Hid (dpV c tag page = ⟨c.ls.set k lnz, c.hand⟩) := by show _ = _; unfold dpV; rw [h1, if_pos rfl, hk, Int.toNat_natCast]
    have HF : Hid (flV c tag page = (k : Int)) := by show _ = _; unfold flV; rw [h1, if_pos rfl, hk]
    rw [HF.out]
    have hkl := (List.getElem?_eq_some_iff.1 ex).1
    have EX := Lib.hid ex
    clear hk ex h4 hcv HF
    have q0 := HX1.out.cell_ 0 (v := .slice A c.ls.length cc) rfl
    have q1 := HX1.out.cell_ 1 (v := .int .i64 c.hand) rfl
    go_wp2_with fail
    refine (l4Copy_any _ c _ (HV.out.now HB1.out) (by omega)).mono ?_
    rintro e w2 ⟨_, rfl, v1, rfl, hM2, hb2⟩
    have hs1 := HS1.out
    have hlt1 := HR1.out.lt
    obtain ⟨A2, c2, rfl, l2, k2, m2⟩ := hM2
    obtain ⟨g2, cs2, rfl, hg2, O2, _⟩ := m2.own (by omega)
    have HX2 := Lib.hid (HX1.out.below hb2)
    have HR2 := Lib.hid (HR1.out.below hb2)
    have HB2 := Lib.hid (bT HB1.out hb2)
    have HS2 := Lib.hid (Nat.le_trans HS1.out hb2.size)
    clear hb2
    clear q0 q1
    have ho5 := Own.new_ w2 29 #[.slice (some ⟨g2, 0, none⟩) c.ls.length c2, .int .i64 c.hand]
    have hb5 : Below w2.heap.size w2 (w2.alloc (.cells #[.slice (some ⟨g2, 0, none⟩) c.ls.length c2, .int .i64 c.hand] 29)) := bA bR
    generalize hW5 : w2.alloc (.cells #[.slice (some ⟨g2, 0, none⟩) c.ls.length c2, .int .i64 c.hand] 29) = w5 at ho5 hb5
    have M5 := m2.below hb5
    have O5 := O2.below hb5
    have HX5 := Lib.hid (HX2.out.below hb5)
    have HR5 := Lib.hid (HR2.out.below hb5)
    have HB5 := Lib.hid (bT HB2.out hb5)
    have HS5 := Lib.hid (Nat.le_trans HS2.out hb5.size)
    clear hb5
    clear m2 O2
    have o50 := ho5.cell_ 0 (v := .slice (some ⟨g2, 0, none⟩) c.ls.length c2) rfl
    have o51 := ho5.cell_ 1 (v := .int .i64 c.hand) rfl
    have z0 := O5.free (k * 6)
    have z1 := O5.free (k * 6 + 1)
    have z2 := O5.free (k * 6 + 2)
    have z3 := O5.free (k * 6 + 3)
    have z4 := O5.free (k * 6 + 4)
    have z5 := O5.free (k * 6 + 5)
    obtain ⟨bq, oq, eq1, _, y0, y1, y2, y3, y4, y5⟩ := M5.is.ln EX.out
    injection eq1 with eq1
    injection eq1 with eq1 eq2
    subst eq1 eq2
    rw [Nat.zero_add] at y0 y1 y2 y3 y4 y5
    have HM5 := Lib.hid M5
    have HO5 := Lib.hid ho5
    have hne : w2.heap.size ≠ g2 := HO5.out.ne O5 (by decide)
    have hne2 : g2 ≠ w2.heap.size := fun h => hne h.symm
    have hlo := HO5.out.lt
    have q3 : w.heap.size + 1 ≠ g2 := HR5.out.ne O5 (by decide)
    have q4 : g2 ≠ w.heap.size + 1 := fun h => q3 h.symm
    have hlr := HR5.out.lt
    have r0 := HR5.out.cell_ 0 (v := .slice none 0 0) rfl
    have r1 := HR5.out.cell_ 1 (v := .int .i64 0) rfl
    have f0 := HR5.out.free 0
    have f1 := HR5.out.free 1
    have HML := Lib.hid (HM5.out.wln hkl lnz)
    clear M5 O5 ho5
    go_wp2
    have g1 := ((((((HR5.out.far (p := ⟨g2, k * 6, none⟩) (u := .bool false) q3).far (p := ⟨g2, k * 6 + 1, none⟩) (u := .int .i64 0) q3).far (p := ⟨g2, k * 6 + 2, none⟩) (u := .int .i64 0) q3).far (p := ⟨g2, k * 6 + 3, none⟩) (u := .int .i64 0) q3).far (p := ⟨g2, k * 6 + 4, none⟩) (u := .int .i64 0) q3).far (p := ⟨g2, k * 6 + 5, none⟩) (u := .bool false) q3)
    have o3 := (g1.set_ 0 (.slice (some ⟨g2, 0, none⟩) c.ls.length c2)).set_ 1 (.int .i64 c.hand)
    have t0 := o3.cell_ 0 (v := .slice (some ⟨g2, 0, none⟩) c.ls.length c2) rfl
    have t1 := o3.cell_ 1 (v := .int .i64 c.hand) rfl
    refine bodyPost_ret (v := .tuple #[.agg #[.slice (some ⟨g2, 0, none⟩) c.ls.length c2, .int .i64 c.hand], .bool true]) (by simp [results, Tryz.results193, go_sem, t0, t1]) rfl ⟨_, rfl, _, by rw [HD.out, h1], ?_, ?_⟩
    · rw [HD.out]
      exact (slm_of (by simp) (by simpa using l2) k2 ((HML.out.far (p := ⟨w.heap.size + 1, 0, none⟩) (u := .slice (some ⟨g2, 0, none⟩) c.ls.length c2) hlt1).far (p := ⟨w.heap.size + 1, 1, none⟩) (u := .int .i64 c.hand) hlt1)).mono (by have := HB1.out.size; omega)
    · repeat (refine bS ?_ (by simp <;> omega))
      exact HB5.out
/-- what the cache of a machine has forgotten -/
theorem tagT_ok {m : Ma} (h : tgv m.g = true) (s p : Int) : tagv (tagT m s p) = true := by
  unfold tagT
  split
  · decide
  · unfold tgT
    split
    · rename_i h1
      unfold tgO at h1
      simp only [Bool.and_eq_true, decide_eq_true_eq] at h1
      obtain ⟨k, o, hk, eo, _⟩ := ownI_lt h1.2
      obtain ⟨b, ht⟩ := tgv_parts h
      obtain ⟨q, eq, _, q1, q2, _⟩ := tok_at ht (List.getElem?_eq_some_iff.1 eo).1
      rw [eo] at eq
      injection eq with eq
      subst eq
      rw [hk, Int.toNat_natCast, List.getD_eq_getElem?_getD, eo]
      exact tagv_iff.2 ⟨by simp only [Option.getD_some]; omega, by simp only [Option.getD_some]; omega⟩
    · decide
end Go.Proofs.YtnaagdmaggdbmaaGreatDoor
namespace Go.Proofs.YtnaagdmaggdbmaaGreatDoor
open Go.RowKit
/-! ### the line that is replaced next -/
theorem vf_step {ls : List Ln} {k a : Nat} {x : Ln} (e : ls[a]? = some x) (h : x.w = true) : vicFrom ls (k + 1) a = vicFrom ls k ((a + 1) % ls.length) := by
  rw [vicFrom, e]
  simp only [h, if_true]
theorem vf_stop {ls : List Ln} {k a : Nat} {x : Ln} (e : ls[a]? = some x) (h : x.w = false) : vicFrom ls (k + 1) a = a := by
  rw [vicFrom, e]
  simp [h]
/-- after j wired lines from the hand on -/
def VSt (c : Ca) (j a : Nat) : Prop := a = (c.hand.toNat + j) % c.ls.length ∧ j ≤ c.ls.length ∧ vicFrom c.ls c.ls.length c.hand.toNat = vicFrom c.ls (c.ls.length - j) a ∧ ∀ i, i < j → ∃ x : Ln, c.ls[(c.hand.toNat + i) % c.ls.length]? = some x ∧ x.w = true
theorem vst_zero {c : Ca} (h : CV c) : VSt c 0 c.hand.toNat := by
  obtain ⟨h1, h2⟩ := inR_iff.1 h.hand
  exact ⟨by rw [Nat.add_zero, Nat.mod_eq_of_lt (by omega)], Nat.zero_le _, rfl, fun i hi => absurd hi (by omega)⟩
theorem vst_lt {c : Ca} (h : CV c) {j a : Nat} (hs : VSt c j a) : j < c.ls.length := by
  obtain ⟨_, h2, _, h4⟩ := hs
  rcases Nat.lt_or_ge j c.ls.length with hlt | hge
  · exact hlt
  · exfalso
    obtain ⟨i, x, e, hw⟩ := h.loose
    have hi := (List.getElem?_eq_some_iff.1 e).1
    have hn : 0 < c.ls.length := by omega
    let q := (i + c.ls.length * (c.hand.toNat + 1) - c.hand.toNat) % c.ls.length
    have hle : c.hand.toNat ≤ c.ls.length * (c.hand.toNat + 1) := Nat.le_trans (Nat.le_succ _) (Nat.le_mul_of_pos_left _ hn)
    have hq : q < c.ls.length := Nat.mod_lt _ hn
    have hqi : (c.hand.toNat + q) % c.ls.length = i := by
      show (c.hand.toNat + (i + c.ls.length * (c.hand.toNat + 1) - c.hand.toNat) % c.ls.length) % c.ls.length = i
      rw [Nat.add_mod_mod, show c.hand.toNat + (i + c.ls.length * (c.hand.toNat + 1) - c.hand.toNat) = i + c.ls.length * (c.hand.toNat + 1) by omega, Nat.add_mul_mod_self_left, Nat.mod_eq_of_lt hi]
    obtain ⟨y, e2, hy⟩ := h4 q (by omega)
    rw [hqi, e] at e2
    injection e2 with e2
    rw [← e2, hw] at hy
    cases hy
theorem vst_in {c : Ca} (h : CV c) {j a : Nat} (hs : VSt c j a) : a < c.ls.length := by
  rw [hs.1]
  exact Nat.mod_lt _ (by have := h.sz; omega)
theorem vst_step {c : Ca} (h : CV c) {j a : Nat} {x : Ln} (hs : VSt c j a) (e : c.ls[a]? = some x) (hw : x.w = true) : VSt c (j + 1) ((a + 1) % c.ls.length) := by
  have hj := vst_lt h hs
  obtain ⟨h1, h2, h3, h4⟩ := hs
  refine ⟨by rw [h1, Nat.mod_add_mod, Nat.add_assoc], hj, ?_, fun i hi => ?_⟩
  · rw [h3, show c.ls.length - j = (c.ls.length - (j + 1)) + 1 by omega]
    exact vf_step e hw
  · rcases Nat.lt_or_ge i j with hlt | hge
    · exact h4 i hlt
    · obtain rfl : i = j := by omega
      exact ⟨x, by rw [← h1]; exact e, hw⟩
theorem vst_stop {c : Ca} (h : CV c) {j a : Nat} {x : Ln} (hs : VSt c j a) (e : c.ls[a]? = some x) (hw : x.w = false) : vicFrom c.ls c.ls.length c.hand.toNat = a := by
  have hj := vst_lt h hs
  rw [hs.2.2.1, show c.ls.length - j = (c.ls.length - (j + 1)) + 1 by omega]
  exact vf_stop e hw
/-- the first free line -/
theorem vic_free {c : Ca} {k : Nat} {x : Ln} (e : c.ls[k]? = some x) (h : ∀ (j : Nat) (y : Ln), j < k → c.ls[j]? = some y → y.v = true) (hx : x.v = false) : vic c = k := by
  have : c.ls.findIdx? (fun x => !x.v) = some k := by
    rw [List.findIdx?_eq_some_iff_getElem]
    obtain ⟨hlt, he⟩ := List.getElem?_eq_some_iff.1 e
    refine ⟨hlt, by rw [he, hx]; rfl, fun j hj => ?_⟩
    rw [h j c.ls[j] hj (List.getElem?_eq_getElem (by omega))]
    decide
  unfold vic
  rw [this]
theorem vic_full {c : Ca} (h : ∀ (j : Nat) (y : Ln), j < c.ls.length → c.ls[j]? = some y → y.v = true) : vic c = vicFrom c.ls c.ls.length c.hand.toNat := by
  have : c.ls.findIdx? (fun x => !x.v) = none := by
    rw [List.findIdx?_eq_none_iff]
    intro x hx
    obtain ⟨j, hj, e⟩ := List.getElem_of_mem hx
    rw [h j x hj (by rw [List.getElem?_eq_getElem hj, e])]
    rfl
  unfold vic
  rw [this]
theorem vf_in {ls : List Ln} (hn : 0 < ls.length) : ∀ {k a : Nat}, a < ls.length → vicFrom ls k a < ls.length
  | 0, a, h => h
  | k + 1, a, h => by
    cases e : ls[a]? with
    | none => rw [vicFrom, e]; exact h
    | some x =>
      cases hw : x.w with
      | true => rw [vf_step e hw]; exact vf_in hn (Nat.mod_lt _ hn)
      | false => rw [vf_stop e hw]; exact h
theorem vic_in {c : Ca} (h : CV c) : vic c < c.ls.length := by
  unfold vic
  cases e : c.ls.findIdx? (fun x => !x.v) with
  | some i => exact (List.findIdx?_eq_some_iff_getElem.1 e).1
  | none =>
    obtain ⟨h1, h2⟩ := inR_iff.1 h.hand
    exact vf_in (by have := h.sz; omega) (by omega)
/-- the line that is replaced is not wired -/
theorem vf_loose {c : Ca} (h : CV c) : ∀ (k j a : Nat), c.ls.length - j ≤ k → VSt c j a → ∃ x : Ln, c.ls[vicFrom c.ls c.ls.length c.hand.toNat]? = some x ∧ x.w = false
  | 0, j, a, hk, hs => absurd (vst_lt h hs) (by omega)
  | k + 1, j, a, hk, hs => by
    obtain ⟨x, e⟩ : ∃ x, c.ls[a]? = some x := ⟨_, List.getElem?_eq_getElem (vst_in h hs)⟩
    cases hw : x.w with
    | true => exact vf_loose h k (j + 1) _ (by omega) (vst_step h hs e hw)
    | false => exact ⟨x, by rw [vst_stop h hs e hw]; exact e, hw⟩
theorem lnok_free {x : Ln} (h : lnok x = true) (hv : x.v = false) : x = lnz := by
  unfold lnok at h
  rw [hv] at h
  simpa using h
theorem vic_loose {c : Ca} (h : CV c) : ∃ x : Ln, c.ls[vic c]? = some x ∧ x.w = false := by
  cases e : c.ls.findIdx? (fun x => !x.v) with
  | some i =>
    obtain ⟨hi, h1, _⟩ := List.findIdx?_eq_some_iff_getElem.1 e
    have hv : vic c = i := by unfold vic; rw [e]
    have ei : c.ls[i]? = some c.ls[i] := List.getElem?_eq_getElem hi
    refine ⟨c.ls[i], by rw [hv]; exact ei, ?_⟩
    rw [lnok_free (h.ok i _ ei) (by simpa using h1)]
    rfl
  | none =>
    have hv : vic c = vicFrom c.ls c.ls.length c.hand.toNat := by unfold vic; rw [e]
    rw [hv]
    exact vf_loose h _ 0 _ (Nat.le_refl _) (vst_zero h)
/-- filling keeps a cache valid, if the line clashes with none -/
theorem CV.fill {c : Ca} (h : CV c) {x : Ln} (hx : lnok x = true) (hw : x.w = false) (hc : ∀ (i : Nat) (y : Ln), c.ls[i]? = some y → clash x y = false) : CV (filC c x) := by
  have hv := vic_in h
  have hn := h.sz
  refine ⟨by simpa [filC] using hn, ?_, fun i y hi => ?_, fun i j y z hij hi hj => ?_, ⟨vic c, x, by simp only [filC]; rw [List.getElem?_set, if_pos rfl, if_pos hv], hw⟩⟩
  · simp only [filC, List.length_set]
    cases e : c.ls[vic c]? with
    | none => exact h.hand
    | some y =>
      simp only
      split
      · exact inR_iff.2 ⟨Int.emod_nonneg _ (by omega), Int.emod_lt_of_pos _ (by omega)⟩
      · exact h.hand
  · simp only [filC] at hi
    rw [List.getElem?_set] at hi
    split at hi
    · injection hi with hi
      rw [← hi]; exact hx
    · exact h.ok i y hi
  · simp only [filC] at hi hj
    rw [List.getElem?_set] at hi hj
    split at hi
    · rename_i h1
      injection hi with hi
      rw [if_neg (by omega)] at hj
      rw [← hi]; exact hc j z hj
    · split at hj
      · injection hj with hj
        rw [← hj, clash_symm]; exact hc i y hi
      · exact h.cl i j y z hij hi hj
end Go.Proofs.YtnaagdmaggdbmaaGreatDoor
namespace Go.Proofs.YtnaagdmaggdbmaaGreatDoor
open Go.RowKit
set_option maxRecDepth 1000000
def alw (r n : Int) : Bool := inR r 8 && inR n 8 && decide (r.toNat &&& n.toNat = n.toNat)
theorem bits_and {r n : Int} (h1 : inR r 8 = true) (h2 : inR n 8 = true) : bits BinOp.and IntKind.i64 r n = ((r.toNat &&& n.toNat : Nat) : Int) := by
  obtain ⟨a0, a1⟩ := inR_iff.1 h1
  obtain ⟨b0, b1⟩ := inR_iff.1 h2
  have hr : r = 0 ∨ r = 1 ∨ r = 2 ∨ r = 3 ∨ r = 4 ∨ r = 5 ∨ r = 6 ∨ r = 7 := by omega
  have hn : n = 0 ∨ n = 1 ∨ n = 2 ∨ n = 3 ∨ n = 4 ∨ n = 5 ∨ n = 6 ∨ n = 7 := by omega
  rcases hr with rfl | rfl | rfl | rfl | rfl | rfl | rfl | rfl <;> rcases hn with rfl | rfl | rfl | rfl | rfl | rfl | rfl | rfl <;> rfl
theorem bits_andNot {r n : Int} (h1 : inR r 8 = true) (h2 : inR n 8 = true) : (bits BinOp.andNot IntKind.i64 n r == 0) = decide (r.toNat &&& n.toNat = n.toNat) := by
  obtain ⟨a0, a1⟩ := inR_iff.1 h1
  obtain ⟨b0, b1⟩ := inR_iff.1 h2
  have hr : r = 0 ∨ r = 1 ∨ r = 2 ∨ r = 3 ∨ r = 4 ∨ r = 5 ∨ r = 6 ∨ r = 7 := by omega
  have hn : n = 0 ∨ n = 1 ∨ n = 2 ∨ n = 3 ∨ n = 4 ∨ n = 5 ∨ n = 6 ∨ n = 7 := by omega
  rcases hr with rfl | rfl | rfl | rfl | rfl | rfl | rfl | rfl <;> rcases hn with rfl | rfl | rfl | rfl | rfl | rfl | rfl | rfl <;> rfl
theorem sAllows_any (r n : Int) (w : World) : Calls Tryz.prog 146 #[.int .i64 r, .int .i64 n] w fun e w' => e = .returned (.bool (alw r n)) ∧ w = w' := by
  cases h1 : inR r 8 with
  | false =>
    have H : Hid (alw r n = false) := by show _ = _; unfold alw; rw [h1]; rfl
    go_enter Tryz.func146, Tryz.ntmps146
    go_wp2_with fail
    refine (sRightsValid_any _ _).mono ?_
    rintro e w' ⟨rfl, rfl⟩
    rw [h1]
    go_wp2
    go_ret
    exact ⟨by rw [H.out]; rfl, rfl⟩
  | true =>
    cases h2 : inR n 8 with
    | false =>
      have H : Hid (alw r n = false) := by show _ = _; unfold alw; rw [h2, Bool.and_false]; rfl
      go_enter Tryz.func146, Tryz.ntmps146
      go_wp2_with fail
      refine (sRightsValid_any _ _).mono ?_
      rintro e w' ⟨rfl, rfl⟩
      rw [h1]
      go_wp2_with fail
      refine (sRightsValid_any _ _).mono ?_
      rintro e w' ⟨rfl, rfl⟩
      rw [h2]
      go_wp2
      go_ret
      exact ⟨by rw [H.out]; rfl, rfl⟩
    | true =>
      have H : Hid (alw r n = decide (r.toNat &&& n.toNat = n.toNat)) := by show _ = _; unfold alw; rw [h1, h2]; rfl
      go_enter Tryz.func146, Tryz.ntmps146
      go_wp2_with fail
      refine (sRightsValid_any _ _).mono ?_
      rintro e w' ⟨rfl, rfl⟩
      rw [h1]
      go_wp2_with fail
      refine (sRightsValid_any _ _).mono ?_
      rintro e w' ⟨rfl, rfl⟩
      rw [h2]
      have HBT := Lib.hid (bits_and h1 h2)
      go_wp2
      go_ret
      refine ⟨?_, rfl⟩
      rw [H.out]
      show Ending.returned (.bool (bits BinOp.and IntKind.i64 r n == n)) = _
      rw [HBT.out]
      congr 2
      obtain ⟨a0, a1⟩ := inR_iff.1 h2
      rw [Bool.eq_iff_iff, beq_iff_eq, decide_eq_true_eq]
      constructor
      · intro h; omega
      · intro h; omega
set_option maxHeartbeats 2000000 in
theorem l4Victim_any (vl : Value) (c : Ca) (w : World) (hT : SlR lnE w vl c.ls) (hv : cav c = true) :
    Calls Tryz.prog 212 #[.agg #[vl, .int .i64 c.hand]] w fun r w' => r = .returned (.int .i64 (vic c)) ∧ Below w.heap.size w w' := by
  have hcv := cav_CV.1 hv
  obtain ⟨A, cc, rfl, hbc, hbm, hL⟩ := hT
  have hfm2 : c.ls.length ≤ 8 := hcv.sz.2
  have HL := Lib.hid hL
  have hbx := Own.new_ w 29 #[.slice A c.ls.length cc, .int .i64 c.hand]
  have hbz : Below w.heap.size w (w.alloc (.cells #[.slice A c.ls.length cc, .int .i64 c.hand] 29)) := bA bR
  generalize hW : w.alloc (.cells #[.slice A c.ls.length cc, .int .i64 c.hand] 29) = W0 at hbx hbz
  have q0 := hbx.cell_ 0 (v := .slice A c.ls.length cc) rfl
  have q1 := hbx.cell_ 1 (v := .int .i64 c.hand) rfl
  have HBX := Lib.hid hbx
  clear hL hbx
  clear q0 q1
  go_enter Tryz.func212, Tryz.ntmps212
  go_wp2
  go_loopw [3] (fun u wr => ∃ k : Nat, k ≤ c.ls.length ∧ u = .int .i64 k ∧ Hid (∀ (j : Nat) (q : Ln), j < k → c.ls[j]? = some q → q.v = true) ∧ Own wr w.heap.size 29 #[.slice A c.ls.length cc, .int .i64 c.hand] ∧ Below w.heap.size w wr) (fun u _ => c.ls.length - (intOf u).toNat)
  case atStart => exact ⟨0, by omega, rfl, (fun j q h => absurd h (by omega)), HBX.out, hbz⟩
  case round =>
    obtain ⟨k, hk, rfl, hacc, hbox, hbi⟩ := hrel
    have q0 := hbox.cell_ 0 (v := .slice A c.ls.length cc) rfl
    have q1 := hbox.cell_ 1 (v := .int .i64 c.hand) rfl
    by_cases hlt : k < c.ls.length
    · obtain ⟨o, eo⟩ : ∃ o, c.ls[k]? = some o := ⟨_, List.getElem?_eq_getElem hlt⟩
      obtain ⟨b, ob, rfl, hbb, d0, d1, d2, d3, d4, d5⟩ := (HL.out.below hbi).ln eo
      have HBOX := Lib.hid hbox
      have EO := Lib.hid eo
      clear hbox eo d1 d2 d3 d4 d5
      cases ht : o.v with
      | false =>
        rw [ht] at d0
        have H := Lib.hid (vic_free EO.out hacc.out ht)
        go_wp2
        go_ret
        exact ⟨by rw [H.out]; rfl, hbi⟩
      | true =>
        rw [ht] at d0
        have HACC : Hid (∀ (j : Nat) (q : Ln), j < k + 1 → c.ls[j]? = some q → q.v = true) := by
          intro j q hj e
          rcases Nat.lt_or_ge j k with h | h
          · exact hacc.out j q h e
          · obtain rfl : j = k := by omega
            have := EO.out
            rw [e] at this
            injection this with this
            rw [this]; exact ht
        go_wp2
        go_roundw
        case rel => exact ⟨k + 1, by omega, by go_num, HACC, HBOX.out, hbi⟩
        case measure => simp [intOf]; omega
    · obtain rfl : k = c.ls.length := by omega
      have HVI := Lib.hid (vic_full hacc.out)
      have HBOX := Lib.hid hbox
      have HBI := Lib.hid hbi
      have HCV := Lib.hid hcv
      clear hacc
      have hwr := hbi
      obtain ⟨w6, rfl⟩ : ∃ w6, w6 = wr := ⟨_, rfl⟩
      obtain ⟨hh0, hh1⟩ := inR_iff.1 hcv.hand
      have hhn : (c.hand.toNat : Int) = c.hand := Int.toNat_of_nonneg hh0
      go_wp2
      clear q0 q1 hbox hbi
      go_loopg [4] (c.ls.length + 1) (fun g u wi => ∃ (j a : Nat), g = c.ls.length + 1 - j ∧ u = .int .i64 a ∧ Hid (VSt c j a) ∧ Own wi w.heap.size 29 #[.slice A c.ls.length cc, .int .i64 c.hand] ∧ Below w.heap.size w wi)
      case atStart => exact ⟨0, c.hand.toNat, by simp, by rw [hhn], vst_zero HCV.out, HBOX.out, HBI.out⟩
      case round =>
        obtain ⟨j, a, rfl, rfl, hst, hbox, hbi⟩ := hrel
        have hj := vst_lt HCV.out hst.out
        have ha := vst_in HCV.out hst.out
        obtain ⟨x, ex⟩ : ∃ x, c.ls[a]? = some x := ⟨_, List.getElem?_eq_getElem ha⟩
        obtain ⟨b, ob, rfl, hbb, d0, d1, d2, d3, d4, d5⟩ := (HL.out.below hbi).ln ex
        have q0 := hbox.cell_ 0 (v := .slice (some ⟨b, ob, none⟩) c.ls.length cc) rfl
        have HBOXI := Lib.hid hbox
        have EX := Lib.hid ex
        clear hbox d0 d1 d2 d3 d4 ex hwr
        cases hw : x.w with
        | false =>
          rw [hw] at d5
          have H : Hid (vic c = a) := by show _ = _; rw [HVI.out]; exact vst_stop HCV.out hst.out EX.out hw
          go_wp2
          go_ret
          exact ⟨by rw [H.out]; rfl, hbi⟩
        | true =>
          rw [hw] at d5
          have HST := Lib.hid (vst_step HCV.out hst.out EX.out hw)
          clear hst
          go_wp2
          go_roundg (c.ls.length + 1 - (j + 1))
          case measure => omega
          case rel => exact ⟨j + 1, (a + 1) % c.ls.length, rfl, by simp, HST, HBOXI.out, hbi⟩
end Go.Proofs.YtnaagdmaggdbmaaGreatDoor
namespace Go.Proofs.YtnaagdmaggdbmaaGreatDoor
open Go.RowKit
set_option maxRecDepth 1000000
theorem filOK_false {c : Ca} {x : Ln} (h : filOK c x = false) : filV c x = caz := by unfold filV; rw [h]; rfl
theorem filOK_true {c : Ca} {x : Ln} (h : filOK c x = true) : filV c x = filC c x := by unfold filV; rw [h]; rfl
def filA (c : Ca) (x : Ln) : Int := if filOK c x = true then vic c else 0
theorem filA_false {c : Ca} {x : Ln} (h : filOK c x = false) : filA c x = 0 := by unfold filA; rw [h]; rfl
set_option maxHeartbeats 4000000 in
theorem sFillLine_any (vl : Value) (c : Ca) (x : Ln) (w : World) (hT : SlR lnE w vl c.ls) :
    Calls Tryz.prog 202 #[.agg #[vl, .int .i64 c.hand], lnV x] w (Post2 fun v w' => ∃ v1, v = .tuple #[.agg #[v1, .int .i64 (filV c x).hand], .int .i64 (filA c x), .bool (filOK c x)] ∧ SlM lnE 106 w.heap.size w' v1 (filV c x).ls ∧ Below w.heap.size w w') := by
  unfold lnV
  have HV0 := Lib.hid hT
  obtain ⟨A, cc, rfl, hbc, hbm, hL⟩ := hT
  have hbx := ((Own.new_ w 29 #[.slice A c.ls.length cc, .int .i64 c.hand]).alloc (o := .cells #[.bool x.v, .int .i64 x.t, .int .i64 x.p, .int .i64 x.f, .int .i64 x.r, .bool x.w] 106)).alloc (o := .cells #[.slice none 0 0, .int .i64 0] 29)
  have hbl := (ownAt (W := w.alloc (.cells #[.slice A c.ls.length cc, .int .i64 c.hand] 29)) (g := w.heap.size + 1) (t := 106) (cs := #[.bool x.v, .int .i64 x.t, .int .i64 x.p, .int .i64 x.f, .int .i64 x.r, .bool x.w]) (by simp)).alloc (o := .cells #[.slice none 0 0, .int .i64 0] 29)
  have hbo := ownAt (W := (w.alloc (.cells #[.slice A c.ls.length cc, .int .i64 c.hand] 29)).alloc (.cells #[.bool x.v, .int .i64 x.t, .int .i64 x.p, .int .i64 x.f, .int .i64 x.r, .bool x.w] 106)) (g := w.heap.size + 1 + 1) (t := 29) (cs := #[.slice none 0 0, .int .i64 0]) (by simp)
  have hb0 : Below w.heap.size w (((w.alloc (.cells #[.slice A c.ls.length cc, .int .i64 c.hand] 29)).alloc (.cells #[.bool x.v, .int .i64 x.t, .int .i64 x.p, .int .i64 x.f, .int .i64 x.r, .bool x.w] 106)).alloc (.cells #[.slice none 0 0, .int .i64 0] 29)) := bA (bA (bA bR))
  have hs0 : (((w.alloc (.cells #[.slice A c.ls.length cc, .int .i64 c.hand] 29)).alloc (.cells #[.bool x.v, .int .i64 x.t, .int .i64 x.p, .int .i64 x.f, .int .i64 x.r, .bool x.w] 106)).alloc (.cells #[.slice none 0 0, .int .i64 0] 29)).heap.size = w.heap.size + 3 := by simp
  generalize hW : ((w.alloc (.cells #[.slice A c.ls.length cc, .int .i64 c.hand] 29)).alloc (.cells #[.bool x.v, .int .i64 x.t, .int .i64 x.p, .int .i64 x.f, .int .i64 x.r, .bool x.w] 106)).alloc (.cells #[.slice none 0 0, .int .i64 0] 29) = W0 at hbx hbl hbo hb0 hs0
  have HX0 := Lib.hid hbx
  have HL0 := Lib.hid hbl
  have HR0 := Lib.hid hbo
  have HB0 := Lib.hid hb0
  have HS0 : Hid (w.heap.size + 3 ≤ W0.heap.size) := Nat.le_of_eq hs0.symm
  have HLR := Lib.hid hL
  clear hbx hbl hbo hb0 hL
  have q0 := HX0.out.cell_ 0 (v := .slice A c.ls.length cc) rfl
  have q1 := HX0.out.cell_ 1 (v := .int .i64 c.hand) rfl
  go_enter Tryz.func202, Tryz.ntmps202
  go_wp2_with fail
  refine (sCacheValid_any _ c _ (HV0.out.now HB0.out)).mono ?_
  rintro e w1 ⟨rfl, hb1⟩
  have HX1 := Lib.hid (HX0.out.below hb1)
  have HL1 := Lib.hid (HL0.out.below hb1)
  have HR1 := Lib.hid (HR0.out.below hb1)
  have HB1 := Lib.hid (bT HB0.out hb1)
  have HS1 := Lib.hid (Nat.le_trans HS0.out hb1.size)
  clear hb1
  clear q0 q1
  cases h1 : cav c with
  | false =>
    have HO : Hid (filOK c x = false) := by show _ = _; unfold filOK; rw [h1]; rfl
    have HV := Lib.hid (filOK_false HO.out)
    have HA := Lib.hid (filA_false HO.out)
    have r0 := HR1.out.cell_ 0 (v := .slice none 0 0) rfl
    have r1 := HR1.out.cell_ 1 (v := .int .i64 0) rfl
    have f0 := HR1.out.free 0
    have f1 := HR1.out.free 1
    have hl1 := HR1.out.lt
    go_wp2
    have o3 := (HR1.out.set_ 0 (.slice none 0 0)).set_ 1 (.int .i64 0)
    have t0 := o3.cell_ 0 (v := .slice none 0 0) rfl
    have t1 := o3.cell_ 1 (v := .int .i64 0) rfl
    refine bodyPost_ret (v := .tuple #[.agg #[.slice none 0 0, .int .i64 0], .int .i64 0, .bool false]) (by simp [results, Tryz.results202, go_sem, t0, t1]) rfl ⟨_, rfl, _, by rw [HV.out, HA.out, HO.out]; rfl, by rw [HV.out]; exact SlM.nil_ _, ?_⟩
    repeat (refine bS ?_ (by simp <;> omega))
    exact HB1.out
  | true =>
    cases hxv : x.v with
    | false =>
      have HO : Hid (filOK c x = false) := by show _ = _; unfold filOK; rw [hxv]; simp
      have HV := Lib.hid (filOK_false HO.out)
      have HA := Lib.hid (filA_false HO.out)
      have l0 := HL1.out.cell_ 0 (v := .bool x.v) rfl
      rw [hxv] at l0
      have r0 := HR1.out.cell_ 0 (v := .slice none 0 0) rfl
      have r1 := HR1.out.cell_ 1 (v := .int .i64 0) rfl
      have f0 := HR1.out.free 0
      have f1 := HR1.out.free 1
      have hl1 := HR1.out.lt
      go_wp2
      have o3 := (HR1.out.set_ 0 (.slice none 0 0)).set_ 1 (.int .i64 0)
      have t0 := o3.cell_ 0 (v := .slice none 0 0) rfl
      have t1 := o3.cell_ 1 (v := .int .i64 0) rfl
      refine bodyPost_ret (v := .tuple #[.agg #[.slice none 0 0, .int .i64 0], .int .i64 0, .bool false]) (by simp [results, Tryz.results202, go_sem, t0, t1]) rfl ⟨_, rfl, _, by rw [HV.out, HA.out, HO.out]; rfl, by rw [HV.out]; exact SlM.nil_ _, ?_⟩
      repeat (refine bS ?_ (by simp <;> omega))
      exact HB1.out
    | true =>
      have HLK := Lib.hid (fun W => l4Line_any x W)
      unfold lnV at HLK
      have l0 := HL1.out.cell_ 0 (v := .bool x.v) rfl
      have l1 := HL1.out.cell_ 1 (v := .int .i64 x.t) rfl
      have l2 := HL1.out.cell_ 2 (v := .int .i64 x.p) rfl
      have l3 := HL1.out.cell_ 3 (v := .int .i64 x.f) rfl
      have l4 := HL1.out.cell_ 4 (v := .int .i64 x.r) rfl
      have l5 := HL1.out.cell_ 5 (v := .bool x.w) rfl
      rw [hxv] at l0 HLK
      go_wp2_with fail
      refine (HLK.out _).mono ?_
      rintro e w2 ⟨rfl, hb2⟩
      have HX2 := Lib.hid (HX1.out.below hb2)
      have HL2 := Lib.hid (HL1.out.below hb2)
      have HR2 := Lib.hid (HR1.out.below hb2)
      have HB2 := Lib.hid (bT HB1.out hb2)
      have HS2 := Lib.hid (Nat.le_trans HS1.out hb2.size)
      clear hb2
      clear l0 l1 l2 l3 l4 l5 HLK
      cases h3 : lnok x with
      | false =>
        have HO : Hid (filOK c x = false) := by show _ = _; unfold filOK; rw [h3]; simp
        have HV := Lib.hid (filOK_false HO.out)
        have HA := Lib.hid (filA_false HO.out)
        have r0 := HR2.out.cell_ 0 (v := .slice none 0 0) rfl
        have r1 := HR2.out.cell_ 1 (v := .int .i64 0) rfl
        have f0 := HR2.out.free 0
        have f1 := HR2.out.free 1
        have hl1 := HR2.out.lt
        go_wp2
        have o3 := (HR2.out.set_ 0 (.slice none 0 0)).set_ 1 (.int .i64 0)
        have t0 := o3.cell_ 0 (v := .slice none 0 0) rfl
        have t1 := o3.cell_ 1 (v := .int .i64 0) rfl
        refine bodyPost_ret (v := .tuple #[.agg #[.slice none 0 0, .int .i64 0], .int .i64 0, .bool false]) (by simp [results, Tryz.results202, go_sem, t0, t1]) rfl ⟨_, rfl, _, by rw [HV.out, HA.out, HO.out]; rfl, by rw [HV.out]; exact SlM.nil_ _, ?_⟩
        repeat (refine bS ?_ (by simp <;> omega))
        exact HB2.out
      | true =>
        have hcv := cav_CV.1 h1
        have q0 := HX2.out.cell_ 0 (v := .slice A c.ls.length cc) rfl
        have q1 := HX2.out.cell_ 1 (v := .int .i64 c.hand) rfl
        go_wp2_with fail
        refine (l4Victim_any _ c _ (HV0.out.now HB2.out) h1).mono ?_
        rintro e w3 ⟨rfl, hb3⟩
        have HX3 := Lib.hid (HX2.out.below hb3)
        have HL3 := Lib.hid (HL2.out.below hb3)
        have HR3 := Lib.hid (HR2.out.below hb3)
        have HB3 := Lib.hid (bT HB2.out hb3)
        have HS3 := Lib.hid (Nat.le_trans HS2.out hb3.size)
        clear hb3
        clear q0 q1
        have q0 := HX3.out.cell_ 0 (v := .slice A c.ls.length cc) rfl
        have q1 := HX3.out.cell_ 1 (v := .int .i64 c.hand) rfl
        go_wp2_with fail
        refine (l4Copy_any _ c _ (HV0.out.now HB3.out) (by have := hcv.sz; omega)).mono ?_
        rintro e w4 ⟨_, rfl, v1, rfl, hM4, hb4⟩
        have hvi := vic_in hcv
        have h8 : c.ls.length ≤ 8 := hcv.sz.2
        obtain ⟨y, ey⟩ : ∃ y, c.ls[vic c]? = some y := ⟨_, List.getElem?_eq_getElem hvi⟩
        have hs3 := HS3.out
        have hlt3 := HR3.out.lt
        obtain ⟨A2, c2, rfl, l2', k2, m2⟩ := hM4
        obtain ⟨g2, cs2, rfl, hg2, O2, _⟩ := m2.own (by omega)
        clear q0 q1
        have HX4 := Lib.hid (HX3.out.below hb4)
        have HL4 := Lib.hid (HL3.out.below hb4)
        have HR4 := Lib.hid (HR3.out.below hb4)
        have HB4 := Lib.hid (bT HB3.out hb4)
        have HS4 := Lib.hid (Nat.le_trans HS3.out hb4.size)
        clear hb4
        have ho5 := Own.new_ w4 29 #[.slice (some ⟨g2, 0, none⟩) c.ls.length c2, .int .i64 c.hand]
        have hb5 : Below w4.heap.size w4 (w4.alloc (.cells #[.slice (some ⟨g2, 0, none⟩) c.ls.length c2, .int .i64 c.hand] 29)) := bA bR
        generalize hW5 : w4.alloc (.cells #[.slice (some ⟨g2, 0, none⟩) c.ls.length c2, .int .i64 c.hand] 29) = w5 at ho5 hb5
        have M5 := Lib.hid (m2.below hb5)
        have O5 := O2.below hb5
        have HX5 := Lib.hid (HX4.out.below hb5)
        have HL5 := Lib.hid (HL4.out.below hb5)
        have HR5 := Lib.hid (HR4.out.below hb5)
        have HB5 := Lib.hid (bT HB4.out hb5)
        have HS5 := Lib.hid (Nat.le_trans HS4.out hb5.size)
        clear hb5
        clear m2 O2
        have HO5 := Lib.hid ho5
        have hne : w4.heap.size ≠ g2 := HO5.out.ne O5 (by decide)
        have hne2 : g2 ≠ w4.heap.size := fun h => hne h.symm
        have q3 : w.heap.size + 1 + 1 ≠ g2 := HR5.out.ne O5 (by decide)
        have q4 : g2 ≠ w.heap.size + 1 + 1 := fun h => q3 h.symm
        have q5 : w.heap.size + 1 ≠ g2 := by have := HL3.out.lt; omega
        have q6 : g2 ≠ w.heap.size + 1 := fun h => q5 h.symm
        have q7 : w.heap.size ≠ g2 := HX5.out.ne O5 (by decide)
        have q8 : g2 ≠ w.heap.size := fun h => q7 h.symm
        have q9 : w.heap.size + 1 + 1 ≠ w4.heap.size := by have := HR4.out.lt; omega
        have q10 : w.heap.size + 1 ≠ w4.heap.size := by have := HL4.out.lt; omega
        have q11 : w.heap.size ≠ w4.heap.size := by have := HX4.out.lt; omega
        clear ho5 O5
        obtain ⟨b4, o4, rfl, hb4, d0, d1, d2, d3, d4, d5⟩ := (HLR.out.now (Nat.le_refl _) HB5.out).ln ey
        have q0 := HX5.out.cell_ 0 (v := .slice (some ⟨b4, o4, none⟩) c.ls.length cc) rfl
        have hlx := HX5.out.lt
        have hlo := HO5.out.lt
        have EY := Lib.hid ey
        clear d1 d2 d3 d4 d5 ey
        generalize hvv : vic c = vi at *
        cases hyv : y.v with
        | false =>
          rw [hyv] at d0
          have HH : Hid ((filC c x).hand = c.hand) := by show _ = _; simp only [filC, hvv, EY.out, hyv]; rfl
          have o90 := HO5.out.cell_ 0 (v := .slice (some ⟨g2, 0, none⟩) c.ls.length c2) rfl
          have hlo9 := HO5.out.lt
          have l0 := HL5.out.cell_ 0 (v := .bool x.v) rfl
          have l1 := HL5.out.cell_ 1 (v := .int .i64 x.t) rfl
          have l2 := HL5.out.cell_ 2 (v := .int .i64 x.p) rfl
          have l3 := HL5.out.cell_ 3 (v := .int .i64 x.f) rfl
          have l4 := HL5.out.cell_ 4 (v := .int .i64 x.r) rfl
          have l5 := HL5.out.cell_ 5 (v := .bool x.w) rfl
          rw [hxv] at l0
          have hll9 := HL5.out.lt
          obtain ⟨_, cs9, u9, _, Q9, _⟩ := M5.out.own (by omega)
          injection u9 with u9
          injection u9 with u9
          subst u9
          have z0 := Q9.free (vi * 6)
          have z1 := Q9.free (vi * 6 + 1)
          have z2 := Q9.free (vi * 6 + 2)
          have z3 := Q9.free (vi * 6 + 3)
          have z4 := Q9.free (vi * 6 + 4)
          have z5 := Q9.free (vi * 6 + 5)
          obtain ⟨bq, oq, eq1, _, y0, y1, y2, y3, y4, y5⟩ := M5.out.is.ln EY.out
          injection eq1 with eq1
          injection eq1 with eq1 eq2
          subst eq1 eq2
          rw [Nat.zero_add] at y0 y1 y2 y3 y4 y5
          have m9 := M5.out.wln hvi x
          rw [hxv] at m9
          have hr9 := (((((HR5.out.far (p := ⟨g2, vi * 6, none⟩) (u := .bool true) q3).far (p := ⟨g2, vi * 6 + 1, none⟩) (u := .int .i64 x.t) q3).far (p := ⟨g2, vi * 6 + 2, none⟩) (u := .int .i64 x.p) q3).far (p := ⟨g2, vi * 6 + 3, none⟩) (u := .int .i64 x.f) q3).far (p := ⟨g2, vi * 6 + 4, none⟩) (u := .int .i64 x.r) q3).far (p := ⟨g2, vi * 6 + 5, none⟩) (u := .bool x.w) q3
          have hl9 := (((((HL5.out.far (p := ⟨g2, vi * 6, none⟩) (u := .bool true) q5).far (p := ⟨g2, vi * 6 + 1, none⟩) (u := .int .i64 x.t) q5).far (p := ⟨g2, vi * 6 + 2, none⟩) (u := .int .i64 x.p) q5).far (p := ⟨g2, vi * 6 + 3, none⟩) (u := .int .i64 x.f) q5).far (p := ⟨g2, vi * 6 + 4, none⟩) (u := .int .i64 x.r) q5).far (p := ⟨g2, vi * 6 + 5, none⟩) (u := .bool x.w) q5
          have hx9 := (((((HX5.out.far (p := ⟨g2, vi * 6, none⟩) (u := .bool true) q7).far (p := ⟨g2, vi * 6 + 1, none⟩) (u := .int .i64 x.t) q7).far (p := ⟨g2, vi * 6 + 2, none⟩) (u := .int .i64 x.p) q7).far (p := ⟨g2, vi * 6 + 3, none⟩) (u := .int .i64 x.f) q7).far (p := ⟨g2, vi * 6 + 4, none⟩) (u := .int .i64 x.r) q7).far (p := ⟨g2, vi * 6 + 5, none⟩) (u := .bool x.w) q7
          have ho9 := (((((HO5.out.far (p := ⟨g2, vi * 6, none⟩) (u := .bool true) hne).far (p := ⟨g2, vi * 6 + 1, none⟩) (u := .int .i64 x.t) hne).far (p := ⟨g2, vi * 6 + 2, none⟩) (u := .int .i64 x.p) hne).far (p := ⟨g2, vi * 6 + 3, none⟩) (u := .int .i64 x.f) hne).far (p := ⟨g2, vi * 6 + 4, none⟩) (u := .int .i64 x.r) hne).far (p := ⟨g2, vi * 6 + 5, none⟩) (u := .bool x.w) hne
          have hgg : w.heap.size ≤ g2 := by have := HB3.out.size; omega
          have hb9 := bS (bS (bS (bS (bS (bS HB5.out (p := ⟨g2, vi * 6, none⟩) hgg (u := .bool true)) (p := ⟨g2, vi * 6 + 1, none⟩) hgg (u := .int .i64 x.t)) (p := ⟨g2, vi * 6 + 2, none⟩) hgg (u := .int .i64 x.p)) (p := ⟨g2, vi * 6 + 3, none⟩) hgg (u := .int .i64 x.f)) (p := ⟨g2, vi * 6 + 4, none⟩) hgg (u := .int .i64 x.r)) (p := ⟨g2, vi * 6 + 5, none⟩) hgg (u := .bool x.w)
          generalize hW9 : (((((w5.setCell ⟨g2, vi * 6, none⟩ (.bool true)).setCell ⟨g2, vi * 6 + 1, none⟩ (.int .i64 x.t)).setCell ⟨g2, vi * 6 + 2, none⟩ (.int .i64 x.p)).setCell ⟨g2, vi * 6 + 3, none⟩ (.int .i64 x.f)).setCell ⟨g2, vi * 6 + 4, none⟩ (.int .i64 x.r)).setCell ⟨g2, vi * 6 + 5, none⟩ (.bool x.w) = w9 at m9 hr9 hl9 hx9 ho9 hb9
          have M9 := Lib.hid m9
          have HR9 := Lib.hid hr9
          have HL9 := Lib.hid hl9
          have HX9 := Lib.hid hx9
          have HO9 := Lib.hid ho9
          have HB9 := Lib.hid hb9
          clear m9 hr9 hl9 hx9 ho9 hb9 Q9
          have o91 := HO9.out.cell_ 0 (v := .slice (some ⟨g2, 0, none⟩) c.ls.length c2) rfl
          have o92 := HO9.out.cell_ 1 (v := .int .i64 (c.hand)) rfl
          have hlo10 := HO9.out.lt
          have HFC : Hid (filC c x = ⟨c.ls.set vi x, c.hand⟩) := by
            show _ = _
            have h1 : (filC c x).ls = c.ls.set vi x := by simp only [filC, hvv]
            have h2 := HH.out
            cases hf : filC c x with
            | mk a b =>
              rw [hf] at h1 h2
              simp only at h1 h2
              rw [h1, h2]
          go_wp2_with fail
          refine (sCacheValid_any (.slice (some ⟨g2, 0, none⟩) c.ls.length c2) ⟨c.ls.set vi x, c.hand⟩ w9 (slm_of (by simp) (by simpa using l2') k2 M9.out).r).mono ?_
          rintro e w10 ⟨rfl, hb10⟩
          have hx10 := HX9.out.below hb10
          have HX10 := Lib.hid hx10
          have HL10 := Lib.hid (HL9.out.below hb10)
          have HR10 := Lib.hid (HR9.out.below hb10)
          have HO10 := Lib.hid (HO9.out.below hb10)
          have M10 := Lib.hid (M9.out.below hb10)
          have HB10 := Lib.hid (bT HB9.out hb10)
          clear hx10 hb10 o91 o92 o90 l0 l1 l2 l3 l4 l5 z0 z1 z2 z3 z4 z5 y0 y1 y2 y3 y4 y5 q0 d0
          cases h5 : cav ⟨c.ls.set vi x, c.hand⟩ with
          | false =>
            have HO : Hid (filOK c x = false) := by show _ = _; unfold filOK; rw [HFC.out, h5, Bool.and_false]
            have HV := Lib.hid (filOK_false HO.out)
            have HA := Lib.hid (filA_false HO.out)
            have r0 := HR10.out.cell_ 0 (v := .slice none 0 0) rfl
            have r1 := HR10.out.cell_ 1 (v := .int .i64 0) rfl
            have f0 := HR10.out.free 0
            have f1 := HR10.out.free 1
            have hl1 := HR10.out.lt
            go_wp2
            have o3 := (HR10.out.set_ 0 (.slice none 0 0)).set_ 1 (.int .i64 0)
            have t0 := o3.cell_ 0 (v := .slice none 0 0) rfl
            have t1 := o3.cell_ 1 (v := .int .i64 0) rfl
            refine bodyPost_ret (v := .tuple #[.agg #[.slice none 0 0, .int .i64 0], .int .i64 0, .bool false]) (by simp [results, Tryz.results202, go_sem, t0, t1]) rfl ⟨_, rfl, _, by rw [HV.out, HA.out, HO.out]; rfl, by rw [HV.out]; exact SlM.nil_ _, ?_⟩
            repeat (refine bS ?_ (by simp <;> omega))
            exact HB10.out
          | true =>
            have q0 := HX10.out.cell_ 0 (v := .slice (some ⟨b4, o4, none⟩) c.ls.length cc) rfl
            have q1 := HX10.out.cell_ 1 (v := .int .i64 c.hand) rfl
            have l1 := HL10.out.cell_ 1 (v := .int .i64 x.t) rfl
            have l2 := HL10.out.cell_ 2 (v := .int .i64 x.p) rfl
            have hlx := HX10.out.lt
            have hll := HL10.out.lt
            go_wp2_with fail
            refine (l4Find_any _ c x.t x.p _ (HV0.out.now HB10.out)).mono ?_
            rintro e w11 ⟨rfl, hb11⟩
            have HR11 := Lib.hid (HR10.out.below hb11)
            have HO11 := Lib.hid (HO10.out.below hb11)
            have M11 := Lib.hid (M10.out.below hb11)
            have HB11 := Lib.hid (bT HB10.out hb11)
            clear hb11 q0 q1 l1 l2
            by_cases h6 : 0 ≤ plcI c.ls x.t x.p
            · have HO : Hid (filOK c x = false) := by show _ = _; unfold filOK; rw [decide_eq_true h6]; simp
              have HV := Lib.hid (filOK_false HO.out)
              have HA := Lib.hid (filA_false HO.out)
              have r0 := HR11.out.cell_ 0 (v := .slice none 0 0) rfl
              have r1 := HR11.out.cell_ 1 (v := .int .i64 0) rfl
              have f0 := HR11.out.free 0
              have f1 := HR11.out.free 1
              have hl1 := HR11.out.lt
              go_wp2
              have o3 := (HR11.out.set_ 0 (.slice none 0 0)).set_ 1 (.int .i64 0)
              have t0 := o3.cell_ 0 (v := .slice none 0 0) rfl
              have t1 := o3.cell_ 1 (v := .int .i64 0) rfl
              refine bodyPost_ret (v := .tuple #[.agg #[.slice none 0 0, .int .i64 0], .int .i64 0, .bool false]) (by simp [results, Tryz.results202, go_sem, t0, t1]) rfl ⟨_, rfl, _, by rw [HV.out, HA.out, HO.out]; rfl, by rw [HV.out]; exact SlM.nil_ _, ?_⟩
              repeat (refine bS ?_ (by simp <;> omega))
              exact HB11.out
            · have HO : Hid (filOK c x = true) := by show _ = _; unfold filOK; rw [h1, hxv, h3, decide_eq_false h6, HFC.out, h5]; rfl
              have HV : Hid (filV c x = ⟨c.ls.set vi x, c.hand⟩) := by show _ = _; rw [filOK_true HO.out]; exact HFC.out
              have HA : Hid (filA c x = vi) := by show _ = _; unfold filA; rw [HO.out, if_pos rfl, hvv]
              have h6b : ¬ 0 ≤ plcI c.ls x.t x.p := h6
              have r0 := HR11.out.cell_ 0 (v := .slice none 0 0) rfl
              have r1 := HR11.out.cell_ 1 (v := .int .i64 0) rfl
              have f0 := HR11.out.free 0
              have f1 := HR11.out.free 1
              have hl1 := HR11.out.lt
              have o91 := HO11.out.cell_ 0 (v := .slice (some ⟨g2, 0, none⟩) c.ls.length c2) rfl
              have o92 := HO11.out.cell_ 1 (v := .int .i64 (c.hand)) rfl
              have hlo := HO11.out.lt
              go_wp2
              have o3 := (HR11.out.set_ 0 (.slice (some ⟨g2, 0, none⟩) c.ls.length c2)).set_ 1 (.int .i64 (c.hand))
              have t0 := o3.cell_ 0 (v := .slice (some ⟨g2, 0, none⟩) c.ls.length c2) rfl
              have t1 := o3.cell_ 1 (v := .int .i64 (c.hand)) rfl
              refine bodyPost_ret (v := .tuple #[.agg #[.slice (some ⟨g2, 0, none⟩) c.ls.length c2, .int .i64 (c.hand)], .int .i64 vi, .bool true]) (by simp [results, Tryz.results202, go_sem, t0, t1]) rfl ⟨_, rfl, _, by rw [HV.out, HA.out, HO.out], ?_, ?_⟩
              · rw [HV.out]
                exact (slm_of (by simp) (by simpa using l2') k2 ((M11.out.far (p := ⟨w.heap.size + 1 + 1, 0, none⟩) (u := .slice (some ⟨g2, 0, none⟩) c.ls.length c2) hlt3).far (p := ⟨w.heap.size + 1 + 1, 1, none⟩) (u := .int .i64 (c.hand)) hlt3)).mono (by have := HB3.out.size; omega)
              · repeat (refine bS ?_ (by simp <;> omega))
                exact HB11.out
        | true =>
          rw [hyv] at d0
          have HH : Hid ((filC c x).hand = ((vi : Int) + 1) % c.ls.length) := by show _ = _; simp only [filC, hvv, EY.out, hyv]; rfl
          have o51 := HO5.out.cell_ 1 (v := .int .i64 c.hand) rfl
          have of1 := HO5.out.free 1
          have ho6 := HO5.out.set_ 1 (.int .i64 (((vi : Int) + 1) % c.ls.length))
          have m6 := M5.out.other (p := ⟨w4.heap.size, 1, none⟩) (u := .int .i64 (((vi : Int) + 1) % c.ls.length)) hne
          have hr6 := HR5.out.far (p := ⟨w4.heap.size, 1, none⟩) (u := .int .i64 (((vi : Int) + 1) % c.ls.length)) q9
          have hl6 := HL5.out.far (p := ⟨w4.heap.size, 1, none⟩) (u := .int .i64 (((vi : Int) + 1) % c.ls.length)) q10
          have hx6 := HX5.out.far (p := ⟨w4.heap.size, 1, none⟩) (u := .int .i64 (((vi : Int) + 1) % c.ls.length)) q11
          have hb6 : Below w.heap.size w (w5.setCell ⟨w4.heap.size, 1, none⟩ (.int .i64 (((vi : Int) + 1) % c.ls.length))) := bS HB5.out (by show w.heap.size ≤ w4.heap.size; have := HB4.out.size; omega)
          generalize hW6 : w5.setCell ⟨w4.heap.size, 1, none⟩ (.int .i64 (((vi : Int) + 1) % c.ls.length)) = w6 at ho6 m6 hr6 hl6 hx6 hb6
          have HO6 := Lib.hid ho6
          have M6 := Lib.hid m6
          have HR6 := Lib.hid hr6
          have HL6 := Lib.hid hl6
          have HX6 := Lib.hid hx6
          have HB6 := Lib.hid hb6
          clear ho6 m6 hr6 hl6 hx6 hb6
          have o90 := HO6.out.cell_ 0 (v := .slice (some ⟨g2, 0, none⟩) c.ls.length c2) rfl
          have hlo9 := HO6.out.lt
          have l0 := HL6.out.cell_ 0 (v := .bool x.v) rfl
          have l1 := HL6.out.cell_ 1 (v := .int .i64 x.t) rfl
          have l2 := HL6.out.cell_ 2 (v := .int .i64 x.p) rfl
          have l3 := HL6.out.cell_ 3 (v := .int .i64 x.f) rfl
          have l4 := HL6.out.cell_ 4 (v := .int .i64 x.r) rfl
          have l5 := HL6.out.cell_ 5 (v := .bool x.w) rfl
          rw [hxv] at l0
          have hll9 := HL6.out.lt
          obtain ⟨_, cs9, u9, _, Q9, _⟩ := M6.out.own (by omega)
          injection u9 with u9
          injection u9 with u9
          subst u9
          have z0 := Q9.free (vi * 6)
          have z1 := Q9.free (vi * 6 + 1)
          have z2 := Q9.free (vi * 6 + 2)
          have z3 := Q9.free (vi * 6 + 3)
          have z4 := Q9.free (vi * 6 + 4)
          have z5 := Q9.free (vi * 6 + 5)
          obtain ⟨bq, oq, eq1, _, y0, y1, y2, y3, y4, y5⟩ := M6.out.is.ln EY.out
          injection eq1 with eq1
          injection eq1 with eq1 eq2
          subst eq1 eq2
          rw [Nat.zero_add] at y0 y1 y2 y3 y4 y5
          have m9 := M6.out.wln hvi x
          rw [hxv] at m9
          have hr9 := (((((HR6.out.far (p := ⟨g2, vi * 6, none⟩) (u := .bool true) q3).far (p := ⟨g2, vi * 6 + 1, none⟩) (u := .int .i64 x.t) q3).far (p := ⟨g2, vi * 6 + 2, none⟩) (u := .int .i64 x.p) q3).far (p := ⟨g2, vi * 6 + 3, none⟩) (u := .int .i64 x.f) q3).far (p := ⟨g2, vi * 6 + 4, none⟩) (u := .int .i64 x.r) q3).far (p := ⟨g2, vi * 6 + 5, none⟩) (u := .bool x.w) q3
          have hl9 := (((((HL6.out.far (p := ⟨g2, vi * 6, none⟩) (u := .bool true) q5).far (p := ⟨g2, vi * 6 + 1, none⟩) (u := .int .i64 x.t) q5).far (p := ⟨g2, vi * 6 + 2, none⟩) (u := .int .i64 x.p) q5).far (p := ⟨g2, vi * 6 + 3, none⟩) (u := .int .i64 x.f) q5).far (p := ⟨g2, vi * 6 + 4, none⟩) (u := .int .i64 x.r) q5).far (p := ⟨g2, vi * 6 + 5, none⟩) (u := .bool x.w) q5
          have hx9 := (((((HX6.out.far (p := ⟨g2, vi * 6, none⟩) (u := .bool true) q7).far (p := ⟨g2, vi * 6 + 1, none⟩) (u := .int .i64 x.t) q7).far (p := ⟨g2, vi * 6 + 2, none⟩) (u := .int .i64 x.p) q7).far (p := ⟨g2, vi * 6 + 3, none⟩) (u := .int .i64 x.f) q7).far (p := ⟨g2, vi * 6 + 4, none⟩) (u := .int .i64 x.r) q7).far (p := ⟨g2, vi * 6 + 5, none⟩) (u := .bool x.w) q7
          have ho9 := (((((HO6.out.far (p := ⟨g2, vi * 6, none⟩) (u := .bool true) hne).far (p := ⟨g2, vi * 6 + 1, none⟩) (u := .int .i64 x.t) hne).far (p := ⟨g2, vi * 6 + 2, none⟩) (u := .int .i64 x.p) hne).far (p := ⟨g2, vi * 6 + 3, none⟩) (u := .int .i64 x.f) hne).far (p := ⟨g2, vi * 6 + 4, none⟩) (u := .int .i64 x.r) hne).far (p := ⟨g2, vi * 6 + 5, none⟩) (u := .bool x.w) hne
          have hgg : w.heap.size ≤ g2 := by have := HB3.out.size; omega
          have hb9 := bS (bS (bS (bS (bS (bS HB6.out (p := ⟨g2, vi * 6, none⟩) hgg (u := .bool true)) (p := ⟨g2, vi * 6 + 1, none⟩) hgg (u := .int .i64 x.t)) (p := ⟨g2, vi * 6 + 2, none⟩) hgg (u := .int .i64 x.p)) (p := ⟨g2, vi * 6 + 3, none⟩) hgg (u := .int .i64 x.f)) (p := ⟨g2, vi * 6 + 4, none⟩) hgg (u := .int .i64 x.r)) (p := ⟨g2, vi * 6 + 5, none⟩) hgg (u := .bool x.w)
          generalize hW9 : (((((w6.setCell ⟨g2, vi * 6, none⟩ (.bool true)).setCell ⟨g2, vi * 6 + 1, none⟩ (.int .i64 x.t)).setCell ⟨g2, vi * 6 + 2, none⟩ (.int .i64 x.p)).setCell ⟨g2, vi * 6 + 3, none⟩ (.int .i64 x.f)).setCell ⟨g2, vi * 6 + 4, none⟩ (.int .i64 x.r)).setCell ⟨g2, vi * 6 + 5, none⟩ (.bool x.w) = w9 at m9 hr9 hl9 hx9 ho9 hb9
          have M9 := Lib.hid m9
          have HR9 := Lib.hid hr9
          have HL9 := Lib.hid hl9
          have HX9 := Lib.hid hx9
          have HO9 := Lib.hid ho9
          have HB9 := Lib.hid hb9
          clear m9 hr9 hl9 hx9 ho9 hb9 Q9
          have o91 := HO9.out.cell_ 0 (v := .slice (some ⟨g2, 0, none⟩) c.ls.length c2) rfl
          have o92 := HO9.out.cell_ 1 (v := .int .i64 (((vi : Int) + 1) % c.ls.length)) rfl
          have hlo10 := HO9.out.lt
          have HFC : Hid (filC c x = ⟨c.ls.set vi x, ((vi : Int) + 1) % c.ls.length⟩) := by
            show _ = _
            have h1 : (filC c x).ls = c.ls.set vi x := by simp only [filC, hvv]
            have h2 := HH.out
            cases hf : filC c x with
            | mk a b =>
              rw [hf] at h1 h2
              simp only at h1 h2
              rw [h1, h2]
          go_wp2_with fail
          refine (sCacheValid_any (.slice (some ⟨g2, 0, none⟩) c.ls.length c2) ⟨c.ls.set vi x, ((vi : Int) + 1) % c.ls.length⟩ w9 (slm_of (by simp) (by simpa using l2') k2 M9.out).r).mono ?_
          rintro e w10 ⟨rfl, hb10⟩
          have hx10 := HX9.out.below hb10
          have HX10 := Lib.hid hx10
          have HL10 := Lib.hid (HL9.out.below hb10)
          have HR10 := Lib.hid (HR9.out.below hb10)
          have HO10 := Lib.hid (HO9.out.below hb10)
          have M10 := Lib.hid (M9.out.below hb10)
          have HB10 := Lib.hid (bT HB9.out hb10)
          clear hx10 hb10 o91 o92 o90 l0 l1 l2 l3 l4 l5 z0 z1 z2 z3 z4 z5 y0 y1 y2 y3 y4 y5 q0 d0
          cases h5 : cav ⟨c.ls.set vi x, ((vi : Int) + 1) % c.ls.length⟩ with
          | false =>
            have HO : Hid (filOK c x = false) := by show _ = _; unfold filOK; rw [HFC.out, h5, Bool.and_false]
            have HV := Lib.hid (filOK_false HO.out)
            have HA := Lib.hid (filA_false HO.out)
            have r0 := HR10.out.cell_ 0 (v := .slice none 0 0) rfl
            have r1 := HR10.out.cell_ 1 (v := .int .i64 0) rfl
            have f0 := HR10.out.free 0
            have f1 := HR10.out.free 1
            have hl1 := HR10.out.lt
            go_wp2
            have o3 := (HR10.out.set_ 0 (.slice none 0 0)).set_ 1 (.int .i64 0)
            have t0 := o3.cell_ 0 (v := .slice none 0 0) rfl
            have t1 := o3.cell_ 1 (v := .int .i64 0) rfl
            refine bodyPost_ret (v := .tuple #[.agg #[.slice none 0 0, .int .i64 0], .int .i64 0, .bool false]) (by simp [results, Tryz.results202, go_sem, t0, t1]) rfl ⟨_, rfl, _, by rw [HV.out, HA.out, HO.out]; rfl, by rw [HV.out]; exact SlM.nil_ _, ?_⟩
            repeat (refine bS ?_ (by simp <;> omega))
            exact HB10.out
          | true =>
            have q0 := HX10.out.cell_ 0 (v := .slice (some ⟨b4, o4, none⟩) c.ls.length cc) rfl
            have q1 := HX10.out.cell_ 1 (v := .int .i64 c.hand) rfl
            have l1 := HL10.out.cell_ 1 (v := .int .i64 x.t) rfl
            have l2 := HL10.out.cell_ 2 (v := .int .i64 x.p) rfl
            have hlx := HX10.out.lt
            have hll := HL10.out.lt
            go_wp2_with fail
            refine (l4Find_any _ c x.t x.p _ (HV0.out.now HB10.out)).mono ?_
            rintro e w11 ⟨rfl, hb11⟩
            have HR11 := Lib.hid (HR10.out.below hb11)
            have HO11 := Lib.hid (HO10.out.below hb11)
            have M11 := Lib.hid (M10.out.below hb11)
            have HB11 := Lib.hid (bT HB10.out hb11)
            clear hb11 q0 q1 l1 l2
            by_cases h6 : 0 ≤ plcI c.ls x.t x.p
            · have HO : Hid (filOK c x = false) := by show _ = _; unfold filOK; rw [decide_eq_true h6]; simp
              have HV := Lib.hid (filOK_false HO.out)
              have HA := Lib.hid (filA_false HO.out)
              have r0 := HR11.out.cell_ 0 (v := .slice none 0 0) rfl
              have r1 := HR11.out.cell_ 1 (v := .int .i64 0) rfl
              have f0 := HR11.out.free 0
              have f1 := HR11.out.free 1
              have hl1 := HR11.out.lt
              go_wp2
              have o3 := (HR11.out.set_ 0 (.slice none 0 0)).set_ 1 (.int .i64 0)
              have t0 := o3.cell_ 0 (v := .slice none 0 0) rfl
              have t1 := o3.cell_ 1 (v := .int .i64 0) rfl
              refine bodyPost_ret (v := .tuple #[.agg #[.slice none 0 0, .int .i64 0], .int .i64 0, .bool false]) (by simp [results, Tryz.results202, go_sem, t0, t1]) rfl ⟨_, rfl, _, by rw [HV.out, HA.out, HO.out]; rfl, by rw [HV.out]; exact SlM.nil_ _, ?_⟩
              repeat (refine bS ?_ (by simp <;> omega))
              exact HB11.out
            · have HO : Hid (filOK c x = true) := by show _ = _; unfold filOK; rw [h1, hxv, h3, decide_eq_false h6, HFC.out, h5]; rfl
              have HV : Hid (filV c x = ⟨c.ls.set vi x, ((vi : Int) + 1) % c.ls.length⟩) := by show _ = _; rw [filOK_true HO.out]; exact HFC.out
              have HA : Hid (filA c x = vi) := by show _ = _; unfold filA; rw [HO.out, if_pos rfl, hvv]
              have h6b : ¬ 0 ≤ plcI c.ls x.t x.p := h6
              have r0 := HR11.out.cell_ 0 (v := .slice none 0 0) rfl
              have r1 := HR11.out.cell_ 1 (v := .int .i64 0) rfl
              have f0 := HR11.out.free 0
              have f1 := HR11.out.free 1
              have hl1 := HR11.out.lt
              have o91 := HO11.out.cell_ 0 (v := .slice (some ⟨g2, 0, none⟩) c.ls.length c2) rfl
              have o92 := HO11.out.cell_ 1 (v := .int .i64 (((vi : Int) + 1) % c.ls.length)) rfl
              have hlo := HO11.out.lt
              go_wp2
              have o3 := (HR11.out.set_ 0 (.slice (some ⟨g2, 0, none⟩) c.ls.length c2)).set_ 1 (.int .i64 (((vi : Int) + 1) % c.ls.length))
              have t0 := o3.cell_ 0 (v := .slice (some ⟨g2, 0, none⟩) c.ls.length c2) rfl
              have t1 := o3.cell_ 1 (v := .int .i64 (((vi : Int) + 1) % c.ls.length)) rfl
              refine bodyPost_ret (v := .tuple #[.agg #[.slice (some ⟨g2, 0, none⟩) c.ls.length c2, .int .i64 (((vi : Int) + 1) % c.ls.length)], .int .i64 vi, .bool true]) (by simp [results, Tryz.results202, go_sem, t0, t1]) rfl ⟨_, rfl, _, by rw [HV.out, HA.out, HO.out], ?_, ?_⟩
              · rw [HV.out]
                exact (slm_of (by simp) (by simpa using l2') k2 ((M11.out.far (p := ⟨w.heap.size + 1 + 1, 0, none⟩) (u := .slice (some ⟨g2, 0, none⟩) c.ls.length c2) hlt3).far (p := ⟨w.heap.size + 1 + 1, 1, none⟩) (u := .int .i64 (((vi : Int) + 1) % c.ls.length)) hlt3)).mono (by have := HB3.out.size; omega)
              · repeat (refine bS ?_ (by simp <;> omega))
                exact HB11.out

end Go.Proofs.YtnaagdmaggdbmaaGreatDoor
