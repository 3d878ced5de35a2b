/- A part of the proofs of this seat: DrpP, TagI, DrpI, GdI, RgP, RgG, Gr1, DrpS, DrpT, ProtS, FgS, GdS. -/
import Derived.Test.YtkmocongdkacjaaGreatDoorKB
import Derived.Test.YtkmocongdkacjaaGreatDoorKD
import Derived.Test.YtkmocongdkacjaaGreatDoorKC
set_option linter.unusedVariables false
set_option linter.unusedSimpArgs false
namespace Go.Proofs.YtkmocongdkacjaaGreatDoor
open Go.RowKit
/-! ### dropping a page's line; taking a page; guarding a page -/
/-- the tag with which a space looks for a page, and whether it has one -/
def tagO (m : Ma) (s p : Int) : Bool := if 128 ≤ p then true else tgO m.g s
def tagT (m : Ma) (s p : Int) : Int := if 128 ≤ p then -1 else tgT m.g s
def drpC (m : Ma) (s p : Int) : Ca := if tagO m s p = true ∧ 0 ≤ plcI m.c.ls (tagT m s p) p then ⟨m.c.ls.set (plcI m.c.ls (tagT m s p) p).toNat lnz, m.c.hand⟩ else m.c
def drpM (m : Ma) (t : Tab) (s p : Int) : Ma := { m with t := t, c := drpC m s p }
def takO (m : Ma) (s p : Int) : Bool := mav m && fOK m.t s p
def takV (m : Ma) (s p : Int) : Ma := if takO m s p = true then drpM m (unmV m.t s p) s p else maz
def grdO (m : Ma) (s p r : Int) : Bool := mav m && prOK m.t s p r
def grdV (m : Ma) (s p r : Int) : Ma := if grdO m s p r = true then drpM m (prV m.t s p r) s p else maz
theorem takO_false {m : Ma} {s p : Int} (h : takO m s p = false) : takV m s p = maz := by unfold takV; rw [h]; rfl
theorem grdO_false {m : Ma} {s p r : Int} (h : grdO m s p r = false) : grdV m s p r = maz := by unfold grdV; rw [h]; rfl
theorem tgO_no {g : Tg} {s : Int} (h : tgv g = false) : tgO g s = false ∧ tgT g s = 0 := by
  have h1 : tgO g s = false := by unfold tgO; rw [h]; rfl
  exact ⟨h1, by unfold tgT; rw [h1]; rfl⟩
theorem tgO_neg {g : Tg} {s : Int} (h : ¬ 0 ≤ ownI g.os s) : tgO g s = false ∧ tgT g s = 0 := by
  have h1 : tgO g s = false := by unfold tgO; rw [decide_eq_false h, Bool.and_false]
  exact ⟨h1, by unfold tgT; rw [h1]; rfl⟩
theorem ownI_lt {os : List (Int × Int)} {s : Int} (h : 0 ≤ ownI os s) : ∃ (k : Nat) (o : Int × Int), ownI os s = (k : Int) ∧ os[k]? = some o ∧ o.1 = s := by
  unfold ownI at h ⊢
  cases e : own os s with
  | none => rw [e] at h; simp at h
  | some i =>
    unfold own at e
    obtain ⟨hi, h1, _⟩ := List.findIdx?_eq_some_iff_getElem.1 e
    exact ⟨i, os[i], rfl, List.getElem?_eq_getElem hi, by simpa using h1⟩
theorem tgO_yes {g : Tg} {s : Int} (h : tgv g = true) {k : Nat} {o : Int × Int} (e : ownI g.os s = (k : Int)) (eo : g.os[k]? = some o) : tgO g s = true ∧ tgT g s = o.2 := by
  have h1 : tgO g s = true := by unfold tgO; rw [h, e]; simp
  refine ⟨h1, ?_⟩
  unfold tgT
  rw [h1, if_pos rfl, e, Int.toNat_natCast, List.getD_eq_getElem?_getD, eo]
  rfl
theorem plcI_lt {ls : List Ln} {t p : Int} (h : 0 ≤ plcI ls t p) : ∃ (k : Nat) (x : Ln), plcI ls t p = (k : Int) ∧ ls[k]? = some x ∧ fits t p x = true := by
  unfold plcI at h ⊢
  cases e : plc ls t p with
  | none => rw [e] at h; simp at h
  | some i =>
    unfold plc at e
    obtain ⟨hi, h1, _⟩ := List.findIdx?_eq_some_iff_getElem.1 e
    exact ⟨i, ls[i], rfl, List.getElem?_eq_getElem hi, h1⟩
theorem drpC_no {m : Ma} {s p : Int} (h : tagO m s p = false) : drpC m s p = m.c := by unfold drpC; rw [if_neg]; rintro ⟨h1, _⟩; rw [h] at h1; cases h1
theorem drpC_neg {m : Ma} {s p : Int} (h : ¬ 0 ≤ plcI m.c.ls (tagT m s p) p) : drpC m s p = m.c := by unfold drpC; rw [if_neg]; exact fun h1 => h h1.2
theorem drpC_at {m : Ma} {s p : Int} (h : tagO m s p = true) {k : Nat} (e : plcI m.c.ls (tagT m s p) p = (k : Int)) : drpC m s p = ⟨m.c.ls.set k lnz, m.c.hand⟩ := by unfold drpC; rw [if_pos ⟨h, by omega⟩, e, Int.toNat_natCast]
theorem drpC_len {m : Ma} {s p : Int} : (drpC m s p).ls.length = m.c.ls.length := by unfold drpC; split <;> simp
theorem drpC_hand {m : Ma} {s p : Int} : (drpC m s p).hand = m.c.hand := by unfold drpC; split <;> rfl
end Go.Proofs.YtkmocongdkacjaaGreatDoor
namespace Go.Proofs.YtkmocongdkacjaaGreatDoor
open Go.RowKit
set_option maxRecDepth 1000000
theorem own_p (vo : Value) (g : Tg) (s : Int) (w : World) (hT : SlR owE w vo g.os) :
    Calls Tryz.prog 77 #[.agg #[.int .i64 g.count, .int .i64 g.next, .int .i64 g.round, vo], .int .i64 s] w (Post2 fun v w' => v = .int .i64 (ownI g.os s) ∧ Below w.heap.size w w') := post2_of (own_any vo g s w hT)
set_option maxHeartbeats 1000000 in
theorem TagOf_any (vo : Value) (g : Tg) (s : Int) (w : World) (hT : SlR owE w vo g.os) :
    Calls Tryz.prog 191 #[.agg #[.int .i64 g.count, .int .i64 g.next, .int .i64 g.round, vo], .int .i64 s] w fun r w' => r = .returned (.tuple #[.int .i64 (tgT g s), .bool (tgO g s)]) ∧ Below w.heap.size w w' := by
  have HV := Lib.hid hT
  obtain ⟨A, cc, rfl, hbc, hbm, hL⟩ := hT
  have hfm2 : g.os.length ≤ 9223372036854775807 := by unfold maxLen at hbm; omega
  have HL := Lib.hid hL
  have hbx := Own.new_ w 32 #[.int .i64 g.count, .int .i64 g.next, .int .i64 g.round, .slice A g.os.length cc]
  have hbz : Below w.heap.size w (w.alloc (.cells #[.int .i64 g.count, .int .i64 g.next, .int .i64 g.round, .slice A g.os.length cc] 32)) := bA bR
  have hsz0 : (w.alloc (.cells #[.int .i64 g.count, .int .i64 g.next, .int .i64 g.round, .slice A g.os.length cc] 32)).heap.size = w.heap.size + 1 := by simp
  generalize hW : w.alloc (.cells #[.int .i64 g.count, .int .i64 g.next, .int .i64 g.round, .slice A g.os.length cc] 32) = W0 at hbx hbz hsz0
  have q0 := hbx.cell_ 0 (v := .int .i64 g.count) rfl
  have q1 := hbx.cell_ 1 (v := .int .i64 g.next) rfl
  have q2 := hbx.cell_ 2 (v := .int .i64 g.round) rfl
  have q3 := hbx.cell_ 3 (v := .slice A g.os.length cc) rfl
  have HBX := Lib.hid hbx
  clear hL hbx
  go_enter Tryz.func191, Tryz.ntmps191
  go_wp2_with fail
  refine (TagsValid_any _ g _ (HV.out.now hbz)).mono ?_
  rintro e w1 ⟨rfl, hb1⟩
  have HBX1 := Lib.hid (HBX.out.below hb1)
  have HBZ1 := Lib.hid (bT hbz hb1)
  clear hb1 q0 q1 q2 q3
  have q0 := HBX1.out.cell_ 0 (v := .int .i64 g.count) rfl
  have q1 := HBX1.out.cell_ 1 (v := .int .i64 g.next) rfl
  have q2 := HBX1.out.cell_ 2 (v := .int .i64 g.round) rfl
  have q3 := HBX1.out.cell_ 3 (v := .slice A g.os.length cc) rfl
  cases h1 : tgv g with
  | false =>
    obtain ⟨e1, e2⟩ := tgO_no (s := s) h1
    have E1 := Lib.hid e1
    have E2 := Lib.hid e2
    clear e1 e2
    go_wp2
    go_ret2
    exact ⟨by rw [E1.out, E2.out]; rfl, HBZ1.out⟩
  | true =>
    go_wp2_with fail
    refine (own_any _ g s _ (HV.out.now HBZ1.out)).mono ?_
    rintro e w2 ⟨rfl, hb2⟩
    have HBX2 := Lib.hid (HBX1.out.below hb2)
    have HBZ2 := Lib.hid (bT HBZ1.out hb2)
    clear hb2 q0 q1 q2 q3
    have q0 := HBX2.out.cell_ 0 (v := .int .i64 g.count) rfl
    have q1 := HBX2.out.cell_ 1 (v := .int .i64 g.next) rfl
    have q2 := HBX2.out.cell_ 2 (v := .int .i64 g.round) rfl
    have q3 := HBX2.out.cell_ 3 (v := .slice A g.os.length cc) rfl
    by_cases h2 : 0 ≤ ownI g.os s
    case neg =>
      obtain ⟨e1, e2⟩ := tgO_neg h2
      have E1 := Lib.hid e1
      have E2 := Lib.hid e2
      have h2b : ownI g.os s < 0 := by omega
      clear e1 e2
      go_wp2
      go_ret2
      exact ⟨by rw [E1.out, E2.out]; rfl, HBZ2.out⟩
    case pos =>
      obtain ⟨k, o, hk, eo, _⟩ := ownI_lt h2
      obtain ⟨e1, e2⟩ := tgO_yes h1 hk eo
      have E1 := Lib.hid e1
      have E2 := Lib.hid e2
      have HN := Lib.hid hk
      have EO := Lib.hid eo
      have hkl := (List.getElem?_eq_some_iff.1 eo).1
      have HOW : Hid (∀ W, SlR owE W (.slice A g.os.length cc) g.os → Calls Tryz.prog 77 #[.agg #[.int .i64 g.count, .int .i64 g.next, .int .i64 g.round, .slice A g.os.length cc], .int .i64 s] W fun r w' => r = .returned (.int .i64 (k : Int)) ∧ Below W.heap.size W w') := fun W h => by rw [← hk]; exact own_any _ g s W h
      rw [hk]
      have h2b : ¬ (k : Int) < 0 := by omega
      clear e1 e2 hk eo h2 q0 q1 q2 q3
      obtain ⟨b, ob, rfl, hbb, d0, d1⟩ := (HL.out.now (Nat.le_refl _) HBZ2.out).ow EO.out
      have q0 := xcell (HBX2.out.cell_ 0 (v := .int .i64 g.count) rfl) HBX2.out.lt
      have q1 := xcell (HBX2.out.cell_ 1 (v := .int .i64 g.next) rfl) HBX2.out.lt
      have q2 := xcell (HBX2.out.cell_ 2 (v := .int .i64 g.round) rfl) HBX2.out.lt
      have q3 := xcell (HBX2.out.cell_ 3 (v := .slice (some ⟨b, ob, none⟩) g.os.length cc) rfl) HBX2.out.lt
      have y1 := xcell d1 hbb
      clear d0 d1
      go_wp2
      refine wp_region_ext (by kernel_rfl) (by kernel_rfl) ?_
      repeat (go_big_quiet_step ((go_at_call 77; exact ext_call (HOW.out _ (HV.out.now (bT HBZ2.out (Ext.ok _)))))))
      refine wpQuiet_nil ?_
      intro _ hw'
      obtain ⟨⟨wq, hq⟩, hw''⟩ := hw'
      subst hw''
      try dsimp only
      go_wp2
      go_ret2
      exact ⟨by rw [E1.out, E2.out]; rfl, bT HBZ2.out hq⟩
set_option maxHeartbeats 1000000 in
theorem tagFor_any (vb vf vl vo : Value) (m : Ma) (s p : Int) (w : World) (hM : MaR w vb vf vl vo m) :
    Calls Tryz.prog 141 #[.agg #[vb, vf, vl, .int .i64 m.c.hand, .int .i64 m.g.count, .int .i64 m.g.next, .int .i64 m.g.round, vo, .int .i64 m.sp], .int .i64 s, .int .i64 p] w fun r w' => r = .returned (.tuple #[.int .i64 (tagT m s p), .bool (tagO m s p)]) ∧ Below w.heap.size w w' := by
  have HM := Lib.hid hM
  clear hM
  have hbx := Own.new_ w 34 #[vb, vf, vl, .int .i64 m.c.hand, .int .i64 m.g.count, .int .i64 m.g.next, .int .i64 m.g.round, vo, .int .i64 m.sp]
  have hbz : Below w.heap.size w (w.alloc (.cells #[vb, vf, vl, .int .i64 m.c.hand, .int .i64 m.g.count, .int .i64 m.g.next, .int .i64 m.g.round, vo, .int .i64 m.sp] 34)) := bA bR
  generalize hW : w.alloc (.cells #[vb, vf, vl, .int .i64 m.c.hand, .int .i64 m.g.count, .int .i64 m.g.next, .int .i64 m.g.round, vo, .int .i64 m.sp] 34) = W0 at hbx hbz
  have HX0 := Lib.hid hbx
  have HB0 := Lib.hid hbz
  clear hbx hbz
  have m00 := HX0.out.cell_ 0 (v := vb) rfl
  have m10 := HX0.out.cell_ 1 (v := vf) rfl
  have m20 := HX0.out.cell_ 2 (v := vl) rfl
  have m30 := HX0.out.cell_ 3 (v := .int .i64 m.c.hand) rfl
  have m40 := HX0.out.cell_ 4 (v := .int .i64 m.g.count) rfl
  have m50 := HX0.out.cell_ 5 (v := .int .i64 m.g.next) rfl
  have m60 := HX0.out.cell_ 6 (v := .int .i64 m.g.round) rfl
  have m70 := HX0.out.cell_ 7 (v := vo) rfl
  have m80 := HX0.out.cell_ 8 (v := .int .i64 m.sp) rfl
  by_cases h : 128 ≤ p
  · have E1 : Hid (tagT m s p = -1) := if_pos h
    have E2 : Hid (tagO m s p = true) := if_pos h
    go_enter Tryz.func141, Tryz.ntmps141
    go_wp2
    go_ret2
    exact ⟨by rw [E1.out, E2.out]; rfl, HB0.out⟩
  · have E1 : Hid (tagT m s p = tgT m.g s) := if_neg h
    have E2 : Hid (tagO m s p = tgO m.g s) := if_neg h
    go_enter Tryz.func141, Tryz.ntmps141
    go_wp2_with fail
    refine (TagOf_any vo m.g s _ (HM.out.o.now HB0.out)).mono ?_
    rintro e w1 ⟨rfl, hb1⟩
    go_wp2
    go_ret2
    exact ⟨by rw [E1.out, E2.out]; rfl, bT HB0.out hb1⟩
set_option maxHeartbeats 1000000 in
theorem l6Tag_any (vb vf vl vo : Value) (m : Ma) (s p : Int) (w : World) (hM : MaR w vb vf vl vo m) (hg : tgv m.g = true) :
    Calls Tryz.prog 186 #[.agg #[vb, vf, vl, .int .i64 m.c.hand, .int .i64 m.g.count, .int .i64 m.g.next, .int .i64 m.g.round, vo, .int .i64 m.sp], .int .i64 s, .int .i64 p] w fun r w' => r = .returned (.tuple #[.int .i64 (tagT m s p), .bool (tagO m s p)]) ∧ Below w.heap.size w w' := by
  have HM := Lib.hid hM
  clear hM
  have hbx := Own.new_ w 34 #[vb, vf, vl, .int .i64 m.c.hand, .int .i64 m.g.count, .int .i64 m.g.next, .int .i64 m.g.round, vo, .int .i64 m.sp]
  have hbz : Below w.heap.size w (w.alloc (.cells #[vb, vf, vl, .int .i64 m.c.hand, .int .i64 m.g.count, .int .i64 m.g.next, .int .i64 m.g.round, vo, .int .i64 m.sp] 34)) := bA bR
  generalize hW : w.alloc (.cells #[vb, vf, vl, .int .i64 m.c.hand, .int .i64 m.g.count, .int .i64 m.g.next, .int .i64 m.g.round, vo, .int .i64 m.sp] 34) = W0 at hbx hbz
  have HX0 := Lib.hid hbx
  have HB0 := Lib.hid hbz
  clear hbx hbz
  have m00 := HX0.out.cell_ 0 (v := vb) rfl
  have m10 := HX0.out.cell_ 1 (v := vf) rfl
  have m20 := HX0.out.cell_ 2 (v := vl) rfl
  have m30 := HX0.out.cell_ 3 (v := .int .i64 m.c.hand) rfl
  have m40 := HX0.out.cell_ 4 (v := .int .i64 m.g.count) rfl
  have m50 := HX0.out.cell_ 5 (v := .int .i64 m.g.next) rfl
  have m60 := HX0.out.cell_ 6 (v := .int .i64 m.g.round) rfl
  have m70 := HX0.out.cell_ 7 (v := vo) rfl
  have m80 := HX0.out.cell_ 8 (v := .int .i64 m.sp) rfl
  by_cases h : 128 ≤ p
  · have E1 : Hid (tagT m s p = -1) := if_pos h
    have E2 : Hid (tagO m s p = true) := if_pos h
    go_enter Tryz.func186, Tryz.ntmps186
    go_wp2
    go_ret2
    exact ⟨by rw [E1.out, E2.out]; rfl, HB0.out⟩
  · have E1 : Hid (tagT m s p = tgT m.g s) := if_neg h
    have E2 : Hid (tagO m s p = tgO m.g s) := if_neg h
    by_cases h2 : 0 ≤ ownI m.g.os s
    case neg =>
      obtain ⟨e1, e2⟩ := tgO_neg h2
      have F1 := Lib.hid e1
      have F2 := Lib.hid e2
      have h2b : ownI m.g.os s < 0 := by omega
      clear e1 e2
      go_enter Tryz.func186, Tryz.ntmps186
      go_wp2_with fail
      refine (l5Find_any _ m.g s _ (HM.out.o.now HB0.out)).mono ?_
      rintro e w1 ⟨rfl, hb1⟩
      go_wp2
      go_ret2
      exact ⟨by rw [E1.out, E2.out, F1.out, F2.out]; rfl, bT HB0.out hb1⟩
    case pos =>
      obtain ⟨k, o, hk, eo, _⟩ := ownI_lt h2
      obtain ⟨e1, e2⟩ := tgO_yes hg hk eo
      have F1 := Lib.hid e1
      have F2 := Lib.hid e2
      have HN := Lib.hid hk
      have EO := Lib.hid eo
      have hkl := (List.getElem?_eq_some_iff.1 eo).1
      have h2b : ¬ (k : Int) < 0 := by omega
      clear e1 e2 hk eo h2
      go_enter Tryz.func186, Tryz.ntmps186
      go_wp2_with fail
      refine (l5Find_any _ m.g s _ (HM.out.o.now HB0.out)).mono ?_
      rintro e w1 ⟨rfl, hb1⟩
      rw [HN.out]
      obtain ⟨A, cc, rfl, hbc, hbm, hL⟩ := HM.out.o
      obtain ⟨b, ob, rfl, hbb, d0, d1⟩ := (hL.now (Nat.le_refl _) (bT HB0.out hb1)).ow EO.out
      have HB1 := Lib.hid (bT HB0.out hb1)
      have m7 := (HX0.out.below hb1).cell_ 7 (v := .slice (some ⟨b, ob, none⟩) m.g.os.length cc) rfl
      clear m00 m10 m20 m30 m40 m50 m60 m70 m80 hb1
      go_wp2
      go_ret2
      exact ⟨by rw [E1.out, E2.out, F1.out, F2.out]; rfl, HB1.out⟩
end Go.Proofs.YtkmocongdkacjaaGreatDoor
namespace Go.Proofs.YtkmocongdkacjaaGreatDoor
open Go.RowKit
set_option maxRecDepth 1000000
theorem Own.ne {w : World} {g g2 : Nat} {t t2 : TypeId} {cs cs2 : Array Value} (h : Own w g t cs) (h2 : Own w g2 t2 cs2) (hne : t ≠ t2) : g ≠ g2 := by
  rintro rfl
  unfold Own at h h2
  rw [h] at h2
  injection h2 with h2
  injection h2 with _ h2
  exact hne h2
set_option maxHeartbeats 2000000 in
theorem MineE.wln {e : TypeId} {B : Nat} {w : World} {g : Nat} {l : List Ln} (h : MineE lnE e B w (some ⟨g, 0, none⟩) l) {k : Nat} (hk : k < l.length) (x : Ln) :
    MineE lnE e B ((((((w.setCell ⟨g, k * 6, none⟩ (.bool x.v)).setCell ⟨g, k * 6 + 1, none⟩ (.int .i64 x.t)).setCell ⟨g, k * 6 + 2, none⟩ (.int .i64 x.p)).setCell ⟨g, k * 6 + 3, none⟩ (.int .i64 x.f)).setCell ⟨g, k * 6 + 4, none⟩ (.int .i64 x.r)).setCell ⟨g, k * 6 + 5, none⟩ (.bool x.w)) (some ⟨g, 0, none⟩) (l.set k x) := by
  obtain ⟨g2, cs, e1, hB, ho, hs⟩ := h.own (by omega)
  injection e1 with e1
  injection e1 with e1
  subst e1
  have hs2 : l.length * 6 ≤ cs.size := by simpa [lnE] using hs
  refine h.write ho ((((((ho.set_ (k * 6) _).set_ (k * 6 + 1) _).set_ (k * 6 + 2) _).set_ (k * 6 + 3) _).set_ (k * 6 + 4) _).set_ (k * 6 + 5) _) (by simp) hk x (fun j u hj => ?_) (fun i hi => ?_)
  · simp only [lnE] at hj ⊢
    match j, hj with
    | 0, hj => simp at hj; subst hj; simp [Array.getElem?_setIfInBounds]; omega
    | 1, hj => simp at hj; subst hj; simp [Array.getElem?_setIfInBounds]; omega
    | 2, hj => simp at hj; subst hj; simp [Array.getElem?_setIfInBounds]; omega
    | 3, hj => simp at hj; subst hj; simp [Array.getElem?_setIfInBounds]; omega
    | 4, hj => simp at hj; subst hj; simp [Array.getElem?_setIfInBounds]; omega
    | 5, hj => simp at hj; subst hj; simp [Array.getElem?_setIfInBounds]; omega
    | j + 6, hj => simp at hj
  · simp only [lnE] at hi
    rw [Array.getElem?_setIfInBounds, if_neg (by omega), Array.getElem?_setIfInBounds, if_neg (by omega), Array.getElem?_setIfInBounds, if_neg (by omega), Array.getElem?_setIfInBounds, if_neg (by omega), Array.getElem?_setIfInBounds, if_neg (by omega), Array.getElem?_setIfInBounds, if_neg (by omega)]
theorem SlM.own_ {α : Type} {E : Enc α} {e : TypeId} {B : Nat} {w : World} {A : Option Addr} {n c : Nat} {l : List α} (h : SlM E e B w (.slice A n c) l) : MineE E e B w A l ∧ n = l.length ∧ l.length ≤ c ∧ c ≤ maxLen := by
  obtain ⟨A', c', h1, h2, h3, h4⟩ := h
  injection h1 with h1 h5 h6
  subst h1 h6
  exact ⟨h4, h5, h2, h3⟩
set_option maxHeartbeats 4000000 in
theorem dropped_any (vb vf vl vo ta tb : Value) (m : Ma) (t : Tab) (s p : Int) (B : Nat) (w : World) (hM : MaR w vb vf vl vo m) (hB : B ≤ w.heap.size) (hT : TaM B w ta tb t)
    (a1 : m.t.bs.length ≤ 1048576) (a2 : m.t.fs.length ≤ 1048576) (a3 : m.c.ls.length ≤ 1048576) (a4 : m.g.os.length ≤ 1048576) :
    Calls Tryz.prog 73 #[.agg #[vb, vf, vl, .int .i64 m.c.hand, .int .i64 m.g.count, .int .i64 m.g.next, .int .i64 m.g.round, vo, .int .i64 m.sp], .agg #[ta, tb], .agg #[.int .i64 s, .int .i64 p]] w (Post2 fun v w' => ∃ v1 v2 v3 v4, v = .agg #[v1, v2, v3, .int .i64 (drpM m t s p).c.hand, .int .i64 (drpM m t s p).g.count, .int .i64 (drpM m t s p).g.next, .int .i64 (drpM m t s p).g.round, v4, .int .i64 (drpM m t s p).sp] ∧ MaM B w' v1 v2 v3 v4 (drpM m t s p) ∧ Below w.heap.size w w') := by
  have hbx := (((Own.new_ w 34 #[vb, vf, vl, .int .i64 m.c.hand, .int .i64 m.g.count, .int .i64 m.g.next, .int .i64 m.g.round, vo, .int .i64 m.sp]).alloc (o := .cells #[ta, tb] 26)).alloc (o := .cells #[.int .i64 s, .int .i64 p] 36)).alloc (o := .cells #[.slice none 0 0, .slice none 0 0, .slice none 0 0, .int .i64 0, .int .i64 0, .int .i64 0, .int .i64 0, .slice none 0 0, .int .i64 0] 34)
  have hbt := ((ownAt (W := w.alloc (.cells #[vb, vf, vl, .int .i64 m.c.hand, .int .i64 m.g.count, .int .i64 m.g.next, .int .i64 m.g.round, vo, .int .i64 m.sp] 34)) (g := w.heap.size + 1) (t := 26) (cs := #[ta, tb]) (by simp)).alloc (o := .cells #[.int .i64 s, .int .i64 p] 36)).alloc (o := .cells #[.slice none 0 0, .slice none 0 0, .slice none 0 0, .int .i64 0, .int .i64 0, .int .i64 0, .int .i64 0, .slice none 0 0, .int .i64 0] 34)
  have hbk := (ownAt (W := (w.alloc (.cells #[vb, vf, vl, .int .i64 m.c.hand, .int .i64 m.g.count, .int .i64 m.g.next, .int .i64 m.g.round, vo, .int .i64 m.sp] 34)).alloc (.cells #[ta, tb] 26)) (g := w.heap.size + 1 + 1) (t := 36) (cs := #[.int .i64 s, .int .i64 p]) (by simp)).alloc (o := .cells #[.slice none 0 0, .slice none 0 0, .slice none 0 0, .int .i64 0, .int .i64 0, .int .i64 0, .int .i64 0, .slice none 0 0, .int .i64 0] 34)
  have hbo := ownAt (W := ((w.alloc (.cells #[vb, vf, vl, .int .i64 m.c.hand, .int .i64 m.g.count, .int .i64 m.g.next, .int .i64 m.g.round, vo, .int .i64 m.sp] 34)).alloc (.cells #[ta, tb] 26)).alloc (.cells #[.int .i64 s, .int .i64 p] 36)) (g := w.heap.size + 1 + 1 + 1) (t := 34) (cs := #[.slice none 0 0, .slice none 0 0, .slice none 0 0, .int .i64 0, .int .i64 0, .int .i64 0, .int .i64 0, .slice none 0 0, .int .i64 0]) (by simp)
  have hb0 : Below w.heap.size w ((((w.alloc (.cells #[vb, vf, vl, .int .i64 m.c.hand, .int .i64 m.g.count, .int .i64 m.g.next, .int .i64 m.g.round, vo, .int .i64 m.sp] 34)).alloc (.cells #[ta, tb] 26)).alloc (.cells #[.int .i64 s, .int .i64 p] 36)).alloc (.cells #[.slice none 0 0, .slice none 0 0, .slice none 0 0, .int .i64 0, .int .i64 0, .int .i64 0, .int .i64 0, .slice none 0 0, .int .i64 0] 34)) := bA (bA (bA (bA bR)))
  have hs0 : ((((w.alloc (.cells #[vb, vf, vl, .int .i64 m.c.hand, .int .i64 m.g.count, .int .i64 m.g.next, .int .i64 m.g.round, vo, .int .i64 m.sp] 34)).alloc (.cells #[ta, tb] 26)).alloc (.cells #[.int .i64 s, .int .i64 p] 36)).alloc (.cells #[.slice none 0 0, .slice none 0 0, .slice none 0 0, .int .i64 0, .int .i64 0, .int .i64 0, .int .i64 0, .slice none 0 0, .int .i64 0] 34)).heap.size = w.heap.size + 4 := by simp
  generalize hW : (((w.alloc (.cells #[vb, vf, vl, .int .i64 m.c.hand, .int .i64 m.g.count, .int .i64 m.g.next, .int .i64 m.g.round, vo, .int .i64 m.sp] 34)).alloc (.cells #[ta, tb] 26)).alloc (.cells #[.int .i64 s, .int .i64 p] 36)).alloc (.cells #[.slice none 0 0, .slice none 0 0, .slice none 0 0, .int .i64 0, .int .i64 0, .int .i64 0, .int .i64 0, .slice none 0 0, .int .i64 0] 34) = W0 at hbx hbt hbk hbo hb0 hs0
  have HX0 := Lib.hid hbx
  have HY0 := Lib.hid hbt
  have HK0 := Lib.hid hbk
  have HR0 := Lib.hid hbo
  have HB0 := Lib.hid hb0
  have HS0 : Hid (w.heap.size + 4 ≤ W0.heap.size) := Nat.le_of_eq hs0.symm
  clear hbx hbt hbk hbo hb0
  have HM := Lib.hid hM
  clear hM
  obtain ⟨A1, c1, rfl, _⟩ := hT.b
  obtain ⟨A2, c2, rfl, _⟩ := hT.f
  have HT := Lib.hid (hT.now HB0.out)
  clear hT
  have hBW : B ≤ W0.heap.size := Nat.le_trans hB (by omega)
  have m00 := HX0.out.cell_ 0 (v := vb) rfl
  have m10 := HX0.out.cell_ 1 (v := vf) rfl
  have m20 := HX0.out.cell_ 2 (v := vl) rfl
  have m30 := HX0.out.cell_ 3 (v := .int .i64 m.c.hand) rfl
  have m40 := HX0.out.cell_ 4 (v := .int .i64 m.g.count) rfl
  have m50 := HX0.out.cell_ 5 (v := .int .i64 m.g.next) rfl
  have m60 := HX0.out.cell_ 6 (v := .int .i64 m.g.round) rfl
  have m70 := HX0.out.cell_ 7 (v := vo) rfl
  have m80 := HX0.out.cell_ 8 (v := .int .i64 m.sp) rfl
  go_enter Tryz.func73, Tryz.ntmps73
  go_wp2_with fail
  refine (mclone_any vb vf vl vo m _ (HM.out.now HB0.out) a1 a2 a3 a4).mono ?_
  rintro e w3 ⟨_, rfl, q1, q2, q3, q4, rfl, hM3, hb3⟩
  obtain ⟨B1, d1, rfl, _⟩ := hM3.t.b
  obtain ⟨B2, d2, rfl, _⟩ := hM3.t.f
  obtain ⟨B3, d3, rfl, _⟩ := hM3.l
  obtain ⟨B4, d4, rfl, _⟩ := hM3.o
  have HY3 := HY0.out.below hb3
  have hly3 := HY3.lt
  have u0 := HY3.cell_ 0 (v := .slice A1 t.bs.length c1) rfl
  have u1 := HY3.cell_ 1 (v := .slice A2 t.fs.length c2) rfl
  have HMM3 := Lib.hid hM3
  have HX3 := Lib.hid (HX0.out.below hb3)
  have HK3 := Lib.hid (HK0.out.below hb3)
  have HR3 := Lib.hid (HR0.out.below hb3)
  have HB3 := Lib.hid (bT HB0.out hb3)
  have HTM3 := Lib.hid (HT.out.now hb3)
  have hs3 := hb3.size
  have ho4 := Own.new_ w3 34 #[.slice A1 t.bs.length c1, .slice A2 t.fs.length c2, .slice B3 m.c.ls.length d3, .int .i64 m.c.hand, .int .i64 m.g.count, .int .i64 m.g.next, .int .i64 m.g.round, .slice B4 m.g.os.length d4, .int .i64 m.sp]
  have hb4 : Below w3.heap.size w3 (w3.alloc (.cells #[.slice A1 t.bs.length c1, .slice A2 t.fs.length c2, .slice B3 m.c.ls.length d3, .int .i64 m.c.hand, .int .i64 m.g.count, .int .i64 m.g.next, .int .i64 m.g.round, .slice B4 m.g.os.length d4, .int .i64 m.sp] 34)) := bA bR
  generalize hW4 : w3.alloc (.cells #[.slice A1 t.bs.length c1, .slice A2 t.fs.length c2, .slice B3 m.c.ls.length d3, .int .i64 m.c.hand, .int .i64 m.g.count, .int .i64 m.g.next, .int .i64 m.g.round, .slice B4 m.g.os.length d4, .int .i64 m.sp] 34) = w4 at ho4 hb4
  have HX4 := Lib.hid (HX3.out.below hb4)
  have HK4 := Lib.hid (HK3.out.below hb4)
  have HR4 := Lib.hid (HR3.out.below hb4)
  have HB4 := Lib.hid (bT HB3.out hb4)
  have HMM4 := Lib.hid (HMM3.out.now hb4)
  have HTM4 := Lib.hid (HTM3.out.now hb4)
  have HO4 := Lib.hid ho4
  clear hM3 hb3 hb4 ho4 HY3 m00 m10 m20 m30 m40 m50 m60 m70 m80
  have m04 := HX4.out.cell_ 0 (v := vb) rfl
  have m14 := HX4.out.cell_ 1 (v := vf) rfl
  have m24 := HX4.out.cell_ 2 (v := vl) rfl
  have m34 := HX4.out.cell_ 3 (v := .int .i64 m.c.hand) rfl
  have m44 := HX4.out.cell_ 4 (v := .int .i64 m.g.count) rfl
  have m54 := HX4.out.cell_ 5 (v := .int .i64 m.g.next) rfl
  have m64 := HX4.out.cell_ 6 (v := .int .i64 m.g.round) rfl
  have m74 := HX4.out.cell_ 7 (v := vo) rfl
  have m84 := HX4.out.cell_ 8 (v := .int .i64 m.sp) rfl
  have k04 := HK4.out.cell_ 0 (v := .int .i64 s) rfl
  have k14 := HK4.out.cell_ 1 (v := .int .i64 p) rfl
  go_wp2_with fail
  refine (tagFor_any vb vf vl vo m s p _ (HM.out.now HB4.out)).mono ?_
  rintro e w5 ⟨rfl, hb5⟩
  have HX5 := Lib.hid (HX4.out.below hb5)
  have HK5 := Lib.hid (HK4.out.below hb5)
  have HR5 := Lib.hid (HR4.out.below hb5)
  have HB5 := Lib.hid (bT HB4.out hb5)
  have HMM5 := Lib.hid (HMM4.out.now hb5)
  have HTM5 := Lib.hid (HTM4.out.now hb5)
  have HO5 := Lib.hid (HO4.out.below hb5)
  clear m04 m14 m24 m34 m44 m54 m64 m74 m84
  clear hb5 u0 u1 k04 k14 hW4
  cases hto : tagO m s p with
  | false =>
    have HV : Hid (drpM m t s p = ⟨t, m.c, m.g, m.sp⟩) := by show _ = _; unfold drpM; rw [drpC_no hto]
    have r0x := HR5.out.cell_ 0 (v := .slice none 0 0) rfl
    have r1x := HR5.out.cell_ 1 (v := .slice none 0 0) rfl
    have r2x := HR5.out.cell_ 2 (v := .slice none 0 0) rfl
    have r3x := HR5.out.cell_ 3 (v := .int .i64 0) rfl
    have r4x := HR5.out.cell_ 4 (v := .int .i64 0) rfl
    have r5x := HR5.out.cell_ 5 (v := .int .i64 0) rfl
    have r6x := HR5.out.cell_ 6 (v := .int .i64 0) rfl
    have r7x := HR5.out.cell_ 7 (v := .slice none 0 0) rfl
    have r8x := HR5.out.cell_ 8 (v := .int .i64 0) rfl
    have z0x := HR5.out.free 0
    have z1x := HR5.out.free 1
    have z2x := HR5.out.free 2
    have z3x := HR5.out.free 3
    have z4x := HR5.out.free 4
    have z5x := HR5.out.free 5
    have z6x := HR5.out.free 6
    have z7x := HR5.out.free 7
    have z8x := HR5.out.free 8
    have p0o := HO5.out.cell_ 0 (v := .slice A1 t.bs.length c1) rfl
    have p1o := HO5.out.cell_ 1 (v := .slice A2 t.fs.length c2) rfl
    have p2o := HO5.out.cell_ 2 (v := .slice B3 m.c.ls.length d3) rfl
    have p3o := HO5.out.cell_ 3 (v := .int .i64 m.c.hand) rfl
    have p4o := HO5.out.cell_ 4 (v := .int .i64 m.g.count) rfl
    have p5o := HO5.out.cell_ 5 (v := .int .i64 m.g.next) rfl
    have p6o := HO5.out.cell_ 6 (v := .int .i64 m.g.round) rfl
    have p7o := HO5.out.cell_ 7 (v := .slice B4 m.g.os.length d4) rfl
    have p8o := HO5.out.cell_ 8 (v := .int .i64 m.sp) rfl
    have hlr := HR5.out.lt
    have hlo := HO5.out.lt
    go_wp2
    have o3 := HR5.out.set9 (.slice A1 t.bs.length c1) (.slice A2 t.fs.length c2) (.slice B3 m.c.ls.length d3) (.int .i64 m.c.hand) (.int .i64 m.g.count) (.int .i64 m.g.next) (.int .i64 m.g.round) (.slice B4 m.g.os.length d4) (.int .i64 m.sp)
    have p0t := o3.cell_ 0 (v := .slice A1 t.bs.length c1) rfl
    have p1t := o3.cell_ 1 (v := .slice A2 t.fs.length c2) rfl
    have p2t := o3.cell_ 2 (v := .slice B3 m.c.ls.length d3) rfl
    have p3t := o3.cell_ 3 (v := .int .i64 m.c.hand) rfl
    have p4t := o3.cell_ 4 (v := .int .i64 m.g.count) rfl
    have p5t := o3.cell_ 5 (v := .int .i64 m.g.next) rfl
    have p6t := o3.cell_ 6 (v := .int .i64 m.g.round) rfl
    have p7t := o3.cell_ 7 (v := .slice B4 m.g.os.length d4) rfl
    have p8t := o3.cell_ 8 (v := .int .i64 m.sp) rfl
    have hmm : MaM B _ (.slice A1 t.bs.length c1) (.slice A2 t.fs.length c2) (.slice B3 m.c.ls.length d3) (.slice B4 m.g.os.length d4) ⟨t, m.c, m.g, m.sp⟩ := ⟨HTM5.out, HMM5.out.l.mono hBW, HMM5.out.o.mono hBW⟩
    refine bodyPost_ret (v := .agg #[.slice A1 t.bs.length c1, .slice A2 t.fs.length c2, .slice B3 m.c.ls.length d3, .int .i64 m.c.hand, .int .i64 m.g.count, .int .i64 m.g.next, .int .i64 m.g.round, .slice B4 m.g.os.length d4, .int .i64 m.sp]) (by simp [results, Tryz.results73, go_sem, p0t, p1t, p2t, p3t, p4t, p5t, p6t, p7t, p8t]) rfl ⟨_, rfl, _, _, _, _, by rw [HV.out], ?_, ?_⟩
    · rw [HV.out]
      exact hmm.far9 HR5.out _ _ _ _ _ _ _ _ _
    · repeat (refine bS ?_ (by simp <;> omega))
      exact HB5.out
  | true =>
    have m05 := HX5.out.cell_ 0 (v := vb) rfl
    have m15 := HX5.out.cell_ 1 (v := vf) rfl
    have m25 := HX5.out.cell_ 2 (v := vl) rfl
    have m35 := HX5.out.cell_ 3 (v := .int .i64 m.c.hand) rfl
    have m45 := HX5.out.cell_ 4 (v := .int .i64 m.g.count) rfl
    have m55 := HX5.out.cell_ 5 (v := .int .i64 m.g.next) rfl
    have m65 := HX5.out.cell_ 6 (v := .int .i64 m.g.round) rfl
    have m75 := HX5.out.cell_ 7 (v := vo) rfl
    have m85 := HX5.out.cell_ 8 (v := .int .i64 m.sp) rfl
    have k05 := HK5.out.cell_ 0 (v := .int .i64 s) rfl
    have k15 := HK5.out.cell_ 1 (v := .int .i64 p) rfl
    go_wp2_with fail
    refine (place_any vl m.c (tagT m s p) p _ (HM.out.l.now HB5.out)).mono ?_
    rintro e w6 ⟨rfl, hb6⟩
    have HX6 := Lib.hid (HX5.out.below hb6)
    have HK6 := Lib.hid (HK5.out.below hb6)
    have HR6 := Lib.hid (HR5.out.below hb6)
    have HB6 := Lib.hid (bT HB5.out hb6)
    have HMM6 := Lib.hid (HMM5.out.now hb6)
    have HTM6 := Lib.hid (HTM5.out.now hb6)
    have HO6 := Lib.hid (HO5.out.below hb6)
    clear m05 m15 m25 m35 m45 m55 m65 m75 m85
    clear hb6 k05 k15
    by_cases hp : 0 ≤ plcI m.c.ls (tagT m s p) p
    case neg =>
      have HV : Hid (drpM m t s p = ⟨t, m.c, m.g, m.sp⟩) := by show _ = _; unfold drpM; rw [drpC_neg hp]
      have r0x := HR6.out.cell_ 0 (v := .slice none 0 0) rfl
      have r1x := HR6.out.cell_ 1 (v := .slice none 0 0) rfl
      have r2x := HR6.out.cell_ 2 (v := .slice none 0 0) rfl
      have r3x := HR6.out.cell_ 3 (v := .int .i64 0) rfl
      have r4x := HR6.out.cell_ 4 (v := .int .i64 0) rfl
      have r5x := HR6.out.cell_ 5 (v := .int .i64 0) rfl
      have r6x := HR6.out.cell_ 6 (v := .int .i64 0) rfl
      have r7x := HR6.out.cell_ 7 (v := .slice none 0 0) rfl
      have r8x := HR6.out.cell_ 8 (v := .int .i64 0) rfl
      have z0x := HR6.out.free 0
      have z1x := HR6.out.free 1
      have z2x := HR6.out.free 2
      have z3x := HR6.out.free 3
      have z4x := HR6.out.free 4
      have z5x := HR6.out.free 5
      have z6x := HR6.out.free 6
      have z7x := HR6.out.free 7
      have z8x := HR6.out.free 8
      have p0o := HO6.out.cell_ 0 (v := .slice A1 t.bs.length c1) rfl
      have p1o := HO6.out.cell_ 1 (v := .slice A2 t.fs.length c2) rfl
      have p2o := HO6.out.cell_ 2 (v := .slice B3 m.c.ls.length d3) rfl
      have p3o := HO6.out.cell_ 3 (v := .int .i64 m.c.hand) rfl
      have p4o := HO6.out.cell_ 4 (v := .int .i64 m.g.count) rfl
      have p5o := HO6.out.cell_ 5 (v := .int .i64 m.g.next) rfl
      have p6o := HO6.out.cell_ 6 (v := .int .i64 m.g.round) rfl
      have p7o := HO6.out.cell_ 7 (v := .slice B4 m.g.os.length d4) rfl
      have p8o := HO6.out.cell_ 8 (v := .int .i64 m.sp) rfl
      have hlr := HR6.out.lt
      have hlo := HO6.out.lt
      go_wp2
      have o3 := HR6.out.set9 (.slice A1 t.bs.length c1) (.slice A2 t.fs.length c2) (.slice B3 m.c.ls.length d3) (.int .i64 m.c.hand) (.int .i64 m.g.count) (.int .i64 m.g.next) (.int .i64 m.g.round) (.slice B4 m.g.os.length d4) (.int .i64 m.sp)
      have p0t := o3.cell_ 0 (v := .slice A1 t.bs.length c1) rfl
      have p1t := o3.cell_ 1 (v := .slice A2 t.fs.length c2) rfl
      have p2t := o3.cell_ 2 (v := .slice B3 m.c.ls.length d3) rfl
      have p3t := o3.cell_ 3 (v := .int .i64 m.c.hand) rfl
      have p4t := o3.cell_ 4 (v := .int .i64 m.g.count) rfl
      have p5t := o3.cell_ 5 (v := .int .i64 m.g.next) rfl
      have p6t := o3.cell_ 6 (v := .int .i64 m.g.round) rfl
      have p7t := o3.cell_ 7 (v := .slice B4 m.g.os.length d4) rfl
      have p8t := o3.cell_ 8 (v := .int .i64 m.sp) rfl
      have hmm : MaM B _ (.slice A1 t.bs.length c1) (.slice A2 t.fs.length c2) (.slice B3 m.c.ls.length d3) (.slice B4 m.g.os.length d4) ⟨t, m.c, m.g, m.sp⟩ := ⟨HTM6.out, HMM6.out.l.mono hBW, HMM6.out.o.mono hBW⟩
      refine bodyPost_ret (v := .agg #[.slice A1 t.bs.length c1, .slice A2 t.fs.length c2, .slice B3 m.c.ls.length d3, .int .i64 m.c.hand, .int .i64 m.g.count, .int .i64 m.g.next, .int .i64 m.g.round, .slice B4 m.g.os.length d4, .int .i64 m.sp]) (by simp [results, Tryz.results73, go_sem, p0t, p1t, p2t, p3t, p4t, p5t, p6t, p7t, p8t]) rfl ⟨_, rfl, _, _, _, _, by rw [HV.out], ?_, ?_⟩
      · rw [HV.out]
        exact hmm.far9 HR6.out _ _ _ _ _ _ _ _ _
      · repeat (refine bS ?_ (by simp <;> omega))
        exact HB6.out
    case pos =>
      obtain ⟨k, x, hk, ex, _⟩ := plcI_lt hp
      have HV : Hid (drpM m t s p = ⟨t, ⟨m.c.ls.set k lnz, m.c.hand⟩, m.g, m.sp⟩) := by show _ = _; unfold drpM; rw [drpC_at hto hk]
      have hkl := (List.getElem?_eq_some_iff.1 ex).1
      rw [hk]
      have EX := Lib.hid ex
      clear hk ex hp hto
      have HL6 := Lib.hid HMM6.out.l.own_
      obtain ⟨g3, cs3, rfl, hg3, O3, _⟩ := HL6.out.1.own (by omega)
      have z0 := O3.free (k * 6)
      have z1 := O3.free (k * 6 + 1)
      have z2 := O3.free (k * 6 + 2)
      have z3 := O3.free (k * 6 + 3)
      have z4 := O3.free (k * 6 + 4)
      have z5 := O3.free (k * 6 + 5)
      obtain ⟨bq, oq, eq1, _, y0, y1, y2, y3, y4, y5⟩ := HL6.out.1.is.ln EX.out
      injection eq1 with eq1
      injection eq1 with eq1 eq2
      subst eq1 eq2
      rw [Nat.zero_add] at y0 y1 y2 y3 y4 y5
      have q1 : w3.heap.size ≠ g3 := HO6.out.ne O3 (by decide)
      have q2 : g3 ≠ w3.heap.size := fun h => q1 h.symm
      have q3 : w.heap.size + 1 + 1 + 1 ≠ g3 := HR6.out.ne O3 (by decide)
      have q4 : g3 ≠ w.heap.size + 1 + 1 + 1 := fun h => q3 h.symm
      clear O3
      have r0x := HR6.out.cell_ 0 (v := .slice none 0 0) rfl
      have r1x := HR6.out.cell_ 1 (v := .slice none 0 0) rfl
      have r2x := HR6.out.cell_ 2 (v := .slice none 0 0) rfl
      have r3x := HR6.out.cell_ 3 (v := .int .i64 0) rfl
      have r4x := HR6.out.cell_ 4 (v := .int .i64 0) rfl
      have r5x := HR6.out.cell_ 5 (v := .int .i64 0) rfl
      have r6x := HR6.out.cell_ 6 (v := .int .i64 0) rfl
      have r7x := HR6.out.cell_ 7 (v := .slice none 0 0) rfl
      have r8x := HR6.out.cell_ 8 (v := .int .i64 0) rfl
      have z0x := HR6.out.free 0
      have z1x := HR6.out.free 1
      have z2x := HR6.out.free 2
      have z3x := HR6.out.free 3
      have z4x := HR6.out.free 4
      have z5x := HR6.out.free 5
      have z6x := HR6.out.free 6
      have z7x := HR6.out.free 7
      have z8x := HR6.out.free 8
      have p0o := HO6.out.cell_ 0 (v := .slice A1 t.bs.length c1) rfl
      have p1o := HO6.out.cell_ 1 (v := .slice A2 t.fs.length c2) rfl
      have p2o := HO6.out.cell_ 2 (v := .slice (some ⟨g3, 0, none⟩) m.c.ls.length d3) rfl
      have p3o := HO6.out.cell_ 3 (v := .int .i64 m.c.hand) rfl
      have p4o := HO6.out.cell_ 4 (v := .int .i64 m.g.count) rfl
      have p5o := HO6.out.cell_ 5 (v := .int .i64 m.g.next) rfl
      have p6o := HO6.out.cell_ 6 (v := .int .i64 m.g.round) rfl
      have p7o := HO6.out.cell_ 7 (v := .slice B4 m.g.os.length d4) rfl
      have p8o := HO6.out.cell_ 8 (v := .int .i64 m.sp) rfl
      have hlr := HR6.out.lt
      have hlo := HO6.out.lt
      have HML := Lib.hid (HL6.out.1.wln hkl lnz)
      go_wp2
      have f1 := ((((((HR6.out.far (p := ⟨g3, k * 6, none⟩) (u := .bool false) q3).far (p := ⟨g3, k * 6 + 1, none⟩) (u := .int .i64 0) q3).far (p := ⟨g3, k * 6 + 2, none⟩) (u := .int .i64 0) q3).far (p := ⟨g3, k * 6 + 3, none⟩) (u := .int .i64 0) q3).far (p := ⟨g3, k * 6 + 4, none⟩) (u := .int .i64 0) q3).far (p := ⟨g3, k * 6 + 5, none⟩) (u := .bool false) q3)
      have o3 := f1.set9 (.slice A1 t.bs.length c1) (.slice A2 t.fs.length c2) (.slice (some ⟨g3, 0, none⟩) m.c.ls.length d3) (.int .i64 m.c.hand) (.int .i64 m.g.count) (.int .i64 m.g.next) (.int .i64 m.g.round) (.slice B4 m.g.os.length d4) (.int .i64 m.sp)
      have p0t := o3.cell_ 0 (v := .slice A1 t.bs.length c1) rfl
      have p1t := o3.cell_ 1 (v := .slice A2 t.fs.length c2) rfl
      have p2t := o3.cell_ 2 (v := .slice (some ⟨g3, 0, none⟩) m.c.ls.length d3) rfl
      have p3t := o3.cell_ 3 (v := .int .i64 m.c.hand) rfl
      have p4t := o3.cell_ 4 (v := .int .i64 m.g.count) rfl
      have p5t := o3.cell_ 5 (v := .int .i64 m.g.next) rfl
      have p6t := o3.cell_ 6 (v := .int .i64 m.g.round) rfl
      have p7t := o3.cell_ 7 (v := .slice B4 m.g.os.length d4) rfl
      have p8t := o3.cell_ 8 (v := .int .i64 m.sp) rfl
      obtain ⟨_, cs3, u3, _, O3, _⟩ := HL6.out.1.own (by omega)
      injection u3 with u3
      injection u3 with u3
      subst u3
      have oa := O3.set_ (k * 6) (.bool false)
      have ob := oa.set_ (k * 6 + 1) (.int .i64 0)
      have oc := ob.set_ (k * 6 + 2) (.int .i64 0)
      have od := oc.set_ (k * 6 + 3) (.int .i64 0)
      have oe := od.set_ (k * 6 + 4) (.int .i64 0)
      have hts := ((((((HTM6.out.b.farT O3 (u := .bool false) (i := k * 6) (by decide)).farT oa (u := .int .i64 0) (i := k * 6 + 1) (by decide)).farT ob (u := .int .i64 0) (i := k * 6 + 2) (by decide)).farT oc (u := .int .i64 0) (i := k * 6 + 3) (by decide)).farT od (u := .int .i64 0) (i := k * 6 + 4) (by decide)).farT oe (u := .bool false) (i := k * 6 + 5) (by decide))
      have htf := ((((((HTM6.out.f.farT O3 (u := .bool false) (i := k * 6) (by decide)).farT oa (u := .int .i64 0) (i := k * 6 + 1) (by decide)).farT ob (u := .int .i64 0) (i := k * 6 + 2) (by decide)).farT oc (u := .int .i64 0) (i := k * 6 + 3) (by decide)).farT od (u := .int .i64 0) (i := k * 6 + 4) (by decide)).farT oe (u := .bool false) (i := k * 6 + 5) (by decide))
      have hto := ((((((HMM6.out.o.farT O3 (u := .bool false) (i := k * 6) (by decide)).farT oa (u := .int .i64 0) (i := k * 6 + 1) (by decide)).farT ob (u := .int .i64 0) (i := k * 6 + 2) (by decide)).farT oc (u := .int .i64 0) (i := k * 6 + 3) (by decide)).farT od (u := .int .i64 0) (i := k * 6 + 4) (by decide)).farT oe (u := .bool false) (i := k * 6 + 5) (by decide))
      have hmm : MaM B _ (.slice A1 t.bs.length c1) (.slice A2 t.fs.length c2) (.slice (some ⟨g3, 0, none⟩) m.c.ls.length d3) (.slice B4 m.g.os.length d4) ⟨t, ⟨m.c.ls.set k lnz, m.c.hand⟩, m.g, m.sp⟩ := ⟨⟨hts, htf⟩, slm_of (by simp) (by simpa using HL6.out.2.2.1) HL6.out.2.2.2 (HML.out.mono hBW), hto.mono hBW⟩
      refine bodyPost_ret (v := .agg #[.slice A1 t.bs.length c1, .slice A2 t.fs.length c2, .slice (some ⟨g3, 0, none⟩) m.c.ls.length d3, .int .i64 m.c.hand, .int .i64 m.g.count, .int .i64 m.g.next, .int .i64 m.g.round, .slice B4 m.g.os.length d4, .int .i64 m.sp]) (by simp [results, Tryz.results73, go_sem, p0t, p1t, p2t, p3t, p4t, p5t, p6t, p7t, p8t]) rfl ⟨_, rfl, _, _, _, _, by rw [HV.out], ?_, ?_⟩
      · rw [HV.out]
        exact hmm.far9 f1 _ _ _ _ _ _ _ _ _
      · repeat (refine bS ?_ (by simp <;> omega))
        exact HB6.out
end Go.Proofs.YtkmocongdkacjaaGreatDoor
namespace Go.Proofs.YtkmocongdkacjaaGreatDoor
open Go.RowKit
set_option maxRecDepth 1000000
set_option maxHeartbeats 4000000 in
theorem GuardPage_any (vb vf vl vo : Value) (m : Ma) (s p r : Int) (w : World) (hM : MaR w vb vf vl vo m) (hfree : Free w) :
    Calls Tryz.prog 29 #[.agg #[vb, vf, vl, .int .i64 m.c.hand, .int .i64 m.g.count, .int .i64 m.g.next, .int .i64 m.g.round, vo, .int .i64 m.sp], .agg #[.int .i64 s, .int .i64 p], .int .i64 r] w (Post2 fun v w' => ∃ v1 v2 v3 v4, v = .tuple #[.agg #[v1, v2, v3, .int .i64 (grdV m s p r).c.hand, .int .i64 (grdV m s p r).g.count, .int .i64 (grdV m s p r).g.next, .int .i64 (grdV m s p r).g.round, v4, .int .i64 (grdV m s p r).sp], .bool (grdO m s p r)] ∧ MaM w.heap.size w' v1 v2 v3 v4 (grdV m s p r) ∧ Below w.heap.size w w') := by
  have hbx := ((Own.new_ w 34 #[vb, vf, vl, .int .i64 m.c.hand, .int .i64 m.g.count, .int .i64 m.g.next, .int .i64 m.g.round, vo, .int .i64 m.sp]).alloc (o := .cells #[.int .i64 s, .int .i64 p] 36)).alloc (o := .cells #[.slice none 0 0, .slice none 0 0, .slice none 0 0, .int .i64 0, .int .i64 0, .int .i64 0, .int .i64 0, .slice none 0 0, .int .i64 0] 34)
  have hbk := (ownAt (W := w.alloc (.cells #[vb, vf, vl, .int .i64 m.c.hand, .int .i64 m.g.count, .int .i64 m.g.next, .int .i64 m.g.round, vo, .int .i64 m.sp] 34)) (g := w.heap.size + 1) (t := 36) (cs := #[.int .i64 s, .int .i64 p]) (by simp)).alloc (o := .cells #[.slice none 0 0, .slice none 0 0, .slice none 0 0, .int .i64 0, .int .i64 0, .int .i64 0, .int .i64 0, .slice none 0 0, .int .i64 0] 34)
  have hbo := ownAt (W := (w.alloc (.cells #[vb, vf, vl, .int .i64 m.c.hand, .int .i64 m.g.count, .int .i64 m.g.next, .int .i64 m.g.round, vo, .int .i64 m.sp] 34)).alloc (.cells #[.int .i64 s, .int .i64 p] 36)) (g := w.heap.size + 1 + 1) (t := 34) (cs := #[.slice none 0 0, .slice none 0 0, .slice none 0 0, .int .i64 0, .int .i64 0, .int .i64 0, .int .i64 0, .slice none 0 0, .int .i64 0]) (by simp)
  have hb0 : Below w.heap.size w (((w.alloc (.cells #[vb, vf, vl, .int .i64 m.c.hand, .int .i64 m.g.count, .int .i64 m.g.next, .int .i64 m.g.round, vo, .int .i64 m.sp] 34)).alloc (.cells #[.int .i64 s, .int .i64 p] 36)).alloc (.cells #[.slice none 0 0, .slice none 0 0, .slice none 0 0, .int .i64 0, .int .i64 0, .int .i64 0, .int .i64 0, .slice none 0 0, .int .i64 0] 34)) := bA (bA (bA bR))
  have hs0 : (((w.alloc (.cells #[vb, vf, vl, .int .i64 m.c.hand, .int .i64 m.g.count, .int .i64 m.g.next, .int .i64 m.g.round, vo, .int .i64 m.sp] 34)).alloc (.cells #[.int .i64 s, .int .i64 p] 36)).alloc (.cells #[.slice none 0 0, .slice none 0 0, .slice none 0 0, .int .i64 0, .int .i64 0, .int .i64 0, .int .i64 0, .slice none 0 0, .int .i64 0] 34)).heap.size = w.heap.size + 3 := by simp
  generalize hW : ((w.alloc (.cells #[vb, vf, vl, .int .i64 m.c.hand, .int .i64 m.g.count, .int .i64 m.g.next, .int .i64 m.g.round, vo, .int .i64 m.sp] 34)).alloc (.cells #[.int .i64 s, .int .i64 p] 36)).alloc (.cells #[.slice none 0 0, .slice none 0 0, .slice none 0 0, .int .i64 0, .int .i64 0, .int .i64 0, .int .i64 0, .slice none 0 0, .int .i64 0] 34) = W0 at hbx hbk hbo hb0 hs0
  have HX0 := Lib.hid hbx
  have HK0 := Lib.hid hbk
  have HR0 := Lib.hid hbo
  have HB0 := Lib.hid hb0
  have HS0 : Hid (w.heap.size + 3 ≤ W0.heap.size) := Nat.le_of_eq hs0.symm
  clear hbx hbk hbo hb0
  have HM := Lib.hid hM
  have HF := Lib.hid hfree
  clear hM hfree
  have m00 := HX0.out.cell_ 0 (v := vb) rfl
  have m10 := HX0.out.cell_ 1 (v := vf) rfl
  have m20 := HX0.out.cell_ 2 (v := vl) rfl
  have m30 := HX0.out.cell_ 3 (v := .int .i64 m.c.hand) rfl
  have m40 := HX0.out.cell_ 4 (v := .int .i64 m.g.count) rfl
  have m50 := HX0.out.cell_ 5 (v := .int .i64 m.g.next) rfl
  have m60 := HX0.out.cell_ 6 (v := .int .i64 m.g.round) rfl
  have m70 := HX0.out.cell_ 7 (v := vo) rfl
  have m80 := HX0.out.cell_ 8 (v := .int .i64 m.sp) rfl
  go_enter Tryz.func29, Tryz.ntmps29
  go_wp2_with fail
  refine (MachineValid_any vb vf vl vo m _ (HM.out.now HB0.out) (HF.out.now HB0.out)).mono ?_
  rintro e w1 ⟨rfl, hb1⟩
  have HX1 := Lib.hid (HX0.out.below hb1)
  have HK1 := Lib.hid (HK0.out.below hb1)
  have HR1 := Lib.hid (HR0.out.below hb1)
  have HB1 := Lib.hid (bT HB0.out hb1)
  have HS1 := Lib.hid (Nat.le_trans HS0.out hb1.size)
  clear hb1
  clear m00 m10 m20 m30 m40 m50 m60 m70 m80
  cases h1 : mav m with
  | false =>
    have HA : Hid (grdO m s p r = false) := by show _ = _; unfold grdO; rw [h1]; rfl
    have HV := Lib.hid (grdO_false HA.out)
    have r0x := HR1.out.cell_ 0 (v := .slice none 0 0) rfl
    have r1x := HR1.out.cell_ 1 (v := .slice none 0 0) rfl
    have r2x := HR1.out.cell_ 2 (v := .slice none 0 0) rfl
    have r3x := HR1.out.cell_ 3 (v := .int .i64 0) rfl
    have r4x := HR1.out.cell_ 4 (v := .int .i64 0) rfl
    have r5x := HR1.out.cell_ 5 (v := .int .i64 0) rfl
    have r6x := HR1.out.cell_ 6 (v := .int .i64 0) rfl
    have r7x := HR1.out.cell_ 7 (v := .slice none 0 0) rfl
    have r8x := HR1.out.cell_ 8 (v := .int .i64 0) rfl
    have z0x := HR1.out.free 0
    have z1x := HR1.out.free 1
    have z2x := HR1.out.free 2
    have z3x := HR1.out.free 3
    have z4x := HR1.out.free 4
    have z5x := HR1.out.free 5
    have z6x := HR1.out.free 6
    have z7x := HR1.out.free 7
    have z8x := HR1.out.free 8
    go_wp2
    have o3 := ((((((((HR1.out.set_ 0 (.slice none 0 0)).set_ 1 (.slice none 0 0)).set_ 2 (.slice none 0 0)).set_ 3 (.int .i64 0)).set_ 4 (.int .i64 0)).set_ 5 (.int .i64 0)).set_ 6 (.int .i64 0)).set_ 7 (.slice none 0 0)).set_ 8 (.int .i64 0)
    have t0 := o3.cell_ 0 (v := .slice none 0 0) (by simp)
    have t1 := o3.cell_ 1 (v := .slice none 0 0) (by simp)
    have t2 := o3.cell_ 2 (v := .slice none 0 0) (by simp)
    have t3 := o3.cell_ 3 (v := .int .i64 0) (by simp)
    have t4 := o3.cell_ 4 (v := .int .i64 0) (by simp)
    have t5 := o3.cell_ 5 (v := .int .i64 0) (by simp)
    have t6 := o3.cell_ 6 (v := .int .i64 0) (by simp)
    have t7 := o3.cell_ 7 (v := .slice none 0 0) (by simp)
    have t8 := o3.cell_ 8 (v := .int .i64 0) (by simp)
    refine bodyPost_ret (v := .tuple #[.agg #[.slice none 0 0, .slice none 0 0, .slice none 0 0, .int .i64 0, .int .i64 0, .int .i64 0, .int .i64 0, .slice none 0 0, .int .i64 0], .bool false]) (by simp [results, Tryz.results29, go_sem, t0, t1, t2, t3, t4, t5, t6, t7, t8]) rfl ⟨_, rfl, _, _, _, _, by rw [HA.out, HV.out]; rfl, by rw [HV.out]; exact mam_z, ?_⟩
    repeat (refine bS ?_ (by simp <;> omega))
    exact HB1.out
  | true =>
    obtain ⟨a1, a2, a3, a4⟩ := mav_len h1
    have m01 := HX1.out.cell_ 0 (v := vb) rfl
    have m11 := HX1.out.cell_ 1 (v := vf) rfl
    have m21 := HX1.out.cell_ 2 (v := vl) rfl
    have m31 := HX1.out.cell_ 3 (v := .int .i64 m.c.hand) rfl
    have m41 := HX1.out.cell_ 4 (v := .int .i64 m.g.count) rfl
    have m51 := HX1.out.cell_ 5 (v := .int .i64 m.g.next) rfl
    have m61 := HX1.out.cell_ 6 (v := .int .i64 m.g.round) rfl
    have m71 := HX1.out.cell_ 7 (v := vo) rfl
    have m81 := HX1.out.cell_ 8 (v := .int .i64 m.sp) rfl
    have k01 := HK1.out.cell_ 0 (v := .int .i64 s) rfl
    have k11 := HK1.out.cell_ 1 (v := .int .i64 p) rfl
    go_wp2_with fail
    refine (ProtectPage_any vb vf m.t s p r _ (HM.out.t.now HB1.out) (HF.out.now HB1.out)).mono ?_
    rintro e w2 ⟨_, rfl, v1, v2, rfl, hT2, hb2⟩
    obtain ⟨A1, c1, rfl, _⟩ := hT2.b
    obtain ⟨A2, c2, rfl, _⟩ := hT2.f
    have hs1 := HS1.out
    have HX2 := Lib.hid (HX1.out.below hb2)
    have HK2 := Lib.hid (HK1.out.below hb2)
    have HR2 := Lib.hid (HR1.out.below hb2)
    have HB2 := Lib.hid (bT HB1.out hb2)
    have HS2 := Lib.hid (Nat.le_trans HS1.out hb2.size)
    clear hb2
    clear m01 m11 m21 m31 m41 m51 m61 m71 m81
    clear k01 k11
    have ho5 := Own.new_ w2 26 #[.slice A1 (prV m.t s p r).bs.length c1, .slice A2 (prV m.t s p r).fs.length c2]
    have hb5 : Below w2.heap.size w2 (w2.alloc (.cells #[.slice A1 (prV m.t s p r).bs.length c1, .slice A2 (prV m.t s p r).fs.length c2] 26)) := bA bR
    generalize hW5 : w2.alloc (.cells #[.slice A1 (prV m.t s p r).bs.length c1, .slice A2 (prV m.t s p r).fs.length c2] 26) = w5 at ho5 hb5
    have HT5 := Lib.hid ((hT2.now hb5).mono hs1)
    clear hT2
    have HX5 := Lib.hid (HX2.out.below hb5)
    have HK5 := Lib.hid (HK2.out.below hb5)
    have HR5 := Lib.hid (HR2.out.below hb5)
    have HB5 := Lib.hid (bT HB2.out hb5)
    have HS5 := Lib.hid (Nat.le_trans HS2.out hb5.size)
    clear hb5
    cases h3 : prOK m.t s p r with
    | false =>
      have HA : Hid (grdO m s p r = false) := by show _ = _; unfold grdO; rw [h3, Bool.and_false]
      have HV := Lib.hid (grdO_false HA.out)
      clear ho5
      have r0x := HR5.out.cell_ 0 (v := .slice none 0 0) rfl
      have r1x := HR5.out.cell_ 1 (v := .slice none 0 0) rfl
      have r2x := HR5.out.cell_ 2 (v := .slice none 0 0) rfl
      have r3x := HR5.out.cell_ 3 (v := .int .i64 0) rfl
      have r4x := HR5.out.cell_ 4 (v := .int .i64 0) rfl
      have r5x := HR5.out.cell_ 5 (v := .int .i64 0) rfl
      have r6x := HR5.out.cell_ 6 (v := .int .i64 0) rfl
      have r7x := HR5.out.cell_ 7 (v := .slice none 0 0) rfl
      have r8x := HR5.out.cell_ 8 (v := .int .i64 0) rfl
      have z0x := HR5.out.free 0
      have z1x := HR5.out.free 1
      have z2x := HR5.out.free 2
      have z3x := HR5.out.free 3
      have z4x := HR5.out.free 4
      have z5x := HR5.out.free 5
      have z6x := HR5.out.free 6
      have z7x := HR5.out.free 7
      have z8x := HR5.out.free 8
      go_wp2
      have o3 := ((((((((HR5.out.set_ 0 (.slice none 0 0)).set_ 1 (.slice none 0 0)).set_ 2 (.slice none 0 0)).set_ 3 (.int .i64 0)).set_ 4 (.int .i64 0)).set_ 5 (.int .i64 0)).set_ 6 (.int .i64 0)).set_ 7 (.slice none 0 0)).set_ 8 (.int .i64 0)
      have t0 := o3.cell_ 0 (v := .slice none 0 0) (by simp)
      have t1 := o3.cell_ 1 (v := .slice none 0 0) (by simp)
      have t2 := o3.cell_ 2 (v := .slice none 0 0) (by simp)
      have t3 := o3.cell_ 3 (v := .int .i64 0) (by simp)
      have t4 := o3.cell_ 4 (v := .int .i64 0) (by simp)
      have t5 := o3.cell_ 5 (v := .int .i64 0) (by simp)
      have t6 := o3.cell_ 6 (v := .int .i64 0) (by simp)
      have t7 := o3.cell_ 7 (v := .slice none 0 0) (by simp)
      have t8 := o3.cell_ 8 (v := .int .i64 0) (by simp)
      refine bodyPost_ret (v := .tuple #[.agg #[.slice none 0 0, .slice none 0 0, .slice none 0 0, .int .i64 0, .int .i64 0, .int .i64 0, .int .i64 0, .slice none 0 0, .int .i64 0], .bool false]) (by simp [results, Tryz.results29, go_sem, t0, t1, t2, t3, t4, t5, t6, t7, t8]) rfl ⟨_, rfl, _, _, _, _, by rw [HA.out, HV.out]; rfl, by rw [HV.out]; exact mam_z, ?_⟩
      repeat (refine bS ?_ (by simp <;> omega))
      exact HB5.out
    | true =>
      have HA : Hid (grdO m s p r = true) := by show _ = _; unfold grdO; rw [h1, h3]; rfl
      have HV : Hid (grdV m s p r = drpM m (prV m.t s p r) s p) := by show _ = _; unfold grdV; rw [HA.out]; rfl
      have m05 := HX5.out.cell_ 0 (v := vb) rfl
      have m15 := HX5.out.cell_ 1 (v := vf) rfl
      have m25 := HX5.out.cell_ 2 (v := vl) rfl
      have m35 := HX5.out.cell_ 3 (v := .int .i64 m.c.hand) rfl
      have m45 := HX5.out.cell_ 4 (v := .int .i64 m.g.count) rfl
      have m55 := HX5.out.cell_ 5 (v := .int .i64 m.g.next) rfl
      have m65 := HX5.out.cell_ 6 (v := .int .i64 m.g.round) rfl
      have m75 := HX5.out.cell_ 7 (v := vo) rfl
      have m85 := HX5.out.cell_ 8 (v := .int .i64 m.sp) rfl
      have k05 := HK5.out.cell_ 0 (v := .int .i64 s) rfl
      have k15 := HK5.out.cell_ 1 (v := .int .i64 p) rfl
      have u0 := ho5.cell_ 0 (v := .slice A1 (prV m.t s p r).bs.length c1) rfl
      have u1 := ho5.cell_ 1 (v := .slice A2 (prV m.t s p r).fs.length c2) rfl
      have hs5 := HS5.out
      clear ho5
      go_wp2_with fail
      refine (dropped_any vb vf vl vo _ _ m (prV m.t s p r) s p (w.heap.size + 3) _ (HM.out.now HB5.out) hs5 HT5.out a1 a2 a3 a4).mono ?_
      rintro e w3 ⟨_, rfl, q1, q2, q3, q4, rfl, hM3, hb3⟩
      have HX3 := Lib.hid (HX5.out.below hb3)
      have HK3 := Lib.hid (HK5.out.below hb3)
      have HR3 := Lib.hid (HR5.out.below hb3)
      have HB3 := Lib.hid (bT HB5.out hb3)
      have HS3 := Lib.hid (Nat.le_trans HS5.out hb3.size)
      clear hb3
      clear m05 m15 m25 m35 m45 m55 m65 m75 m85
      clear k05 k15 u0 u1
      have r0x := HR3.out.cell_ 0 (v := .slice none 0 0) rfl
      have r1x := HR3.out.cell_ 1 (v := .slice none 0 0) rfl
      have r2x := HR3.out.cell_ 2 (v := .slice none 0 0) rfl
      have r3x := HR3.out.cell_ 3 (v := .int .i64 0) rfl
      have r4x := HR3.out.cell_ 4 (v := .int .i64 0) rfl
      have r5x := HR3.out.cell_ 5 (v := .int .i64 0) rfl
      have r6x := HR3.out.cell_ 6 (v := .int .i64 0) rfl
      have r7x := HR3.out.cell_ 7 (v := .slice none 0 0) rfl
      have r8x := HR3.out.cell_ 8 (v := .int .i64 0) rfl
      have z0x := HR3.out.free 0
      have z1x := HR3.out.free 1
      have z2x := HR3.out.free 2
      have z3x := HR3.out.free 3
      have z4x := HR3.out.free 4
      have z5x := HR3.out.free 5
      have z6x := HR3.out.free 6
      have z7x := HR3.out.free 7
      have z8x := HR3.out.free 8
      have HM3 := Lib.hid hM3
      obtain ⟨B1, d1, rfl, _⟩ := hM3.t.b
      obtain ⟨B2, d2, rfl, _⟩ := hM3.t.f
      obtain ⟨B3, d3, rfl, _⟩ := hM3.l
      obtain ⟨B4, d4, rfl, _⟩ := hM3.o
      clear hM3
      have hl3 := HR3.out.lt
      go_wp2
      have o3 := HR3.out.set9 (.slice B1 (drpM m (prV m.t s p r) s p).t.bs.length d1) (.slice B2 (drpM m (prV m.t s p r) s p).t.fs.length d2) (.slice B3 (drpM m (prV m.t s p r) s p).c.ls.length d3) (.int .i64 (drpM m (prV m.t s p r) s p).c.hand) (.int .i64 (drpM m (prV m.t s p r) s p).g.count) (.int .i64 (drpM m (prV m.t s p r) s p).g.next) (.int .i64 (drpM m (prV m.t s p r) s p).g.round) (.slice B4 (drpM m (prV m.t s p r) s p).g.os.length d4) (.int .i64 (drpM m (prV m.t s p r) s p).sp)
      have p0t := o3.cell_ 0 (v := .slice B1 (drpM m (prV m.t s p r) s p).t.bs.length d1) rfl
      have p1t := o3.cell_ 1 (v := .slice B2 (drpM m (prV m.t s p r) s p).t.fs.length d2) rfl
      have p2t := o3.cell_ 2 (v := .slice B3 (drpM m (prV m.t s p r) s p).c.ls.length d3) rfl
      have p3t := o3.cell_ 3 (v := .int .i64 (drpM m (prV m.t s p r) s p).c.hand) rfl
      have p4t := o3.cell_ 4 (v := .int .i64 (drpM m (prV m.t s p r) s p).g.count) rfl
      have p5t := o3.cell_ 5 (v := .int .i64 (drpM m (prV m.t s p r) s p).g.next) rfl
      have p6t := o3.cell_ 6 (v := .int .i64 (drpM m (prV m.t s p r) s p).g.round) rfl
      have p7t := o3.cell_ 7 (v := .slice B4 (drpM m (prV m.t s p r) s p).g.os.length d4) rfl
      have p8t := o3.cell_ 8 (v := .int .i64 (drpM m (prV m.t s p r) s p).sp) rfl
      refine bodyPost_ret (v := .tuple #[.agg #[.slice B1 (drpM m (prV m.t s p r) s p).t.bs.length d1, .slice B2 (drpM m (prV m.t s p r) s p).t.fs.length d2, .slice B3 (drpM m (prV m.t s p r) s p).c.ls.length d3, .int .i64 (drpM m (prV m.t s p r) s p).c.hand, .int .i64 (drpM m (prV m.t s p r) s p).g.count, .int .i64 (drpM m (prV m.t s p r) s p).g.next, .int .i64 (drpM m (prV m.t s p r) s p).g.round, .slice B4 (drpM m (prV m.t s p r) s p).g.os.length d4, .int .i64 (drpM m (prV m.t s p r) s p).sp], .bool true]) (by simp [results, Tryz.results29, go_sem, p0t, p1t, p2t, p3t, p4t, p5t, p6t, p7t, p8t]) rfl ⟨_, rfl, _, _, _, _, by rw [HA.out, HV.out], ?_, ?_⟩
      · rw [HV.out]
        exact (HM3.out.far9 HR3.out _ _ _ _ _ _ _ _ _).mono (by omega)
      · repeat (refine bS ?_ (by simp <;> omega))
        exact HB3.out
end Go.Proofs.YtkmocongdkacjaaGreatDoor
namespace Go.Proofs.YtkmocongdkacjaaGreatDoor
open Go.RowKit
/-! ### an operation on the pages of a range, one behind the other -/
def rgN (O : Ma → Nat → Bool) (V : Ma → Nat → Ma) (m : Ma) : Nat → Option Ma
  | 0 => some m
  | k + 1 => match rgN O V m k with
    | some m' => if O m' k = true then some (V m' k) else none
    | none => none
theorem rgN_step {O : Ma → Nat → Bool} {V : Ma → Nat → Ma} {m m' : Ma} {k : Nat} (h : rgN O V m k = some m') (hok : O m' k = true) : rgN O V m (k + 1) = some (V m' k) := by
  unfold rgN
  rw [h]
  simp only
  rw [if_pos hok]
theorem rgN_bad {O : Ma → Nat → Bool} {V : Ma → Nat → Ma} {m m' : Ma} {k : Nat} (h : rgN O V m k = some m') (hok : O m' k = false) : rgN O V m (k + 1) = none := by
  unfold rgN
  rw [h]
  simp only
  rw [if_neg (by rw [hok]; decide)]
theorem rgN_none {O : Ma → Nat → Bool} {V : Ma → Nat → Ma} {m : Ma} {k : Nat} (h : rgN O V m k = none) : ∀ {n : Nat}, k ≤ n → rgN O V m n = none := by
  intro n hn
  induction n with
  | zero => rw [show (0 : Nat) = k by omega]; exact h
  | succ n ih =>
    rcases Nat.lt_or_ge n k with hlt | hge
    · rw [show n + 1 = k by omega]; exact h
    · unfold rgN
      rw [ih hge]
def rgO (O : Ma → Nat → Bool) (V : Ma → Nat → Ma) (m : Ma) (c : Int) : Option Ma := if mav m = true ∧ 1 ≤ c ∧ c ≤ 16 then rgN O V m c.toNat else none
theorem rgO_no {O : Ma → Nat → Bool} {V : Ma → Nat → Ma} {m : Ma} {c : Int} (h : ¬ (mav m = true ∧ 1 ≤ c ∧ c ≤ 16)) : rgO O V m c = none := if_neg h
theorem rgO_yes {O : Ma → Nat → Bool} {V : Ma → Nat → Ma} {m : Ma} {c : Nat} (h : mav m = true) (h1 : 1 ≤ c) (h2 : c ≤ 16) : rgO O V m c = rgN O V m c := by
  unfold rgO
  rw [if_pos ⟨h, by omega, by omega⟩, Int.toNat_natCast]
def rgV (O : Ma → Nat → Bool) (V : Ma → Nat → Ma) (m : Ma) (c : Int) : Ma := (rgO O V m c).getD maz
/-- what the operation keeps, the range keeps -/
theorem rgN_keep {O : Ma → Nat → Bool} {V : Ma → Nat → Ma} {P : Ma → Prop} (hV : ∀ m' k, O m' k = true → P m' → P (V m' k)) {m : Ma} (h : P m) : ∀ (k : Nat) (m' : Ma), rgN O V m k = some m' → P m'
  | 0, m', e => by
    injection e with e
    rw [← e]; exact h
  | k + 1, m', e => by
    unfold rgN at e
    cases h1 : rgN O V m k with
    | none => rw [h1] at e; cases e
    | some m1 =>
      rw [h1] at e
      simp only at e
      split at e
      · rename_i hok
        injection e with e
        rw [← e]
        exact hV _ _ hok (rgN_keep hV h k m1 h1)
      · cases e
end Go.Proofs.YtkmocongdkacjaaGreatDoor
namespace Go.Proofs.YtkmocongdkacjaaGreatDoor
open Go.RowKit
set_option maxRecDepth 1000000
set_option maxHeartbeats 4000000 in
theorem guardRanged_any (vb vf vl vo : Value) (m : Ma) (s p c : Int) (gr : Nat) (O : Ma → Nat → Bool) (V : Ma → Nat → Ma) (w : World) (hM : MaR w vb vf vl vo m) (hfree : Free w)
    (hkv : ∀ m', O m' 0 = true → kval (s, p) = true)
    (hC : ∀ (c1 c2 c3 c4 : Value) (mk : Ma) (k : Nat) (W : World), k < 16 → Below w.heap.size w W → MaR W c1 c2 c3 c4 mk →
      Calls Tryz.prog 70 #[.agg #[c1, c2, c3, .int .i64 mk.c.hand, .int .i64 mk.g.count, .int .i64 mk.g.next, .int .i64 mk.g.round, c4, .int .i64 mk.sp], .int .i64 k, .agg #[.int .i64 s, .int .i64 (p + k)], .pointer (some ⟨gr, 0, none⟩)] W (Post2 fun v w' => ∃ v1 v2 v3 v4, v = .tuple #[.agg #[v1, v2, v3, .int .i64 (V mk k).c.hand, .int .i64 (V mk k).g.count, .int .i64 (V mk k).g.next, .int .i64 (V mk k).g.round, v4, .int .i64 (V mk k).sp], .bool (O mk k)] ∧ MaM W.heap.size w' v1 v2 v3 v4 (V mk k) ∧ Below W.heap.size W w')) :
    Calls Tryz.prog 47 #[.agg #[vb, vf, vl, .int .i64 m.c.hand, .int .i64 m.g.count, .int .i64 m.g.next, .int .i64 m.g.round, vo, .int .i64 m.sp], .agg #[.int .i64 s, .int .i64 p], .int .i64 c, .func (.func 70) #[] #[.pointer (some ⟨gr, 0, none⟩)]] w (Post2 fun v w' => ∃ v1 v2 v3 v4, v = .tuple #[.agg #[v1, v2, v3, .int .i64 (rgV O V m c).c.hand, .int .i64 (rgV O V m c).g.count, .int .i64 (rgV O V m c).g.next, .int .i64 (rgV O V m c).g.round, v4, .int .i64 (rgV O V m c).sp], .bool ((rgO O V m c).isSome)] ∧ MaM w.heap.size w' v1 v2 v3 v4 (rgV O V m c) ∧ Below w.heap.size w w') := by
  have hbx := ((Own.new_ w 34 #[vb, vf, vl, .int .i64 m.c.hand, .int .i64 m.g.count, .int .i64 m.g.next, .int .i64 m.g.round, vo, .int .i64 m.sp]).alloc (o := .cells #[.int .i64 s, .int .i64 p] 36)).alloc (o := .cells #[.slice none 0 0, .slice none 0 0, .slice none 0 0, .int .i64 0, .int .i64 0, .int .i64 0, .int .i64 0, .slice none 0 0, .int .i64 0] 34)
  have hbk := (ownAt (W := w.alloc (.cells #[vb, vf, vl, .int .i64 m.c.hand, .int .i64 m.g.count, .int .i64 m.g.next, .int .i64 m.g.round, vo, .int .i64 m.sp] 34)) (g := w.heap.size + 1) (t := 36) (cs := #[.int .i64 s, .int .i64 p]) (by simp)).alloc (o := .cells #[.slice none 0 0, .slice none 0 0, .slice none 0 0, .int .i64 0, .int .i64 0, .int .i64 0, .int .i64 0, .slice none 0 0, .int .i64 0] 34)
  have hbo := ownAt (W := (w.alloc (.cells #[vb, vf, vl, .int .i64 m.c.hand, .int .i64 m.g.count, .int .i64 m.g.next, .int .i64 m.g.round, vo, .int .i64 m.sp] 34)).alloc (.cells #[.int .i64 s, .int .i64 p] 36)) (g := w.heap.size + 1 + 1) (t := 34) (cs := #[.slice none 0 0, .slice none 0 0, .slice none 0 0, .int .i64 0, .int .i64 0, .int .i64 0, .int .i64 0, .slice none 0 0, .int .i64 0]) (by simp)
  have hb0 : Below w.heap.size w (((w.alloc (.cells #[vb, vf, vl, .int .i64 m.c.hand, .int .i64 m.g.count, .int .i64 m.g.next, .int .i64 m.g.round, vo, .int .i64 m.sp] 34)).alloc (.cells #[.int .i64 s, .int .i64 p] 36)).alloc (.cells #[.slice none 0 0, .slice none 0 0, .slice none 0 0, .int .i64 0, .int .i64 0, .int .i64 0, .int .i64 0, .slice none 0 0, .int .i64 0] 34)) := bA (bA (bA bR))
  have hs0 : (((w.alloc (.cells #[vb, vf, vl, .int .i64 m.c.hand, .int .i64 m.g.count, .int .i64 m.g.next, .int .i64 m.g.round, vo, .int .i64 m.sp] 34)).alloc (.cells #[.int .i64 s, .int .i64 p] 36)).alloc (.cells #[.slice none 0 0, .slice none 0 0, .slice none 0 0, .int .i64 0, .int .i64 0, .int .i64 0, .int .i64 0, .slice none 0 0, .int .i64 0] 34)).heap.size = w.heap.size + 3 := by simp
  generalize hW : ((w.alloc (.cells #[vb, vf, vl, .int .i64 m.c.hand, .int .i64 m.g.count, .int .i64 m.g.next, .int .i64 m.g.round, vo, .int .i64 m.sp] 34)).alloc (.cells #[.int .i64 s, .int .i64 p] 36)).alloc (.cells #[.slice none 0 0, .slice none 0 0, .slice none 0 0, .int .i64 0, .int .i64 0, .int .i64 0, .int .i64 0, .slice none 0 0, .int .i64 0] 34) = W0 at hbx hbk hbo hb0 hs0
  have HX0 := Lib.hid hbx
  have HK0 := Lib.hid hbk
  have HR0 := Lib.hid hbo
  have HB0 := Lib.hid hb0
  have HS0 : Hid (w.heap.size + 3 ≤ W0.heap.size) := Nat.le_of_eq hs0.symm
  clear hbx hbk hbo hb0
  have HM := Lib.hid hM
  have HF := Lib.hid hfree
  clear hM hfree
  have m00 := HX0.out.cell_ 0 (v := vb) rfl
  have m10 := HX0.out.cell_ 1 (v := vf) rfl
  have m20 := HX0.out.cell_ 2 (v := vl) rfl
  have m30 := HX0.out.cell_ 3 (v := .int .i64 m.c.hand) rfl
  have m40 := HX0.out.cell_ 4 (v := .int .i64 m.g.count) rfl
  have m50 := HX0.out.cell_ 5 (v := .int .i64 m.g.next) rfl
  have m60 := HX0.out.cell_ 6 (v := .int .i64 m.g.round) rfl
  have m70 := HX0.out.cell_ 7 (v := vo) rfl
  have m80 := HX0.out.cell_ 8 (v := .int .i64 m.sp) rfl
  go_enter Tryz.func47, Tryz.ntmps47
  go_wp2_with fail
  refine (MachineValid_any vb vf vl vo m _ (HM.out.now HB0.out) (HF.out.now HB0.out)).mono ?_
  rintro e w1 ⟨rfl, hb1⟩
  have HX1 := Lib.hid (HX0.out.below hb1)
  have HK1 := Lib.hid (HK0.out.below hb1)
  have HR1 := Lib.hid (HR0.out.below hb1)
  have HB1 := Lib.hid (bT HB0.out hb1)
  have HS1 := Lib.hid (Nat.le_trans HS0.out hb1.size)
  clear hb1
  clear m00 m10 m20 m30 m40 m50 m60 m70 m80
  cases h1 : mav m with
  | false =>
    have HO : Hid (rgO O V m c = none) := rgO_no (fun h => by rw [h1] at h; cases h.1)
    have HA : Hid ((rgO O V m c).isSome = false) := by show _ = _; rw [HO.out]; rfl
    have HV : Hid (rgV O V m c = maz) := by show _ = _; unfold rgV; rw [HO.out]; rfl
    have r0x := HR1.out.cell_ 0 (v := .slice none 0 0) rfl
    have r1x := HR1.out.cell_ 1 (v := .slice none 0 0) rfl
    have r2x := HR1.out.cell_ 2 (v := .slice none 0 0) rfl
    have r3x := HR1.out.cell_ 3 (v := .int .i64 0) rfl
    have r4x := HR1.out.cell_ 4 (v := .int .i64 0) rfl
    have r5x := HR1.out.cell_ 5 (v := .int .i64 0) rfl
    have r6x := HR1.out.cell_ 6 (v := .int .i64 0) rfl
    have r7x := HR1.out.cell_ 7 (v := .slice none 0 0) rfl
    have r8x := HR1.out.cell_ 8 (v := .int .i64 0) rfl
    have z0x := HR1.out.free 0
    have z1x := HR1.out.free 1
    have z2x := HR1.out.free 2
    have z3x := HR1.out.free 3
    have z4x := HR1.out.free 4
    have z5x := HR1.out.free 5
    have z6x := HR1.out.free 6
    have z7x := HR1.out.free 7
    have z8x := HR1.out.free 8
    go_wp2
    have o3 := ((((((((HR1.out.set_ 0 (.slice none 0 0)).set_ 1 (.slice none 0 0)).set_ 2 (.slice none 0 0)).set_ 3 (.int .i64 0)).set_ 4 (.int .i64 0)).set_ 5 (.int .i64 0)).set_ 6 (.int .i64 0)).set_ 7 (.slice none 0 0)).set_ 8 (.int .i64 0)
    have t0 := o3.cell_ 0 (v := .slice none 0 0) (by simp)
    have t1 := o3.cell_ 1 (v := .slice none 0 0) (by simp)
    have t2 := o3.cell_ 2 (v := .slice none 0 0) (by simp)
    have t3 := o3.cell_ 3 (v := .int .i64 0) (by simp)
    have t4 := o3.cell_ 4 (v := .int .i64 0) (by simp)
    have t5 := o3.cell_ 5 (v := .int .i64 0) (by simp)
    have t6 := o3.cell_ 6 (v := .int .i64 0) (by simp)
    have t7 := o3.cell_ 7 (v := .slice none 0 0) (by simp)
    have t8 := o3.cell_ 8 (v := .int .i64 0) (by simp)
    refine bodyPost_ret (v := .tuple #[.agg #[.slice none 0 0, .slice none 0 0, .slice none 0 0, .int .i64 0, .int .i64 0, .int .i64 0, .int .i64 0, .slice none 0 0, .int .i64 0], .bool false]) (by simp [results, Tryz.results47, go_sem, t0, t1, t2, t3, t4, t5, t6, t7, t8]) rfl ⟨_, rfl, _, _, _, _, by rw [HA.out, HV.out]; rfl, by rw [HV.out]; exact mam_z, ?_⟩
    repeat (refine bS ?_ (by simp <;> omega))
    exact HB1.out
  | true =>
  have k01 := HK1.out.cell_ 0 (v := .int .i64 s) rfl
  have k11 := HK1.out.cell_ 1 (v := .int .i64 p) rfl
  go_wp2_with fail
  refine (keyValid_any s p _).mono ?_
  rintro e w2 ⟨rfl, hb2⟩
  have HX2 := Lib.hid (HX1.out.below hb2)
  have HK2 := Lib.hid (HK1.out.below hb2)
  have HR2 := Lib.hid (HR1.out.below hb2)
  have HB2 := Lib.hid (bT HB1.out hb2)
  have HS2 := Lib.hid (Nat.le_trans HS1.out hb2.size)
  clear hb2
  clear k01 k11
  cases h2k : kval (s, p) with
  | false =>
    have HO : Hid (rgO O V m c = none) := by
      show _ = _
      by_cases h : mav m = true ∧ 1 ≤ c ∧ c ≤ 16
      · have h0 : rgN O V m 1 = none := rgN_bad (rfl : rgN O V m 0 = some m) (bool_ff fun hh => by rw [hkv _ hh] at h2k; cases h2k)
        unfold rgO
        rw [if_pos h]
        exact rgN_none h0 (by omega)
      · exact rgO_no h
    have HA : Hid ((rgO O V m c).isSome = false) := by show _ = _; rw [HO.out]; rfl
    have HV : Hid (rgV O V m c = maz) := by show _ = _; unfold rgV; rw [HO.out]; rfl
    have r0x := HR2.out.cell_ 0 (v := .slice none 0 0) rfl
    have r1x := HR2.out.cell_ 1 (v := .slice none 0 0) rfl
    have r2x := HR2.out.cell_ 2 (v := .slice none 0 0) rfl
    have r3x := HR2.out.cell_ 3 (v := .int .i64 0) rfl
    have r4x := HR2.out.cell_ 4 (v := .int .i64 0) rfl
    have r5x := HR2.out.cell_ 5 (v := .int .i64 0) rfl
    have r6x := HR2.out.cell_ 6 (v := .int .i64 0) rfl
    have r7x := HR2.out.cell_ 7 (v := .slice none 0 0) rfl
    have r8x := HR2.out.cell_ 8 (v := .int .i64 0) rfl
    have z0x := HR2.out.free 0
    have z1x := HR2.out.free 1
    have z2x := HR2.out.free 2
    have z3x := HR2.out.free 3
    have z4x := HR2.out.free 4
    have z5x := HR2.out.free 5
    have z6x := HR2.out.free 6
    have z7x := HR2.out.free 7
    have z8x := HR2.out.free 8
    go_wp2
    have o3 := ((((((((HR2.out.set_ 0 (.slice none 0 0)).set_ 1 (.slice none 0 0)).set_ 2 (.slice none 0 0)).set_ 3 (.int .i64 0)).set_ 4 (.int .i64 0)).set_ 5 (.int .i64 0)).set_ 6 (.int .i64 0)).set_ 7 (.slice none 0 0)).set_ 8 (.int .i64 0)
    have t0 := o3.cell_ 0 (v := .slice none 0 0) (by simp)
    have t1 := o3.cell_ 1 (v := .slice none 0 0) (by simp)
    have t2 := o3.cell_ 2 (v := .slice none 0 0) (by simp)
    have t3 := o3.cell_ 3 (v := .int .i64 0) (by simp)
    have t4 := o3.cell_ 4 (v := .int .i64 0) (by simp)
    have t5 := o3.cell_ 5 (v := .int .i64 0) (by simp)
    have t6 := o3.cell_ 6 (v := .int .i64 0) (by simp)
    have t7 := o3.cell_ 7 (v := .slice none 0 0) (by simp)
    have t8 := o3.cell_ 8 (v := .int .i64 0) (by simp)
    refine bodyPost_ret (v := .tuple #[.agg #[.slice none 0 0, .slice none 0 0, .slice none 0 0, .int .i64 0, .int .i64 0, .int .i64 0, .int .i64 0, .slice none 0 0, .int .i64 0], .bool false]) (by simp [results, Tryz.results47, go_sem, t0, t1, t2, t3, t4, t5, t6, t7, t8]) rfl ⟨_, rfl, _, _, _, _, by rw [HA.out, HV.out]; rfl, by rw [HV.out]; exact mam_z, ?_⟩
    repeat (refine bS ?_ (by simp <;> omega))
    exact HB2.out
  | true =>
  by_cases h2 : c < 1
  · have HO : Hid (rgO O V m c = none) := rgO_no (fun h => by omega)
    have HA : Hid ((rgO O V m c).isSome = false) := by show _ = _; rw [HO.out]; rfl
    have HV : Hid (rgV O V m c = maz) := by show _ = _; unfold rgV; rw [HO.out]; rfl
    have r0x := HR2.out.cell_ 0 (v := .slice none 0 0) rfl
    have r1x := HR2.out.cell_ 1 (v := .slice none 0 0) rfl
    have r2x := HR2.out.cell_ 2 (v := .slice none 0 0) rfl
    have r3x := HR2.out.cell_ 3 (v := .int .i64 0) rfl
    have r4x := HR2.out.cell_ 4 (v := .int .i64 0) rfl
    have r5x := HR2.out.cell_ 5 (v := .int .i64 0) rfl
    have r6x := HR2.out.cell_ 6 (v := .int .i64 0) rfl
    have r7x := HR2.out.cell_ 7 (v := .slice none 0 0) rfl
    have r8x := HR2.out.cell_ 8 (v := .int .i64 0) rfl
    have z0x := HR2.out.free 0
    have z1x := HR2.out.free 1
    have z2x := HR2.out.free 2
    have z3x := HR2.out.free 3
    have z4x := HR2.out.free 4
    have z5x := HR2.out.free 5
    have z6x := HR2.out.free 6
    have z7x := HR2.out.free 7
    have z8x := HR2.out.free 8
    go_wp2
    have o3 := ((((((((HR2.out.set_ 0 (.slice none 0 0)).set_ 1 (.slice none 0 0)).set_ 2 (.slice none 0 0)).set_ 3 (.int .i64 0)).set_ 4 (.int .i64 0)).set_ 5 (.int .i64 0)).set_ 6 (.int .i64 0)).set_ 7 (.slice none 0 0)).set_ 8 (.int .i64 0)
    have t0 := o3.cell_ 0 (v := .slice none 0 0) (by simp)
    have t1 := o3.cell_ 1 (v := .slice none 0 0) (by simp)
    have t2 := o3.cell_ 2 (v := .slice none 0 0) (by simp)
    have t3 := o3.cell_ 3 (v := .int .i64 0) (by simp)
    have t4 := o3.cell_ 4 (v := .int .i64 0) (by simp)
    have t5 := o3.cell_ 5 (v := .int .i64 0) (by simp)
    have t6 := o3.cell_ 6 (v := .int .i64 0) (by simp)
    have t7 := o3.cell_ 7 (v := .slice none 0 0) (by simp)
    have t8 := o3.cell_ 8 (v := .int .i64 0) (by simp)
    refine bodyPost_ret (v := .tuple #[.agg #[.slice none 0 0, .slice none 0 0, .slice none 0 0, .int .i64 0, .int .i64 0, .int .i64 0, .int .i64 0, .slice none 0 0, .int .i64 0], .bool false]) (by simp [results, Tryz.results47, go_sem, t0, t1, t2, t3, t4, t5, t6, t7, t8]) rfl ⟨_, rfl, _, _, _, _, by rw [HA.out, HV.out]; rfl, by rw [HV.out]; exact mam_z, ?_⟩
    repeat (refine bS ?_ (by simp <;> omega))
    exact HB2.out
  by_cases h3 : 16 < c
  · have HO : Hid (rgO O V m c = none) := rgO_no (fun h => by omega)
    have HA : Hid ((rgO O V m c).isSome = false) := by show _ = _; rw [HO.out]; rfl
    have HV : Hid (rgV O V m c = maz) := by show _ = _; unfold rgV; rw [HO.out]; rfl
    have r0x := HR2.out.cell_ 0 (v := .slice none 0 0) rfl
    have r1x := HR2.out.cell_ 1 (v := .slice none 0 0) rfl
    have r2x := HR2.out.cell_ 2 (v := .slice none 0 0) rfl
    have r3x := HR2.out.cell_ 3 (v := .int .i64 0) rfl
    have r4x := HR2.out.cell_ 4 (v := .int .i64 0) rfl
    have r5x := HR2.out.cell_ 5 (v := .int .i64 0) rfl
    have r6x := HR2.out.cell_ 6 (v := .int .i64 0) rfl
    have r7x := HR2.out.cell_ 7 (v := .slice none 0 0) rfl
    have r8x := HR2.out.cell_ 8 (v := .int .i64 0) rfl
    have z0x := HR2.out.free 0
    have z1x := HR2.out.free 1
    have z2x := HR2.out.free 2
    have z3x := HR2.out.free 3
    have z4x := HR2.out.free 4
    have z5x := HR2.out.free 5
    have z6x := HR2.out.free 6
    have z7x := HR2.out.free 7
    have z8x := HR2.out.free 8
    go_wp2
    have o3 := ((((((((HR2.out.set_ 0 (.slice none 0 0)).set_ 1 (.slice none 0 0)).set_ 2 (.slice none 0 0)).set_ 3 (.int .i64 0)).set_ 4 (.int .i64 0)).set_ 5 (.int .i64 0)).set_ 6 (.int .i64 0)).set_ 7 (.slice none 0 0)).set_ 8 (.int .i64 0)
    have t0 := o3.cell_ 0 (v := .slice none 0 0) (by simp)
    have t1 := o3.cell_ 1 (v := .slice none 0 0) (by simp)
    have t2 := o3.cell_ 2 (v := .slice none 0 0) (by simp)
    have t3 := o3.cell_ 3 (v := .int .i64 0) (by simp)
    have t4 := o3.cell_ 4 (v := .int .i64 0) (by simp)
    have t5 := o3.cell_ 5 (v := .int .i64 0) (by simp)
    have t6 := o3.cell_ 6 (v := .int .i64 0) (by simp)
    have t7 := o3.cell_ 7 (v := .slice none 0 0) (by simp)
    have t8 := o3.cell_ 8 (v := .int .i64 0) (by simp)
    refine bodyPost_ret (v := .tuple #[.agg #[.slice none 0 0, .slice none 0 0, .slice none 0 0, .int .i64 0, .int .i64 0, .int .i64 0, .int .i64 0, .slice none 0 0, .int .i64 0], .bool false]) (by simp [results, Tryz.results47, go_sem, t0, t1, t2, t3, t4, t5, t6, t7, t8]) rfl ⟨_, rfl, _, _, _, _, by rw [HA.out, HV.out]; rfl, by rw [HV.out]; exact mam_z, ?_⟩
    repeat (refine bS ?_ (by simp <;> omega))
    exact HB2.out
  obtain ⟨n, rfl⟩ := Int.eq_ofNat_of_zero_le (show 0 ≤ c by omega)
  have hi1 : 1 ≤ n := by omega
  have hi2 : n ≤ 16 := by omega
  obtain ⟨B1, d1, rfl, _⟩ := HM.out.t.b
  obtain ⟨B2, d2, rfl, _⟩ := HM.out.t.f
  obtain ⟨B3, d3, rfl, _⟩ := HM.out.l
  obtain ⟨B4, d4, rfl, _⟩ := HM.out.o
  have p0m := HX2.out.cell_ 0 (v := .slice B1 m.t.bs.length d1) rfl
  have p1m := HX2.out.cell_ 1 (v := .slice B2 m.t.fs.length d2) rfl
  have p2m := HX2.out.cell_ 2 (v := .slice B3 m.c.ls.length d3) rfl
  have p3m := HX2.out.cell_ 3 (v := .int .i64 m.c.hand) rfl
  have p4m := HX2.out.cell_ 4 (v := .int .i64 m.g.count) rfl
  have p5m := HX2.out.cell_ 5 (v := .int .i64 m.g.next) rfl
  have p6m := HX2.out.cell_ 6 (v := .int .i64 m.g.round) rfl
  have p7m := HX2.out.cell_ 7 (v := .slice B4 m.g.os.length d4) rfl
  have p8m := HX2.out.cell_ 8 (v := .int .i64 m.sp) rfl
  have hkv' := kval_iff.1 h2k
  have HO2 := Lib.hid (Own.new_ w2 34 #[.slice B1 m.t.bs.length d1, .slice B2 m.t.fs.length d2, .slice B3 m.c.ls.length d3, .int .i64 m.c.hand, .int .i64 m.g.count, .int .i64 m.g.next, .int .i64 m.g.round, .slice B4 m.g.os.length d4, .int .i64 m.sp])
  have HK3 := Lib.hid (HK2.out.alloc (o := .cells #[.slice B1 m.t.bs.length d1, .slice B2 m.t.fs.length d2, .slice B3 m.c.ls.length d3, .int .i64 m.c.hand, .int .i64 m.g.count, .int .i64 m.g.next, .int .i64 m.g.round, .slice B4 m.g.os.length d4, .int .i64 m.sp] 34))
  have HR3 := Lib.hid (HR2.out.alloc (o := .cells #[.slice B1 m.t.bs.length d1, .slice B2 m.t.fs.length d2, .slice B3 m.c.ls.length d3, .int .i64 m.c.hand, .int .i64 m.g.count, .int .i64 m.g.next, .int .i64 m.g.round, .slice B4 m.g.os.length d4, .int .i64 m.sp] 34))
  have HM3 := Lib.hid (HM.out.now (bA HB2.out (o := .cells #[.slice B1 m.t.bs.length d1, .slice B2 m.t.fs.length d2, .slice B3 m.c.ls.length d3, .int .i64 m.c.hand, .int .i64 m.g.count, .int .i64 m.g.next, .int .i64 m.g.round, .slice B4 m.g.os.length d4, .int .i64 m.sp] 34)))
  have HB3 := Lib.hid (bA HB2.out (o := .cells #[.slice B1 m.t.bs.length d1, .slice B2 m.t.fs.length d2, .slice B3 m.c.ls.length d3, .int .i64 m.c.hand, .int .i64 m.g.count, .int .i64 m.g.next, .int .i64 m.g.round, .slice B4 m.g.os.length d4, .int .i64 m.sp] 34))
  have hgb := HR2.out.lt
  have hs2 := HS2.out
  go_wp2
  clear p0m p1m p2m p3m p4m p5m p6m p7m p8m
  go_loopw [33] (fun u wr => ∃ (k : Nat) (mk : Ma) (c1 c2 c3 c4 : Value), k ≤ n ∧ u = .int .i64 k ∧ Hid (rgN O V m k = some mk) ∧ Own wr w2.heap.size 34 #[c1, c2, c3, .int .i64 mk.c.hand, .int .i64 mk.g.count, .int .i64 mk.g.next, .int .i64 mk.g.round, c4, .int .i64 mk.sp] ∧ MaR wr c1 c2 c3 c4 mk ∧ Hid (0 < k → MaM (w.heap.size + 3) wr c1 c2 c3 c4 mk) ∧ Own wr (w.heap.size + 1) 36 #[.int .i64 s, .int .i64 p] ∧ Own wr (w.heap.size + 1 + 1) 34 #[.slice none 0 0, .slice none 0 0, .slice none 0 0, .int .i64 0, .int .i64 0, .int .i64 0, .int .i64 0, .slice none 0 0, .int .i64 0] ∧ Below w.heap.size w wr) (fun u _ => n - (intOf u).toNat)
  case atStart => exact ⟨0, m, _, _, _, _, by omega, rfl, rfl, HO2.out, HM3.out, (fun h => absurd h (by omega)), HK3.out, HR3.out, HB3.out⟩
  case round =>
    obtain ⟨k, mk, c1, c2, c3, c4, hk, rfl, hput, hob, hmk, hmm, hkb, hrb, hbw⟩ := hrel
    have HOB := Lib.hid hob
    have HMK := Lib.hid hmk
    have HKB := Lib.hid hkb
    have HRB := Lib.hid hrb
    have HBW := Lib.hid hbw
    clear hob hmk hkb hrb hbw
    by_cases hlt : k < n
    · have hwk : IntKind.i64.wrap (p + (k : Int)) = p + k := IntWalk.i64_in _ (by omega)
      have HC := Lib.hid (hC c1 c2 c3 c4 mk k wr (by omega) HBW.out HMK.out)
      have p0y := HOB.out.cell_ 0 (v := c1) rfl
      have p1y := HOB.out.cell_ 1 (v := c2) rfl
      have p2y := HOB.out.cell_ 2 (v := c3) rfl
      have p3y := HOB.out.cell_ 3 (v := .int .i64 mk.c.hand) rfl
      have p4y := HOB.out.cell_ 4 (v := .int .i64 mk.g.count) rfl
      have p5y := HOB.out.cell_ 5 (v := .int .i64 mk.g.next) rfl
      have p6y := HOB.out.cell_ 6 (v := .int .i64 mk.g.round) rfl
      have p7y := HOB.out.cell_ 7 (v := c4) rfl
      have p8y := HOB.out.cell_ 8 (v := .int .i64 mk.sp) rfl
      have q0 := HKB.out.cell_ 0 (v := .int .i64 s) rfl
      have q1 := HKB.out.cell_ 1 (v := .int .i64 p) rfl
      go_wp2_with fail
      refine HC.out.mono ?_
      rintro e w5 ⟨_, rfl, e1, e2, e3, e4, rfl, hM5, hb5⟩
      have hsw : w.heap.size + 3 ≤ wr.heap.size := Nat.le_trans hs2 (Nat.le_of_lt HOB.out.lt)
      have HM5 := Lib.hid (hM5.mono hsw)
      obtain ⟨E1, n1, rfl, _⟩ := HM5.out.t.b
      obtain ⟨E2, n2, rfl, _⟩ := HM5.out.t.f
      obtain ⟨E3, n3, rfl, _⟩ := HM5.out.l
      obtain ⟨E4, n4, rfl, _⟩ := HM5.out.o
      have HOB5 := HOB.out.below hb5
      have hgl5 := HOB5.lt
      have hO6 := HOB5.alloc (o := .cells #[.slice E1 (V mk k).t.bs.length n1, .slice E2 (V mk k).t.fs.length n2, .slice E3 (V mk k).c.ls.length n3, .int .i64 (V mk k).c.hand, .int .i64 (V mk k).g.count, .int .i64 (V mk k).g.next, .int .i64 (V mk k).g.round, .slice E4 (V mk k).g.os.length n4, .int .i64 (V mk k).sp] 34)
      have hK6 := (HKB.out.below hb5).alloc (o := .cells #[.slice E1 (V mk k).t.bs.length n1, .slice E2 (V mk k).t.fs.length n2, .slice E3 (V mk k).c.ls.length n3, .int .i64 (V mk k).c.hand, .int .i64 (V mk k).g.count, .int .i64 (V mk k).g.next, .int .i64 (V mk k).g.round, .slice E4 (V mk k).g.os.length n4, .int .i64 (V mk k).sp] 34)
      have hR6 := (HRB.out.below hb5).alloc (o := .cells #[.slice E1 (V mk k).t.bs.length n1, .slice E2 (V mk k).t.fs.length n2, .slice E3 (V mk k).c.ls.length n3, .int .i64 (V mk k).c.hand, .int .i64 (V mk k).g.count, .int .i64 (V mk k).g.next, .int .i64 (V mk k).g.round, .slice E4 (V mk k).g.os.length n4, .int .i64 (V mk k).sp] 34)
      have hN6 := Own.new_ w5 34 #[.slice E1 (V mk k).t.bs.length n1, .slice E2 (V mk k).t.fs.length n2, .slice E3 (V mk k).c.ls.length n3, .int .i64 (V mk k).c.hand, .int .i64 (V mk k).g.count, .int .i64 (V mk k).g.next, .int .i64 (V mk k).g.round, .slice E4 (V mk k).g.os.length n4, .int .i64 (V mk k).sp]
      have hM6 := HM5.out.now (bA (bR (w := w5)) (o := .cells #[.slice E1 (V mk k).t.bs.length n1, .slice E2 (V mk k).t.fs.length n2, .slice E3 (V mk k).c.ls.length n3, .int .i64 (V mk k).c.hand, .int .i64 (V mk k).g.count, .int .i64 (V mk k).g.next, .int .i64 (V mk k).g.round, .slice E4 (V mk k).g.os.length n4, .int .i64 (V mk k).sp] 34))
      have hB6 := bA (bT HBW.out hb5) (o := .cells #[.slice E1 (V mk k).t.bs.length n1, .slice E2 (V mk k).t.fs.length n2, .slice E3 (V mk k).c.ls.length n3, .int .i64 (V mk k).c.hand, .int .i64 (V mk k).g.count, .int .i64 (V mk k).g.next, .int .i64 (V mk k).g.round, .slice E4 (V mk k).g.os.length n4, .int .i64 (V mk k).sp] 34)
      clear p0y p1y p2y p3y p4y p5y p6y p7y p8y q0 q1 hM5 hb5 HOB5
      have hne1 : w2.heap.size ≠ w5.heap.size := by omega
      generalize hW6 : w5.alloc (.cells #[.slice E1 (V mk k).t.bs.length n1, .slice E2 (V mk k).t.fs.length n2, .slice E3 (V mk k).c.ls.length n3, .int .i64 (V mk k).c.hand, .int .i64 (V mk k).g.count, .int .i64 (V mk k).g.next, .int .i64 (V mk k).g.round, .slice E4 (V mk k).g.os.length n4, .int .i64 (V mk k).sp] 34) = w6 at *
      have HO6 := Lib.hid hO6
      have HK6 := Lib.hid hK6
      have HR6 := Lib.hid hR6
      have HN6 := Lib.hid hN6
      have HM6 := Lib.hid hM6
      have HB6 := Lib.hid hB6
      clear hO6 hK6 hR6 hN6 hM6 hB6
      have hl6 := HO6.out.lt
      have hl7 := HR6.out.lt
      have hl8 := HN6.out.lt
      cases hok : O mk k with
      | false =>
        have HO : Hid (rgO O V m n = none) := by show _ = _; rw [rgO_yes h1 hi1 hi2]; exact rgN_none (rgN_bad hput.out hok) (by omega)
        have HA : Hid ((rgO O V m n).isSome = false) := by show _ = _; rw [HO.out]; rfl
        have HV : Hid (rgV O V m n = maz) := by show _ = _; unfold rgV; rw [HO.out]; rfl
        have r0x := HR6.out.cell_ 0 (v := .slice none 0 0) rfl
        have r1x := HR6.out.cell_ 1 (v := .slice none 0 0) rfl
        have r2x := HR6.out.cell_ 2 (v := .slice none 0 0) rfl
        have r3x := HR6.out.cell_ 3 (v := .int .i64 0) rfl
        have r4x := HR6.out.cell_ 4 (v := .int .i64 0) rfl
        have r5x := HR6.out.cell_ 5 (v := .int .i64 0) rfl
        have r6x := HR6.out.cell_ 6 (v := .int .i64 0) rfl
        have r7x := HR6.out.cell_ 7 (v := .slice none 0 0) rfl
        have r8x := HR6.out.cell_ 8 (v := .int .i64 0) rfl
        have z0x := HR6.out.free 0
        have z1x := HR6.out.free 1
        have z2x := HR6.out.free 2
        have z3x := HR6.out.free 3
        have z4x := HR6.out.free 4
        have z5x := HR6.out.free 5
        have z6x := HR6.out.free 6
        have z7x := HR6.out.free 7
        have z8x := HR6.out.free 8
        go_wp2
        have o3 := ((((((((HR6.out.set_ 0 (.slice none 0 0)).set_ 1 (.slice none 0 0)).set_ 2 (.slice none 0 0)).set_ 3 (.int .i64 0)).set_ 4 (.int .i64 0)).set_ 5 (.int .i64 0)).set_ 6 (.int .i64 0)).set_ 7 (.slice none 0 0)).set_ 8 (.int .i64 0)
        have t0 := o3.cell_ 0 (v := .slice none 0 0) (by simp)
        have t1 := o3.cell_ 1 (v := .slice none 0 0) (by simp)
        have t2 := o3.cell_ 2 (v := .slice none 0 0) (by simp)
        have t3 := o3.cell_ 3 (v := .int .i64 0) (by simp)
        have t4 := o3.cell_ 4 (v := .int .i64 0) (by simp)
        have t5 := o3.cell_ 5 (v := .int .i64 0) (by simp)
        have t6 := o3.cell_ 6 (v := .int .i64 0) (by simp)
        have t7 := o3.cell_ 7 (v := .slice none 0 0) (by simp)
        have t8 := o3.cell_ 8 (v := .int .i64 0) (by simp)
        refine bodyPost_ret (v := .tuple #[.agg #[.slice none 0 0, .slice none 0 0, .slice none 0 0, .int .i64 0, .int .i64 0, .int .i64 0, .int .i64 0, .slice none 0 0, .int .i64 0], .bool false]) (by simp [results, Tryz.results47, go_sem, t0, t1, t2, t3, t4, t5, t6, t7, t8]) rfl ⟨_, rfl, _, _, _, _, by rw [HA.out, HV.out]; rfl, by rw [HV.out]; exact mam_z, ?_⟩
        repeat (refine bS ?_ (by simp <;> omega))
        exact HB6.out
      | true =>
        have HPUT := Lib.hid (rgN_step hput.out hok)
        have p0z := HO6.out.cell_ 0 (v := c1) rfl
        have p1z := HO6.out.cell_ 1 (v := c2) rfl
        have p2z := HO6.out.cell_ 2 (v := c3) rfl
        have p3z := HO6.out.cell_ 3 (v := .int .i64 mk.c.hand) rfl
        have p4z := HO6.out.cell_ 4 (v := .int .i64 mk.g.count) rfl
        have p5z := HO6.out.cell_ 5 (v := .int .i64 mk.g.next) rfl
        have p6z := HO6.out.cell_ 6 (v := .int .i64 mk.g.round) rfl
        have p7z := HO6.out.cell_ 7 (v := c4) rfl
        have p8z := HO6.out.cell_ 8 (v := .int .i64 mk.sp) rfl
        have w0z := HO6.out.free 0
        have w1z := HO6.out.free 1
        have w2z := HO6.out.free 2
        have w3z := HO6.out.free 3
        have w4z := HO6.out.free 4
        have w5z := HO6.out.free 5
        have w6z := HO6.out.free 6
        have w7z := HO6.out.free 7
        have w8z := HO6.out.free 8
        have p0n := HN6.out.cell_ 0 (v := .slice E1 (V mk k).t.bs.length n1) rfl
        have p1n := HN6.out.cell_ 1 (v := .slice E2 (V mk k).t.fs.length n2) rfl
        have p2n := HN6.out.cell_ 2 (v := .slice E3 (V mk k).c.ls.length n3) rfl
        have p3n := HN6.out.cell_ 3 (v := .int .i64 (V mk k).c.hand) rfl
        have p4n := HN6.out.cell_ 4 (v := .int .i64 (V mk k).g.count) rfl
        have p5n := HN6.out.cell_ 5 (v := .int .i64 (V mk k).g.next) rfl
        have p6n := HN6.out.cell_ 6 (v := .int .i64 (V mk k).g.round) rfl
        have p7n := HN6.out.cell_ 7 (v := .slice E4 (V mk k).g.os.length n4) rfl
        have p8n := HN6.out.cell_ 8 (v := .int .i64 (V mk k).sp) rfl
        go_wp2
        go_roundw
        case rel =>
          refine ⟨k + 1, V mk k, _, _, _, _, by omega, by go_num, HPUT, HO6.out.set9 _ _ _ _ _ _ _ _ _, (HM6.out.far9 HO6.out _ _ _ _ _ _ _ _ _).r, (fun _ => HM6.out.far9 HO6.out _ _ _ _ _ _ _ _ _), HK6.out.far9 (by omega) _ _ _ _ _ _ _ _ _, HR6.out.far9 (by omega) _ _ _ _ _ _ _ _ _, ?_⟩
          repeat (refine bS ?_ (by simp <;> omega))
          exact HB6.out
        case measure => simp [intOf]; omega
    · obtain rfl : k = n := by omega
      have HO : Hid (rgO O V m k = some mk) := by show _ = _; rw [rgO_yes h1 hi1 hi2]; exact hput.out
      have HA : Hid ((rgO O V m k).isSome = true) := by show _ = _; rw [HO.out]; rfl
      have HV : Hid (rgV O V m k = mk) := by show _ = _; unfold rgV; rw [HO.out]; rfl
      have HMM := Lib.hid (hmm.out (by omega))
      obtain ⟨C1, n1, rfl, _⟩ := HMM.out.t.b
      obtain ⟨C2, n2, rfl, _⟩ := HMM.out.t.f
      obtain ⟨C3, n3, rfl, _⟩ := HMM.out.l
      obtain ⟨C4, n4, rfl, _⟩ := HMM.out.o
      have p0z := HOB.out.cell_ 0 (v := .slice C1 mk.t.bs.length n1) rfl
      have p1z := HOB.out.cell_ 1 (v := .slice C2 mk.t.fs.length n2) rfl
      have p2z := HOB.out.cell_ 2 (v := .slice C3 mk.c.ls.length n3) rfl
      have p3z := HOB.out.cell_ 3 (v := .int .i64 mk.c.hand) rfl
      have p4z := HOB.out.cell_ 4 (v := .int .i64 mk.g.count) rfl
      have p5z := HOB.out.cell_ 5 (v := .int .i64 mk.g.next) rfl
      have p6z := HOB.out.cell_ 6 (v := .int .i64 mk.g.round) rfl
      have p7z := HOB.out.cell_ 7 (v := .slice C4 mk.g.os.length n4) rfl
      have p8z := HOB.out.cell_ 8 (v := .int .i64 mk.sp) rfl
      have r0x := HRB.out.cell_ 0 (v := .slice none 0 0) rfl
      have r1x := HRB.out.cell_ 1 (v := .slice none 0 0) rfl
      have r2x := HRB.out.cell_ 2 (v := .slice none 0 0) rfl
      have r3x := HRB.out.cell_ 3 (v := .int .i64 0) rfl
      have r4x := HRB.out.cell_ 4 (v := .int .i64 0) rfl
      have r5x := HRB.out.cell_ 5 (v := .int .i64 0) rfl
      have r6x := HRB.out.cell_ 6 (v := .int .i64 0) rfl
      have r7x := HRB.out.cell_ 7 (v := .slice none 0 0) rfl
      have r8x := HRB.out.cell_ 8 (v := .int .i64 0) rfl
      have z0x := HRB.out.free 0
      have z1x := HRB.out.free 1
      have z2x := HRB.out.free 2
      have z3x := HRB.out.free 3
      have z4x := HRB.out.free 4
      have z5x := HRB.out.free 5
      have z6x := HRB.out.free 6
      have z7x := HRB.out.free 7
      have z8x := HRB.out.free 8
      have hgl := HOB.out.lt
      have hrl := HRB.out.lt
      go_wp2
      have o3 := HRB.out.set9 (.slice C1 mk.t.bs.length n1) (.slice C2 mk.t.fs.length n2) (.slice C3 mk.c.ls.length n3) (.int .i64 mk.c.hand) (.int .i64 mk.g.count) (.int .i64 mk.g.next) (.int .i64 mk.g.round) (.slice C4 mk.g.os.length n4) (.int .i64 mk.sp)
      have p0t := o3.cell_ 0 (v := .slice C1 mk.t.bs.length n1) rfl
      have p1t := o3.cell_ 1 (v := .slice C2 mk.t.fs.length n2) rfl
      have p2t := o3.cell_ 2 (v := .slice C3 mk.c.ls.length n3) rfl
      have p3t := o3.cell_ 3 (v := .int .i64 mk.c.hand) rfl
      have p4t := o3.cell_ 4 (v := .int .i64 mk.g.count) rfl
      have p5t := o3.cell_ 5 (v := .int .i64 mk.g.next) rfl
      have p6t := o3.cell_ 6 (v := .int .i64 mk.g.round) rfl
      have p7t := o3.cell_ 7 (v := .slice C4 mk.g.os.length n4) rfl
      have p8t := o3.cell_ 8 (v := .int .i64 mk.sp) rfl
      refine bodyPost_ret (v := .tuple #[.agg #[.slice C1 mk.t.bs.length n1, .slice C2 mk.t.fs.length n2, .slice C3 mk.c.ls.length n3, .int .i64 mk.c.hand, .int .i64 mk.g.count, .int .i64 mk.g.next, .int .i64 mk.g.round, .slice C4 mk.g.os.length n4, .int .i64 mk.sp], .bool true]) (by simp [results, Tryz.results47, go_sem, p0t, p1t, p2t, p3t, p4t, p5t, p6t, p7t, p8t]) rfl ⟨_, rfl, _, _, _, _, by rw [HA.out, HV.out], ?_, ?_⟩
      · rw [HV.out]
        exact (HMM.out.far9 HRB.out _ _ _ _ _ _ _ _ _).mono (by omega)
      · repeat (refine bS ?_ (by simp <;> omega))
        exact HBW.out
set_option maxHeartbeats 4000000 in
theorem takeRanged_any (vb vf vl vo : Value) (m : Ma) (s p c : Int)  (O : Ma → Nat → Bool) (V : Ma → Nat → Ma) (w : World) (hM : MaR w vb vf vl vo m) (hfree : Free w)
    (hkv : ∀ m', O m' 0 = true → kval (s, p) = true)
    (hC : ∀ (c1 c2 c3 c4 : Value) (mk : Ma) (k : Nat) (W : World), k < 16 → Below w.heap.size w W → MaR W c1 c2 c3 c4 mk →
      Calls Tryz.prog 82 #[.agg #[c1, c2, c3, .int .i64 mk.c.hand, .int .i64 mk.g.count, .int .i64 mk.g.next, .int .i64 mk.g.round, c4, .int .i64 mk.sp], .int .i64 k, .agg #[.int .i64 s, .int .i64 (p + k)]] W (Post2 fun v w' => ∃ v1 v2 v3 v4, v = .tuple #[.agg #[v1, v2, v3, .int .i64 (V mk k).c.hand, .int .i64 (V mk k).g.count, .int .i64 (V mk k).g.next, .int .i64 (V mk k).g.round, v4, .int .i64 (V mk k).sp], .bool (O mk k)] ∧ MaM W.heap.size w' v1 v2 v3 v4 (V mk k) ∧ Below W.heap.size W w')) :
    Calls Tryz.prog 47 #[.agg #[vb, vf, vl, .int .i64 m.c.hand, .int .i64 m.g.count, .int .i64 m.g.next, .int .i64 m.g.round, vo, .int .i64 m.sp], .agg #[.int .i64 s, .int .i64 p], .int .i64 c, .func (.func 82) #[] #[]] w (Post2 fun v w' => ∃ v1 v2 v3 v4, v = .tuple #[.agg #[v1, v2, v3, .int .i64 (rgV O V m c).c.hand, .int .i64 (rgV O V m c).g.count, .int .i64 (rgV O V m c).g.next, .int .i64 (rgV O V m c).g.round, v4, .int .i64 (rgV O V m c).sp], .bool ((rgO O V m c).isSome)] ∧ MaM w.heap.size w' v1 v2 v3 v4 (rgV O V m c) ∧ Below w.heap.size w w') := by
  have hbx := ((Own.new_ w 34 #[vb, vf, vl, .int .i64 m.c.hand, .int .i64 m.g.count, .int .i64 m.g.next, .int .i64 m.g.round, vo, .int .i64 m.sp]).alloc (o := .cells #[.int .i64 s, .int .i64 p] 36)).alloc (o := .cells #[.slice none 0 0, .slice none 0 0, .slice none 0 0, .int .i64 0, .int .i64 0, .int .i64 0, .int .i64 0, .slice none 0 0, .int .i64 0] 34)
  have hbk := (ownAt (W := w.alloc (.cells #[vb, vf, vl, .int .i64 m.c.hand, .int .i64 m.g.count, .int .i64 m.g.next, .int .i64 m.g.round, vo, .int .i64 m.sp] 34)) (g := w.heap.size + 1) (t := 36) (cs := #[.int .i64 s, .int .i64 p]) (by simp)).alloc (o := .cells #[.slice none 0 0, .slice none 0 0, .slice none 0 0, .int .i64 0, .int .i64 0, .int .i64 0, .int .i64 0, .slice none 0 0, .int .i64 0] 34)
  have hbo := ownAt (W := (w.alloc (.cells #[vb, vf, vl, .int .i64 m.c.hand, .int .i64 m.g.count, .int .i64 m.g.next, .int .i64 m.g.round, vo, .int .i64 m.sp] 34)).alloc (.cells #[.int .i64 s, .int .i64 p] 36)) (g := w.heap.size + 1 + 1) (t := 34) (cs := #[.slice none 0 0, .slice none 0 0, .slice none 0 0, .int .i64 0, .int .i64 0, .int .i64 0, .int .i64 0, .slice none 0 0, .int .i64 0]) (by simp)
  have hb0 : Below w.heap.size w (((w.alloc (.cells #[vb, vf, vl, .int .i64 m.c.hand, .int .i64 m.g.count, .int .i64 m.g.next, .int .i64 m.g.round, vo, .int .i64 m.sp] 34)).alloc (.cells #[.int .i64 s, .int .i64 p] 36)).alloc (.cells #[.slice none 0 0, .slice none 0 0, .slice none 0 0, .int .i64 0, .int .i64 0, .int .i64 0, .int .i64 0, .slice none 0 0, .int .i64 0] 34)) := bA (bA (bA bR))
  have hs0 : (((w.alloc (.cells #[vb, vf, vl, .int .i64 m.c.hand, .int .i64 m.g.count, .int .i64 m.g.next, .int .i64 m.g.round, vo, .int .i64 m.sp] 34)).alloc (.cells #[.int .i64 s, .int .i64 p] 36)).alloc (.cells #[.slice none 0 0, .slice none 0 0, .slice none 0 0, .int .i64 0, .int .i64 0, .int .i64 0, .int .i64 0, .slice none 0 0, .int .i64 0] 34)).heap.size = w.heap.size + 3 := by simp
  generalize hW : ((w.alloc (.cells #[vb, vf, vl, .int .i64 m.c.hand, .int .i64 m.g.count, .int .i64 m.g.next, .int .i64 m.g.round, vo, .int .i64 m.sp] 34)).alloc (.cells #[.int .i64 s, .int .i64 p] 36)).alloc (.cells #[.slice none 0 0, .slice none 0 0, .slice none 0 0, .int .i64 0, .int .i64 0, .int .i64 0, .int .i64 0, .slice none 0 0, .int .i64 0] 34) = W0 at hbx hbk hbo hb0 hs0
  have HX0 := Lib.hid hbx
  have HK0 := Lib.hid hbk
  have HR0 := Lib.hid hbo
  have HB0 := Lib.hid hb0
  have HS0 : Hid (w.heap.size + 3 ≤ W0.heap.size) := Nat.le_of_eq hs0.symm
  clear hbx hbk hbo hb0
  have HM := Lib.hid hM
  have HF := Lib.hid hfree
  clear hM hfree
  have m00 := HX0.out.cell_ 0 (v := vb) rfl
  have m10 := HX0.out.cell_ 1 (v := vf) rfl
  have m20 := HX0.out.cell_ 2 (v := vl) rfl
  have m30 := HX0.out.cell_ 3 (v := .int .i64 m.c.hand) rfl
  have m40 := HX0.out.cell_ 4 (v := .int .i64 m.g.count) rfl
  have m50 := HX0.out.cell_ 5 (v := .int .i64 m.g.next) rfl
  have m60 := HX0.out.cell_ 6 (v := .int .i64 m.g.round) rfl
  have m70 := HX0.out.cell_ 7 (v := vo) rfl
  have m80 := HX0.out.cell_ 8 (v := .int .i64 m.sp) rfl
  go_enter Tryz.func47, Tryz.ntmps47
  go_wp2_with fail
  refine (MachineValid_any vb vf vl vo m _ (HM.out.now HB0.out) (HF.out.now HB0.out)).mono ?_
  rintro e w1 ⟨rfl, hb1⟩
  have HX1 := Lib.hid (HX0.out.below hb1)
  have HK1 := Lib.hid (HK0.out.below hb1)
  have HR1 := Lib.hid (HR0.out.below hb1)
  have HB1 := Lib.hid (bT HB0.out hb1)
  have HS1 := Lib.hid (Nat.le_trans HS0.out hb1.size)
  clear hb1
  clear m00 m10 m20 m30 m40 m50 m60 m70 m80
  cases h1 : mav m with
  | false =>
    have HO : Hid (rgO O V m c = none) := rgO_no (fun h => by rw [h1] at h; cases h.1)
    have HA : Hid ((rgO O V m c).isSome = false) := by show _ = _; rw [HO.out]; rfl
    have HV : Hid (rgV O V m c = maz) := by show _ = _; unfold rgV; rw [HO.out]; rfl
    have r0x := HR1.out.cell_ 0 (v := .slice none 0 0) rfl
    have r1x := HR1.out.cell_ 1 (v := .slice none 0 0) rfl
    have r2x := HR1.out.cell_ 2 (v := .slice none 0 0) rfl
    have r3x := HR1.out.cell_ 3 (v := .int .i64 0) rfl
    have r4x := HR1.out.cell_ 4 (v := .int .i64 0) rfl
    have r5x := HR1.out.cell_ 5 (v := .int .i64 0) rfl
    have r6x := HR1.out.cell_ 6 (v := .int .i64 0) rfl
    have r7x := HR1.out.cell_ 7 (v := .slice none 0 0) rfl
    have r8x := HR1.out.cell_ 8 (v := .int .i64 0) rfl
    have z0x := HR1.out.free 0
    have z1x := HR1.out.free 1
    have z2x := HR1.out.free 2
    have z3x := HR1.out.free 3
    have z4x := HR1.out.free 4
    have z5x := HR1.out.free 5
    have z6x := HR1.out.free 6
    have z7x := HR1.out.free 7
    have z8x := HR1.out.free 8
    go_wp2
    have o3 := ((((((((HR1.out.set_ 0 (.slice none 0 0)).set_ 1 (.slice none 0 0)).set_ 2 (.slice none 0 0)).set_ 3 (.int .i64 0)).set_ 4 (.int .i64 0)).set_ 5 (.int .i64 0)).set_ 6 (.int .i64 0)).set_ 7 (.slice none 0 0)).set_ 8 (.int .i64 0)
    have t0 := o3.cell_ 0 (v := .slice none 0 0) (by simp)
    have t1 := o3.cell_ 1 (v := .slice none 0 0) (by simp)
    have t2 := o3.cell_ 2 (v := .slice none 0 0) (by simp)
    have t3 := o3.cell_ 3 (v := .int .i64 0) (by simp)
    have t4 := o3.cell_ 4 (v := .int .i64 0) (by simp)
    have t5 := o3.cell_ 5 (v := .int .i64 0) (by simp)
    have t6 := o3.cell_ 6 (v := .int .i64 0) (by simp)
    have t7 := o3.cell_ 7 (v := .slice none 0 0) (by simp)
    have t8 := o3.cell_ 8 (v := .int .i64 0) (by simp)
    refine bodyPost_ret (v := .tuple #[.agg #[.slice none 0 0, .slice none 0 0, .slice none 0 0, .int .i64 0, .int .i64 0, .int .i64 0, .int .i64 0, .slice none 0 0, .int .i64 0], .bool false]) (by simp [results, Tryz.results47, go_sem, t0, t1, t2, t3, t4, t5, t6, t7, t8]) rfl ⟨_, rfl, _, _, _, _, by rw [HA.out, HV.out]; rfl, by rw [HV.out]; exact mam_z, ?_⟩
    repeat (refine bS ?_ (by simp <;> omega))
    exact HB1.out
  | true =>
  have k01 := HK1.out.cell_ 0 (v := .int .i64 s) rfl
  have k11 := HK1.out.cell_ 1 (v := .int .i64 p) rfl
  go_wp2_with fail
  refine (keyValid_any s p _).mono ?_
  rintro e w2 ⟨rfl, hb2⟩
  have HX2 := Lib.hid (HX1.out.below hb2)
  have HK2 := Lib.hid (HK1.out.below hb2)
  have HR2 := Lib.hid (HR1.out.below hb2)
  have HB2 := Lib.hid (bT HB1.out hb2)
  have HS2 := Lib.hid (Nat.le_trans HS1.out hb2.size)
  clear hb2
  clear k01 k11
  cases h2k : kval (s, p) with
  | false =>
    have HO : Hid (rgO O V m c = none) := by
      show _ = _
      by_cases h : mav m = true ∧ 1 ≤ c ∧ c ≤ 16
      · have h0 : rgN O V m 1 = none := rgN_bad (rfl : rgN O V m 0 = some m) (bool_ff fun hh => by rw [hkv _ hh] at h2k; cases h2k)
        unfold rgO
        rw [if_pos h]
        exact rgN_none h0 (by omega)
      · exact rgO_no h
    have HA : Hid ((rgO O V m c).isSome = false) := by show _ = _; rw [HO.out]; rfl
    have HV : Hid (rgV O V m c = maz) := by show _ = _; unfold rgV; rw [HO.out]; rfl
    have r0x := HR2.out.cell_ 0 (v := .slice none 0 0) rfl
    have r1x := HR2.out.cell_ 1 (v := .slice none 0 0) rfl
    have r2x := HR2.out.cell_ 2 (v := .slice none 0 0) rfl
    have r3x := HR2.out.cell_ 3 (v := .int .i64 0) rfl
    have r4x := HR2.out.cell_ 4 (v := .int .i64 0) rfl
    have r5x := HR2.out.cell_ 5 (v := .int .i64 0) rfl
    have r6x := HR2.out.cell_ 6 (v := .int .i64 0) rfl
    have r7x := HR2.out.cell_ 7 (v := .slice none 0 0) rfl
    have r8x := HR2.out.cell_ 8 (v := .int .i64 0) rfl
    have z0x := HR2.out.free 0
    have z1x := HR2.out.free 1
    have z2x := HR2.out.free 2
    have z3x := HR2.out.free 3
    have z4x := HR2.out.free 4
    have z5x := HR2.out.free 5
    have z6x := HR2.out.free 6
    have z7x := HR2.out.free 7
    have z8x := HR2.out.free 8
    go_wp2
    have o3 := ((((((((HR2.out.set_ 0 (.slice none 0 0)).set_ 1 (.slice none 0 0)).set_ 2 (.slice none 0 0)).set_ 3 (.int .i64 0)).set_ 4 (.int .i64 0)).set_ 5 (.int .i64 0)).set_ 6 (.int .i64 0)).set_ 7 (.slice none 0 0)).set_ 8 (.int .i64 0)
    have t0 := o3.cell_ 0 (v := .slice none 0 0) (by simp)
    have t1 := o3.cell_ 1 (v := .slice none 0 0) (by simp)
    have t2 := o3.cell_ 2 (v := .slice none 0 0) (by simp)
    have t3 := o3.cell_ 3 (v := .int .i64 0) (by simp)
    have t4 := o3.cell_ 4 (v := .int .i64 0) (by simp)
    have t5 := o3.cell_ 5 (v := .int .i64 0) (by simp)
    have t6 := o3.cell_ 6 (v := .int .i64 0) (by simp)
    have t7 := o3.cell_ 7 (v := .slice none 0 0) (by simp)
    have t8 := o3.cell_ 8 (v := .int .i64 0) (by simp)
    refine bodyPost_ret (v := .tuple #[.agg #[.slice none 0 0, .slice none 0 0, .slice none 0 0, .int .i64 0, .int .i64 0, .int .i64 0, .int .i64 0, .slice none 0 0, .int .i64 0], .bool false]) (by simp [results, Tryz.results47, go_sem, t0, t1, t2, t3, t4, t5, t6, t7, t8]) rfl ⟨_, rfl, _, _, _, _, by rw [HA.out, HV.out]; rfl, by rw [HV.out]; exact mam_z, ?_⟩
    repeat (refine bS ?_ (by simp <;> omega))
    exact HB2.out
  | true =>
  by_cases h2 : c < 1
  · have HO : Hid (rgO O V m c = none) := rgO_no (fun h => by omega)
    have HA : Hid ((rgO O V m c).isSome = false) := by show _ = _; rw [HO.out]; rfl
    have HV : Hid (rgV O V m c = maz) := by show _ = _; unfold rgV; rw [HO.out]; rfl
    have r0x := HR2.out.cell_ 0 (v := .slice none 0 0) rfl
    have r1x := HR2.out.cell_ 1 (v := .slice none 0 0) rfl
    have r2x := HR2.out.cell_ 2 (v := .slice none 0 0) rfl
    have r3x := HR2.out.cell_ 3 (v := .int .i64 0) rfl
    have r4x := HR2.out.cell_ 4 (v := .int .i64 0) rfl
    have r5x := HR2.out.cell_ 5 (v := .int .i64 0) rfl
    have r6x := HR2.out.cell_ 6 (v := .int .i64 0) rfl
    have r7x := HR2.out.cell_ 7 (v := .slice none 0 0) rfl
    have r8x := HR2.out.cell_ 8 (v := .int .i64 0) rfl
    have z0x := HR2.out.free 0
    have z1x := HR2.out.free 1
    have z2x := HR2.out.free 2
    have z3x := HR2.out.free 3
    have z4x := HR2.out.free 4
    have z5x := HR2.out.free 5
    have z6x := HR2.out.free 6
    have z7x := HR2.out.free 7
    have z8x := HR2.out.free 8
    go_wp2
    have o3 := ((((((((HR2.out.set_ 0 (.slice none 0 0)).set_ 1 (.slice none 0 0)).set_ 2 (.slice none 0 0)).set_ 3 (.int .i64 0)).set_ 4 (.int .i64 0)).set_ 5 (.int .i64 0)).set_ 6 (.int .i64 0)).set_ 7 (.slice none 0 0)).set_ 8 (.int .i64 0)
    have t0 := o3.cell_ 0 (v := .slice none 0 0) (by simp)
    have t1 := o3.cell_ 1 (v := .slice none 0 0) (by simp)
    have t2 := o3.cell_ 2 (v := .slice none 0 0) (by simp)
    have t3 := o3.cell_ 3 (v := .int .i64 0) (by simp)
    have t4 := o3.cell_ 4 (v := .int .i64 0) (by simp)
    have t5 := o3.cell_ 5 (v := .int .i64 0) (by simp)
    have t6 := o3.cell_ 6 (v := .int .i64 0) (by simp)
    have t7 := o3.cell_ 7 (v := .slice none 0 0) (by simp)
    have t8 := o3.cell_ 8 (v := .int .i64 0) (by simp)
    refine bodyPost_ret (v := .tuple #[.agg #[.slice none 0 0, .slice none 0 0, .slice none 0 0, .int .i64 0, .int .i64 0, .int .i64 0, .int .i64 0, .slice none 0 0, .int .i64 0], .bool false]) (by simp [results, Tryz.results47, go_sem, t0, t1, t2, t3, t4, t5, t6, t7, t8]) rfl ⟨_, rfl, _, _, _, _, by rw [HA.out, HV.out]; rfl, by rw [HV.out]; exact mam_z, ?_⟩
    repeat (refine bS ?_ (by simp <;> omega))
    exact HB2.out
  by_cases h3 : 16 < c
  · have HO : Hid (rgO O V m c = none) := rgO_no (fun h => by omega)
    have HA : Hid ((rgO O V m c).isSome = false) := by show _ = _; rw [HO.out]; rfl
    have HV : Hid (rgV O V m c = maz) := by show _ = _; unfold rgV; rw [HO.out]; rfl
    have r0x := HR2.out.cell_ 0 (v := .slice none 0 0) rfl
    have r1x := HR2.out.cell_ 1 (v := .slice none 0 0) rfl
    have r2x := HR2.out.cell_ 2 (v := .slice none 0 0) rfl
    have r3x := HR2.out.cell_ 3 (v := .int .i64 0) rfl
    have r4x := HR2.out.cell_ 4 (v := .int .i64 0) rfl
    have r5x := HR2.out.cell_ 5 (v := .int .i64 0) rfl
    have r6x := HR2.out.cell_ 6 (v := .int .i64 0) rfl
    have r7x := HR2.out.cell_ 7 (v := .slice none 0 0) rfl
    have r8x := HR2.out.cell_ 8 (v := .int .i64 0) rfl
    have z0x := HR2.out.free 0
    have z1x := HR2.out.free 1
    have z2x := HR2.out.free 2
    have z3x := HR2.out.free 3
    have z4x := HR2.out.free 4
    have z5x := HR2.out.free 5
    have z6x := HR2.out.free 6
    have z7x := HR2.out.free 7
    have z8x := HR2.out.free 8
    go_wp2
    have o3 := ((((((((HR2.out.set_ 0 (.slice none 0 0)).set_ 1 (.slice none 0 0)).set_ 2 (.slice none 0 0)).set_ 3 (.int .i64 0)).set_ 4 (.int .i64 0)).set_ 5 (.int .i64 0)).set_ 6 (.int .i64 0)).set_ 7 (.slice none 0 0)).set_ 8 (.int .i64 0)
    have t0 := o3.cell_ 0 (v := .slice none 0 0) (by simp)
    have t1 := o3.cell_ 1 (v := .slice none 0 0) (by simp)
    have t2 := o3.cell_ 2 (v := .slice none 0 0) (by simp)
    have t3 := o3.cell_ 3 (v := .int .i64 0) (by simp)
    have t4 := o3.cell_ 4 (v := .int .i64 0) (by simp)
    have t5 := o3.cell_ 5 (v := .int .i64 0) (by simp)
    have t6 := o3.cell_ 6 (v := .int .i64 0) (by simp)
    have t7 := o3.cell_ 7 (v := .slice none 0 0) (by simp)
    have t8 := o3.cell_ 8 (v := .int .i64 0) (by simp)
    refine bodyPost_ret (v := .tuple #[.agg #[.slice none 0 0, .slice none 0 0, .slice none 0 0, .int .i64 0, .int .i64 0, .int .i64 0, .int .i64 0, .slice none 0 0, .int .i64 0], .bool false]) (by simp [results, Tryz.results47, go_sem, t0, t1, t2, t3, t4, t5, t6, t7, t8]) rfl ⟨_, rfl, _, _, _, _, by rw [HA.out, HV.out]; rfl, by rw [HV.out]; exact mam_z, ?_⟩
    repeat (refine bS ?_ (by simp <;> omega))
    exact HB2.out
  obtain ⟨n, rfl⟩ := Int.eq_ofNat_of_zero_le (show 0 ≤ c by omega)
  have hi1 : 1 ≤ n := by omega
  have hi2 : n ≤ 16 := by omega
  obtain ⟨B1, d1, rfl, _⟩ := HM.out.t.b
  obtain ⟨B2, d2, rfl, _⟩ := HM.out.t.f
  obtain ⟨B3, d3, rfl, _⟩ := HM.out.l
  obtain ⟨B4, d4, rfl, _⟩ := HM.out.o
  have p0m := HX2.out.cell_ 0 (v := .slice B1 m.t.bs.length d1) rfl
  have p1m := HX2.out.cell_ 1 (v := .slice B2 m.t.fs.length d2) rfl
  have p2m := HX2.out.cell_ 2 (v := .slice B3 m.c.ls.length d3) rfl
  have p3m := HX2.out.cell_ 3 (v := .int .i64 m.c.hand) rfl
  have p4m := HX2.out.cell_ 4 (v := .int .i64 m.g.count) rfl
  have p5m := HX2.out.cell_ 5 (v := .int .i64 m.g.next) rfl
  have p6m := HX2.out.cell_ 6 (v := .int .i64 m.g.round) rfl
  have p7m := HX2.out.cell_ 7 (v := .slice B4 m.g.os.length d4) rfl
  have p8m := HX2.out.cell_ 8 (v := .int .i64 m.sp) rfl
  have hkv' := kval_iff.1 h2k
  have HO2 := Lib.hid (Own.new_ w2 34 #[.slice B1 m.t.bs.length d1, .slice B2 m.t.fs.length d2, .slice B3 m.c.ls.length d3, .int .i64 m.c.hand, .int .i64 m.g.count, .int .i64 m.g.next, .int .i64 m.g.round, .slice B4 m.g.os.length d4, .int .i64 m.sp])
  have HK3 := Lib.hid (HK2.out.alloc (o := .cells #[.slice B1 m.t.bs.length d1, .slice B2 m.t.fs.length d2, .slice B3 m.c.ls.length d3, .int .i64 m.c.hand, .int .i64 m.g.count, .int .i64 m.g.next, .int .i64 m.g.round, .slice B4 m.g.os.length d4, .int .i64 m.sp] 34))
  have HR3 := Lib.hid (HR2.out.alloc (o := .cells #[.slice B1 m.t.bs.length d1, .slice B2 m.t.fs.length d2, .slice B3 m.c.ls.length d3, .int .i64 m.c.hand, .int .i64 m.g.count, .int .i64 m.g.next, .int .i64 m.g.round, .slice B4 m.g.os.length d4, .int .i64 m.sp] 34))
  have HM3 := Lib.hid (HM.out.now (bA HB2.out (o := .cells #[.slice B1 m.t.bs.length d1, .slice B2 m.t.fs.length d2, .slice B3 m.c.ls.length d3, .int .i64 m.c.hand, .int .i64 m.g.count, .int .i64 m.g.next, .int .i64 m.g.round, .slice B4 m.g.os.length d4, .int .i64 m.sp] 34)))
  have HB3 := Lib.hid (bA HB2.out (o := .cells #[.slice B1 m.t.bs.length d1, .slice B2 m.t.fs.length d2, .slice B3 m.c.ls.length d3, .int .i64 m.c.hand, .int .i64 m.g.count, .int .i64 m.g.next, .int .i64 m.g.round, .slice B4 m.g.os.length d4, .int .i64 m.sp] 34))
  have hgb := HR2.out.lt
  have hs2 := HS2.out
  go_wp2
  clear p0m p1m p2m p3m p4m p5m p6m p7m p8m
  go_loopw [33] (fun u wr => ∃ (k : Nat) (mk : Ma) (c1 c2 c3 c4 : Value), k ≤ n ∧ u = .int .i64 k ∧ Hid (rgN O V m k = some mk) ∧ Own wr w2.heap.size 34 #[c1, c2, c3, .int .i64 mk.c.hand, .int .i64 mk.g.count, .int .i64 mk.g.next, .int .i64 mk.g.round, c4, .int .i64 mk.sp] ∧ MaR wr c1 c2 c3 c4 mk ∧ Hid (0 < k → MaM (w.heap.size + 3) wr c1 c2 c3 c4 mk) ∧ Own wr (w.heap.size + 1) 36 #[.int .i64 s, .int .i64 p] ∧ Own wr (w.heap.size + 1 + 1) 34 #[.slice none 0 0, .slice none 0 0, .slice none 0 0, .int .i64 0, .int .i64 0, .int .i64 0, .int .i64 0, .slice none 0 0, .int .i64 0] ∧ Below w.heap.size w wr) (fun u _ => n - (intOf u).toNat)
  case atStart => exact ⟨0, m, _, _, _, _, by omega, rfl, rfl, HO2.out, HM3.out, (fun h => absurd h (by omega)), HK3.out, HR3.out, HB3.out⟩
  case round =>
    obtain ⟨k, mk, c1, c2, c3, c4, hk, rfl, hput, hob, hmk, hmm, hkb, hrb, hbw⟩ := hrel
    have HOB := Lib.hid hob
    have HMK := Lib.hid hmk
    have HKB := Lib.hid hkb
    have HRB := Lib.hid hrb
    have HBW := Lib.hid hbw
    clear hob hmk hkb hrb hbw
    by_cases hlt : k < n
    · have hwk : IntKind.i64.wrap (p + (k : Int)) = p + k := IntWalk.i64_in _ (by omega)
      have HC := Lib.hid (hC c1 c2 c3 c4 mk k wr (by omega) HBW.out HMK.out)
      have p0y := HOB.out.cell_ 0 (v := c1) rfl
      have p1y := HOB.out.cell_ 1 (v := c2) rfl
      have p2y := HOB.out.cell_ 2 (v := c3) rfl
      have p3y := HOB.out.cell_ 3 (v := .int .i64 mk.c.hand) rfl
      have p4y := HOB.out.cell_ 4 (v := .int .i64 mk.g.count) rfl
      have p5y := HOB.out.cell_ 5 (v := .int .i64 mk.g.next) rfl
      have p6y := HOB.out.cell_ 6 (v := .int .i64 mk.g.round) rfl
      have p7y := HOB.out.cell_ 7 (v := c4) rfl
      have p8y := HOB.out.cell_ 8 (v := .int .i64 mk.sp) rfl
      have q0 := HKB.out.cell_ 0 (v := .int .i64 s) rfl
      have q1 := HKB.out.cell_ 1 (v := .int .i64 p) rfl
      go_wp2_with fail
      refine HC.out.mono ?_
      rintro e w5 ⟨_, rfl, e1, e2, e3, e4, rfl, hM5, hb5⟩
      have hsw : w.heap.size + 3 ≤ wr.heap.size := Nat.le_trans hs2 (Nat.le_of_lt HOB.out.lt)
      have HM5 := Lib.hid (hM5.mono hsw)
      obtain ⟨E1, n1, rfl, _⟩ := HM5.out.t.b
      obtain ⟨E2, n2, rfl, _⟩ := HM5.out.t.f
      obtain ⟨E3, n3, rfl, _⟩ := HM5.out.l
      obtain ⟨E4, n4, rfl, _⟩ := HM5.out.o
      have HOB5 := HOB.out.below hb5
      have hgl5 := HOB5.lt
      have hO6 := HOB5.alloc (o := .cells #[.slice E1 (V mk k).t.bs.length n1, .slice E2 (V mk k).t.fs.length n2, .slice E3 (V mk k).c.ls.length n3, .int .i64 (V mk k).c.hand, .int .i64 (V mk k).g.count, .int .i64 (V mk k).g.next, .int .i64 (V mk k).g.round, .slice E4 (V mk k).g.os.length n4, .int .i64 (V mk k).sp] 34)
      have hK6 := (HKB.out.below hb5).alloc (o := .cells #[.slice E1 (V mk k).t.bs.length n1, .slice E2 (V mk k).t.fs.length n2, .slice E3 (V mk k).c.ls.length n3, .int .i64 (V mk k).c.hand, .int .i64 (V mk k).g.count, .int .i64 (V mk k).g.next, .int .i64 (V mk k).g.round, .slice E4 (V mk k).g.os.length n4, .int .i64 (V mk k).sp] 34)
      have hR6 := (HRB.out.below hb5).alloc (o := .cells #[.slice E1 (V mk k).t.bs.length n1, .slice E2 (V mk k).t.fs.length n2, .slice E3 (V mk k).c.ls.length n3, .int .i64 (V mk k).c.hand, .int .i64 (V mk k).g.count, .int .i64 (V mk k).g.next, .int .i64 (V mk k).g.round, .slice E4 (V mk k).g.os.length n4, .int .i64 (V mk k).sp] 34)
      have hN6 := Own.new_ w5 34 #[.slice E1 (V mk k).t.bs.length n1, .slice E2 (V mk k).t.fs.length n2, .slice E3 (V mk k).c.ls.length n3, .int .i64 (V mk k).c.hand, .int .i64 (V mk k).g.count, .int .i64 (V mk k).g.next, .int .i64 (V mk k).g.round, .slice E4 (V mk k).g.os.length n4, .int .i64 (V mk k).sp]
      have hM6 := HM5.out.now (bA (bR (w := w5)) (o := .cells #[.slice E1 (V mk k).t.bs.length n1, .slice E2 (V mk k).t.fs.length n2, .slice E3 (V mk k).c.ls.length n3, .int .i64 (V mk k).c.hand, .int .i64 (V mk k).g.count, .int .i64 (V mk k).g.next, .int .i64 (V mk k).g.round, .slice E4 (V mk k).g.os.length n4, .int .i64 (V mk k).sp] 34))
      have hB6 := bA (bT HBW.out hb5) (o := .cells #[.slice E1 (V mk k).t.bs.length n1, .slice E2 (V mk k).t.fs.length n2, .slice E3 (V mk k).c.ls.length n3, .int .i64 (V mk k).c.hand, .int .i64 (V mk k).g.count, .int .i64 (V mk k).g.next, .int .i64 (V mk k).g.round, .slice E4 (V mk k).g.os.length n4, .int .i64 (V mk k).sp] 34)
      clear p0y p1y p2y p3y p4y p5y p6y p7y p8y q0 q1 hM5 hb5 HOB5
      have hne1 : w2.heap.size ≠ w5.heap.size := by omega
      generalize hW6 : w5.alloc (.cells #[.slice E1 (V mk k).t.bs.length n1, .slice E2 (V mk k).t.fs.length n2, .slice E3 (V mk k).c.ls.length n3, .int .i64 (V mk k).c.hand, .int .i64 (V mk k).g.count, .int .i64 (V mk k).g.next, .int .i64 (V mk k).g.round, .slice E4 (V mk k).g.os.length n4, .int .i64 (V mk k).sp] 34) = w6 at *
      have HO6 := Lib.hid hO6
      have HK6 := Lib.hid hK6
      have HR6 := Lib.hid hR6
      have HN6 := Lib.hid hN6
      have HM6 := Lib.hid hM6
      have HB6 := Lib.hid hB6
      clear hO6 hK6 hR6 hN6 hM6 hB6
      have hl6 := HO6.out.lt
      have hl7 := HR6.out.lt
      have hl8 := HN6.out.lt
      cases hok : O mk k with
      | false =>
        have HO : Hid (rgO O V m n = none) := by show _ = _; rw [rgO_yes h1 hi1 hi2]; exact rgN_none (rgN_bad hput.out hok) (by omega)
        have HA : Hid ((rgO O V m n).isSome = false) := by show _ = _; rw [HO.out]; rfl
        have HV : Hid (rgV O V m n = maz) := by show _ = _; unfold rgV; rw [HO.out]; rfl
        have r0x := HR6.out.cell_ 0 (v := .slice none 0 0) rfl
        have r1x := HR6.out.cell_ 1 (v := .slice none 0 0) rfl
        have r2x := HR6.out.cell_ 2 (v := .slice none 0 0) rfl
        have r3x := HR6.out.cell_ 3 (v := .int .i64 0) rfl
        have r4x := HR6.out.cell_ 4 (v := .int .i64 0) rfl
        have r5x := HR6.out.cell_ 5 (v := .int .i64 0) rfl
        have r6x := HR6.out.cell_ 6 (v := .int .i64 0) rfl
        have r7x := HR6.out.cell_ 7 (v := .slice none 0 0) rfl
        have r8x := HR6.out.cell_ 8 (v := .int .i64 0) rfl
        have z0x := HR6.out.free 0
        have z1x := HR6.out.free 1
        have z2x := HR6.out.free 2
        have z3x := HR6.out.free 3
        have z4x := HR6.out.free 4
        have z5x := HR6.out.free 5
        have z6x := HR6.out.free 6
        have z7x := HR6.out.free 7
        have z8x := HR6.out.free 8
        go_wp2
        have o3 := ((((((((HR6.out.set_ 0 (.slice none 0 0)).set_ 1 (.slice none 0 0)).set_ 2 (.slice none 0 0)).set_ 3 (.int .i64 0)).set_ 4 (.int .i64 0)).set_ 5 (.int .i64 0)).set_ 6 (.int .i64 0)).set_ 7 (.slice none 0 0)).set_ 8 (.int .i64 0)
        have t0 := o3.cell_ 0 (v := .slice none 0 0) (by simp)
        have t1 := o3.cell_ 1 (v := .slice none 0 0) (by simp)
        have t2 := o3.cell_ 2 (v := .slice none 0 0) (by simp)
        have t3 := o3.cell_ 3 (v := .int .i64 0) (by simp)
        have t4 := o3.cell_ 4 (v := .int .i64 0) (by simp)
        have t5 := o3.cell_ 5 (v := .int .i64 0) (by simp)
        have t6 := o3.cell_ 6 (v := .int .i64 0) (by simp)
        have t7 := o3.cell_ 7 (v := .slice none 0 0) (by simp)
        have t8 := o3.cell_ 8 (v := .int .i64 0) (by simp)
        refine bodyPost_ret (v := .tuple #[.agg #[.slice none 0 0, .slice none 0 0, .slice none 0 0, .int .i64 0, .int .i64 0, .int .i64 0, .int .i64 0, .slice none 0 0, .int .i64 0], .bool false]) (by simp [results, Tryz.results47, go_sem, t0, t1, t2, t3, t4, t5, t6, t7, t8]) rfl ⟨_, rfl, _, _, _, _, by rw [HA.out, HV.out]; rfl, by rw [HV.out]; exact mam_z, ?_⟩
        repeat (refine bS ?_ (by simp <;> omega))
        exact HB6.out
      | true =>
        have HPUT := Lib.hid (rgN_step hput.out hok)
        have p0z := HO6.out.cell_ 0 (v := c1) rfl
        have p1z := HO6.out.cell_ 1 (v := c2) rfl
        have p2z := HO6.out.cell_ 2 (v := c3) rfl
        have p3z := HO6.out.cell_ 3 (v := .int .i64 mk.c.hand) rfl
        have p4z := HO6.out.cell_ 4 (v := .int .i64 mk.g.count) rfl
        have p5z := HO6.out.cell_ 5 (v := .int .i64 mk.g.next) rfl
        have p6z := HO6.out.cell_ 6 (v := .int .i64 mk.g.round) rfl
        have p7z := HO6.out.cell_ 7 (v := c4) rfl
        have p8z := HO6.out.cell_ 8 (v := .int .i64 mk.sp) rfl
        have w0z := HO6.out.free 0
        have w1z := HO6.out.free 1
        have w2z := HO6.out.free 2
        have w3z := HO6.out.free 3
        have w4z := HO6.out.free 4
        have w5z := HO6.out.free 5
        have w6z := HO6.out.free 6
        have w7z := HO6.out.free 7
        have w8z := HO6.out.free 8
        have p0n := HN6.out.cell_ 0 (v := .slice E1 (V mk k).t.bs.length n1) rfl
        have p1n := HN6.out.cell_ 1 (v := .slice E2 (V mk k).t.fs.length n2) rfl
        have p2n := HN6.out.cell_ 2 (v := .slice E3 (V mk k).c.ls.length n3) rfl
        have p3n := HN6.out.cell_ 3 (v := .int .i64 (V mk k).c.hand) rfl
        have p4n := HN6.out.cell_ 4 (v := .int .i64 (V mk k).g.count) rfl
        have p5n := HN6.out.cell_ 5 (v := .int .i64 (V mk k).g.next) rfl
        have p6n := HN6.out.cell_ 6 (v := .int .i64 (V mk k).g.round) rfl
        have p7n := HN6.out.cell_ 7 (v := .slice E4 (V mk k).g.os.length n4) rfl
        have p8n := HN6.out.cell_ 8 (v := .int .i64 (V mk k).sp) rfl
        go_wp2
        go_roundw
        case rel =>
          refine ⟨k + 1, V mk k, _, _, _, _, by omega, by go_num, HPUT, HO6.out.set9 _ _ _ _ _ _ _ _ _, (HM6.out.far9 HO6.out _ _ _ _ _ _ _ _ _).r, (fun _ => HM6.out.far9 HO6.out _ _ _ _ _ _ _ _ _), HK6.out.far9 (by omega) _ _ _ _ _ _ _ _ _, HR6.out.far9 (by omega) _ _ _ _ _ _ _ _ _, ?_⟩
          repeat (refine bS ?_ (by simp <;> omega))
          exact HB6.out
        case measure => simp [intOf]; omega
    · obtain rfl : k = n := by omega
      have HO : Hid (rgO O V m k = some mk) := by show _ = _; rw [rgO_yes h1 hi1 hi2]; exact hput.out
      have HA : Hid ((rgO O V m k).isSome = true) := by show _ = _; rw [HO.out]; rfl
      have HV : Hid (rgV O V m k = mk) := by show _ = _; unfold rgV; rw [HO.out]; rfl
      have HMM := Lib.hid (hmm.out (by omega))
      obtain ⟨C1, n1, rfl, _⟩ := HMM.out.t.b
      obtain ⟨C2, n2, rfl, _⟩ := HMM.out.t.f
      obtain ⟨C3, n3, rfl, _⟩ := HMM.out.l
      obtain ⟨C4, n4, rfl, _⟩ := HMM.out.o
      have p0z := HOB.out.cell_ 0 (v := .slice C1 mk.t.bs.length n1) rfl
      have p1z := HOB.out.cell_ 1 (v := .slice C2 mk.t.fs.length n2) rfl
      have p2z := HOB.out.cell_ 2 (v := .slice C3 mk.c.ls.length n3) rfl
      have p3z := HOB.out.cell_ 3 (v := .int .i64 mk.c.hand) rfl
      have p4z := HOB.out.cell_ 4 (v := .int .i64 mk.g.count) rfl
      have p5z := HOB.out.cell_ 5 (v := .int .i64 mk.g.next) rfl
      have p6z := HOB.out.cell_ 6 (v := .int .i64 mk.g.round) rfl
      have p7z := HOB.out.cell_ 7 (v := .slice C4 mk.g.os.length n4) rfl
      have p8z := HOB.out.cell_ 8 (v := .int .i64 mk.sp) rfl
      have r0x := HRB.out.cell_ 0 (v := .slice none 0 0) rfl
      have r1x := HRB.out.cell_ 1 (v := .slice none 0 0) rfl
      have r2x := HRB.out.cell_ 2 (v := .slice none 0 0) rfl
      have r3x := HRB.out.cell_ 3 (v := .int .i64 0) rfl
      have r4x := HRB.out.cell_ 4 (v := .int .i64 0) rfl
      have r5x := HRB.out.cell_ 5 (v := .int .i64 0) rfl
      have r6x := HRB.out.cell_ 6 (v := .int .i64 0) rfl
      have r7x := HRB.out.cell_ 7 (v := .slice none 0 0) rfl
      have r8x := HRB.out.cell_ 8 (v := .int .i64 0) rfl
      have z0x := HRB.out.free 0
      have z1x := HRB.out.free 1
      have z2x := HRB.out.free 2
      have z3x := HRB.out.free 3
      have z4x := HRB.out.free 4
      have z5x := HRB.out.free 5
      have z6x := HRB.out.free 6
      have z7x := HRB.out.free 7
      have z8x := HRB.out.free 8
      have hgl := HOB.out.lt
      have hrl := HRB.out.lt
      go_wp2
      have o3 := HRB.out.set9 (.slice C1 mk.t.bs.length n1) (.slice C2 mk.t.fs.length n2) (.slice C3 mk.c.ls.length n3) (.int .i64 mk.c.hand) (.int .i64 mk.g.count) (.int .i64 mk.g.next) (.int .i64 mk.g.round) (.slice C4 mk.g.os.length n4) (.int .i64 mk.sp)
      have p0t := o3.cell_ 0 (v := .slice C1 mk.t.bs.length n1) rfl
      have p1t := o3.cell_ 1 (v := .slice C2 mk.t.fs.length n2) rfl
      have p2t := o3.cell_ 2 (v := .slice C3 mk.c.ls.length n3) rfl
      have p3t := o3.cell_ 3 (v := .int .i64 mk.c.hand) rfl
      have p4t := o3.cell_ 4 (v := .int .i64 mk.g.count) rfl
      have p5t := o3.cell_ 5 (v := .int .i64 mk.g.next) rfl
      have p6t := o3.cell_ 6 (v := .int .i64 mk.g.round) rfl
      have p7t := o3.cell_ 7 (v := .slice C4 mk.g.os.length n4) rfl
      have p8t := o3.cell_ 8 (v := .int .i64 mk.sp) rfl
      refine bodyPost_ret (v := .tuple #[.agg #[.slice C1 mk.t.bs.length n1, .slice C2 mk.t.fs.length n2, .slice C3 mk.c.ls.length n3, .int .i64 mk.c.hand, .int .i64 mk.g.count, .int .i64 mk.g.next, .int .i64 mk.g.round, .slice C4 mk.g.os.length n4, .int .i64 mk.sp], .bool true]) (by simp [results, Tryz.results47, go_sem, p0t, p1t, p2t, p3t, p4t, p5t, p6t, p7t, p8t]) rfl ⟨_, rfl, _, _, _, _, by rw [HA.out, HV.out], ?_, ?_⟩
      · rw [HV.out]
        exact (HMM.out.far9 HRB.out _ _ _ _ _ _ _ _ _).mono (by omega)
      · repeat (refine bS ?_ (by simp <;> omega))
        exact HBW.out
end Go.Proofs.YtkmocongdkacjaaGreatDoor
namespace Go.Proofs.YtkmocongdkacjaaGreatDoor
open Go.RowKit
set_option maxRecDepth 1000000
theorem fOK_kval {t : Tab} {s p : Int} (h : fOK t s p = true) : kval (s, p) = true := by
  unfold fOK at h
  simp only [Bool.and_eq_true] at h
  exact h.1.2
theorem grdO_kval {m : Ma} {s p r : Int} (h : grdO m s (p + (0 : Nat)) r = true) : kval (s, p) = true := by
  unfold grdO prOK at h
  simp only [Bool.and_eq_true] at h
  have := fOK_kval h.2.1
  simpa using this
theorem takO_kval {m : Ma} {s p : Int} (h : takO m s (p + (0 : Nat)) = true) : kval (s, p) = true := by
  unfold takO at h
  simp only [Bool.and_eq_true] at h
  have := fOK_kval h.2
  simpa using this
set_option maxHeartbeats 2000000 in
theorem GuardRange1_any (vb vf vl vo : Value) (m : Ma) (i s p r : Int) (gr : Nat) (w : World) (hM : MaR w vb vf vl vo m) (hfree : Free w) (hgr : gr < w.heap.size) (hcr : w.cell? ⟨gr, 0, none⟩ = some (.int .i64 r)) :
    Calls Tryz.prog 70 #[.agg #[vb, vf, vl, .int .i64 m.c.hand, .int .i64 m.g.count, .int .i64 m.g.next, .int .i64 m.g.round, vo, .int .i64 m.sp], .int .i64 i, .agg #[.int .i64 s, .int .i64 p], .pointer (some ⟨gr, 0, none⟩)] w (Post2 fun v w' => ∃ v1 v2 v3 v4, v = .tuple #[.agg #[v1, v2, v3, .int .i64 (grdV m s p r).c.hand, .int .i64 (grdV m s p r).g.count, .int .i64 (grdV m s p r).g.next, .int .i64 (grdV m s p r).g.round, v4, .int .i64 (grdV m s p r).sp], .bool (grdO m s p r)] ∧ MaM w.heap.size w' v1 v2 v3 v4 (grdV m s p r) ∧ Below w.heap.size w w') := by
  have hbx := ((Own.new_ w 34 #[vb, vf, vl, .int .i64 m.c.hand, .int .i64 m.g.count, .int .i64 m.g.next, .int .i64 m.g.round, vo, .int .i64 m.sp]).alloc (o := .cells #[.int .i64 s, .int .i64 p] 36)).alloc (o := .cells #[.slice none 0 0, .slice none 0 0, .slice none 0 0, .int .i64 0, .int .i64 0, .int .i64 0, .int .i64 0, .slice none 0 0, .int .i64 0] 34)
  have hbk := (ownAt (W := w.alloc (.cells #[vb, vf, vl, .int .i64 m.c.hand, .int .i64 m.g.count, .int .i64 m.g.next, .int .i64 m.g.round, vo, .int .i64 m.sp] 34)) (g := w.heap.size + 1) (t := 36) (cs := #[.int .i64 s, .int .i64 p]) (by simp)).alloc (o := .cells #[.slice none 0 0, .slice none 0 0, .slice none 0 0, .int .i64 0, .int .i64 0, .int .i64 0, .int .i64 0, .slice none 0 0, .int .i64 0] 34)
  have hbo := ownAt (W := (w.alloc (.cells #[vb, vf, vl, .int .i64 m.c.hand, .int .i64 m.g.count, .int .i64 m.g.next, .int .i64 m.g.round, vo, .int .i64 m.sp] 34)).alloc (.cells #[.int .i64 s, .int .i64 p] 36)) (g := w.heap.size + 1 + 1) (t := 34) (cs := #[.slice none 0 0, .slice none 0 0, .slice none 0 0, .int .i64 0, .int .i64 0, .int .i64 0, .int .i64 0, .slice none 0 0, .int .i64 0]) (by simp)
  have hb0 : Below w.heap.size w (((w.alloc (.cells #[vb, vf, vl, .int .i64 m.c.hand, .int .i64 m.g.count, .int .i64 m.g.next, .int .i64 m.g.round, vo, .int .i64 m.sp] 34)).alloc (.cells #[.int .i64 s, .int .i64 p] 36)).alloc (.cells #[.slice none 0 0, .slice none 0 0, .slice none 0 0, .int .i64 0, .int .i64 0, .int .i64 0, .int .i64 0, .slice none 0 0, .int .i64 0] 34)) := bA (bA (bA bR))
  have hs0 : (((w.alloc (.cells #[vb, vf, vl, .int .i64 m.c.hand, .int .i64 m.g.count, .int .i64 m.g.next, .int .i64 m.g.round, vo, .int .i64 m.sp] 34)).alloc (.cells #[.int .i64 s, .int .i64 p] 36)).alloc (.cells #[.slice none 0 0, .slice none 0 0, .slice none 0 0, .int .i64 0, .int .i64 0, .int .i64 0, .int .i64 0, .slice none 0 0, .int .i64 0] 34)).heap.size = w.heap.size + 3 := by simp
  generalize hW : ((w.alloc (.cells #[vb, vf, vl, .int .i64 m.c.hand, .int .i64 m.g.count, .int .i64 m.g.next, .int .i64 m.g.round, vo, .int .i64 m.sp] 34)).alloc (.cells #[.int .i64 s, .int .i64 p] 36)).alloc (.cells #[.slice none 0 0, .slice none 0 0, .slice none 0 0, .int .i64 0, .int .i64 0, .int .i64 0, .int .i64 0, .slice none 0 0, .int .i64 0] 34) = W0 at hbx hbk hbo hb0 hs0
  have HX0 := Lib.hid hbx
  have HK0 := Lib.hid hbk
  have HR0 := Lib.hid hbo
  have HB0 := Lib.hid hb0
  have HS0 : Hid (w.heap.size + 3 ≤ W0.heap.size) := Nat.le_of_eq hs0.symm
  clear hbx hbk hbo hb0
  have HM := Lib.hid hM
  have HF := Lib.hid hfree
  have y2 := (HB0.out.cell (p := ⟨gr, 0, none⟩) hgr).trans hcr
  have m00 := HX0.out.cell_ 0 (v := vb) rfl
  have m10 := HX0.out.cell_ 1 (v := vf) rfl
  have m20 := HX0.out.cell_ 2 (v := vl) rfl
  have m30 := HX0.out.cell_ 3 (v := .int .i64 m.c.hand) rfl
  have m40 := HX0.out.cell_ 4 (v := .int .i64 m.g.count) rfl
  have m50 := HX0.out.cell_ 5 (v := .int .i64 m.g.next) rfl
  have m60 := HX0.out.cell_ 6 (v := .int .i64 m.g.round) rfl
  have m70 := HX0.out.cell_ 7 (v := vo) rfl
  have m80 := HX0.out.cell_ 8 (v := .int .i64 m.sp) rfl
  have k00 := HK0.out.cell_ 0 (v := .int .i64 s) rfl
  have k10 := HK0.out.cell_ 1 (v := .int .i64 p) rfl
  have HMV := Lib.hid (fun W (h : MaR W vb vf vl vo m) (hf : Free W) => GuardPage_any vb vf vl vo m s p r W h hf)
  clear hM hfree
  go_enter Tryz.func70, Tryz.ntmps70
  go_wp2_with fail
  refine (HMV.out _ (HM.out.now HB0.out) (HF.out.now HB0.out)).mono ?_
  rintro e w1 ⟨_, rfl, e1, e2, e3, e4, rfl, hM1, hb1⟩
  have HX1 := Lib.hid (HX0.out.below hb1)
  have HK1 := Lib.hid (HK0.out.below hb1)
  have HR1 := Lib.hid (HR0.out.below hb1)
  have HB1 := Lib.hid (bT HB0.out hb1)
  have HS1 := Lib.hid (Nat.le_trans HS0.out hb1.size)
  clear hb1
  have HM1 := Lib.hid (hM1.mono (B' := w.heap.size + 3) (Nat.le_of_eq hs0.symm))
  have r0x := HR1.out.cell_ 0 (v := .slice none 0 0) rfl
  have r1x := HR1.out.cell_ 1 (v := .slice none 0 0) rfl
  have r2x := HR1.out.cell_ 2 (v := .slice none 0 0) rfl
  have r3x := HR1.out.cell_ 3 (v := .int .i64 0) rfl
  have r4x := HR1.out.cell_ 4 (v := .int .i64 0) rfl
  have r5x := HR1.out.cell_ 5 (v := .int .i64 0) rfl
  have r6x := HR1.out.cell_ 6 (v := .int .i64 0) rfl
  have r7x := HR1.out.cell_ 7 (v := .slice none 0 0) rfl
  have r8x := HR1.out.cell_ 8 (v := .int .i64 0) rfl
  have z0x := HR1.out.free 0
  have z1x := HR1.out.free 1
  have z2x := HR1.out.free 2
  have z3x := HR1.out.free 3
  have z4x := HR1.out.free 4
  have z5x := HR1.out.free 5
  have z6x := HR1.out.free 6
  have z7x := HR1.out.free 7
  have z8x := HR1.out.free 8
  obtain ⟨E1, n1, rfl, _⟩ := HM1.out.t.b
  obtain ⟨E2, n2, rfl, _⟩ := HM1.out.t.f
  obtain ⟨E3, n3, rfl, _⟩ := HM1.out.l
  obtain ⟨E4, n4, rfl, _⟩ := HM1.out.o
  clear hM1 m00 m10 m20 m30 m40 m50 m60 m70 m80 k00 k10 y2
  go_wp2
  have o3 := HR1.out.set9 (.slice E1 (grdV m s p r).t.bs.length n1) (.slice E2 (grdV m s p r).t.fs.length n2) (.slice E3 (grdV m s p r).c.ls.length n3) (.int .i64 (grdV m s p r).c.hand) (.int .i64 (grdV m s p r).g.count) (.int .i64 (grdV m s p r).g.next) (.int .i64 (grdV m s p r).g.round) (.slice E4 (grdV m s p r).g.os.length n4) (.int .i64 (grdV m s p r).sp)
  have p0t := o3.cell_ 0 (v := .slice E1 (grdV m s p r).t.bs.length n1) rfl
  have p1t := o3.cell_ 1 (v := .slice E2 (grdV m s p r).t.fs.length n2) rfl
  have p2t := o3.cell_ 2 (v := .slice E3 (grdV m s p r).c.ls.length n3) rfl
  have p3t := o3.cell_ 3 (v := .int .i64 (grdV m s p r).c.hand) rfl
  have p4t := o3.cell_ 4 (v := .int .i64 (grdV m s p r).g.count) rfl
  have p5t := o3.cell_ 5 (v := .int .i64 (grdV m s p r).g.next) rfl
  have p6t := o3.cell_ 6 (v := .int .i64 (grdV m s p r).g.round) rfl
  have p7t := o3.cell_ 7 (v := .slice E4 (grdV m s p r).g.os.length n4) rfl
  have p8t := o3.cell_ 8 (v := .int .i64 (grdV m s p r).sp) rfl
  refine bodyPost_ret (v := .tuple #[.agg #[.slice E1 (grdV m s p r).t.bs.length n1, .slice E2 (grdV m s p r).t.fs.length n2, .slice E3 (grdV m s p r).c.ls.length n3, .int .i64 (grdV m s p r).c.hand, .int .i64 (grdV m s p r).g.count, .int .i64 (grdV m s p r).g.next, .int .i64 (grdV m s p r).g.round, .slice E4 (grdV m s p r).g.os.length n4, .int .i64 (grdV m s p r).sp], .bool (grdO m s p r)]) (by simp [results, Tryz.results70, go_sem, p0t, p1t, p2t, p3t, p4t, p5t, p6t, p7t, p8t]) rfl ⟨_, rfl, _, _, _, _, by first | rfl | rw [hV, hO], ?_, ?_⟩
  · first | exact (HM1.out.far9 HR1.out _ _ _ _ _ _ _ _ _).mono (by omega) | (rw [hV]; exact (HM1.out.far9 HR1.out _ _ _ _ _ _ _ _ _).mono (by omega))
  · repeat (refine bS ?_ (by simp <;> omega))
    exact HB1.out
set_option maxHeartbeats 2000000 in
theorem GuardRange_any (vb vf vl vo : Value) (m : Ma) (s p c r : Int) (w : World) (hM : MaR w vb vf vl vo m) (hfree : Free w) :
    Calls Tryz.prog 27 #[.agg #[vb, vf, vl, .int .i64 m.c.hand, .int .i64 m.g.count, .int .i64 m.g.next, .int .i64 m.g.round, vo, .int .i64 m.sp], .agg #[.int .i64 s, .int .i64 p], .int .i64 c, .int .i64 r] w (Post2 fun v w' => ∃ v1 v2 v3 v4, v = .tuple #[.agg #[v1, v2, v3, .int .i64 (rgV (fun m' k => grdO m' s (p + k) r) (fun m' k => grdV m' s (p + k) r) m c).c.hand, .int .i64 (rgV (fun m' k => grdO m' s (p + k) r) (fun m' k => grdV m' s (p + k) r) m c).g.count, .int .i64 (rgV (fun m' k => grdO m' s (p + k) r) (fun m' k => grdV m' s (p + k) r) m c).g.next, .int .i64 (rgV (fun m' k => grdO m' s (p + k) r) (fun m' k => grdV m' s (p + k) r) m c).g.round, v4, .int .i64 (rgV (fun m' k => grdO m' s (p + k) r) (fun m' k => grdV m' s (p + k) r) m c).sp], .bool ((rgO (fun m' k => grdO m' s (p + k) r) (fun m' k => grdV m' s (p + k) r) m c).isSome)] ∧ MaM w.heap.size w' v1 v2 v3 v4 (rgV (fun m' k => grdO m' s (p + k) r) (fun m' k => grdV m' s (p + k) r) m c) ∧ Below w.heap.size w w') := by
  have hri := (ownAt (W := (w.alloc (.cells #[vb, vf, vl, .int .i64 m.c.hand, .int .i64 m.g.count, .int .i64 m.g.next, .int .i64 m.g.round, vo, .int .i64 m.sp] 34)).alloc (.cells #[.int .i64 s, .int .i64 p] 36)) (g := w.heap.size + 1 + 1) (t := 3) (cs := #[.int .i64 r]) (by simp)).alloc (o := .cells #[.slice none 0 0, .slice none 0 0, .slice none 0 0, .int .i64 0, .int .i64 0, .int .i64 0, .int .i64 0, .slice none 0 0, .int .i64 0] 34)
  have hro := ownAt (W := ((w.alloc (.cells #[vb, vf, vl, .int .i64 m.c.hand, .int .i64 m.g.count, .int .i64 m.g.next, .int .i64 m.g.round, vo, .int .i64 m.sp] 34)).alloc (.cells #[.int .i64 s, .int .i64 p] 36)).alloc (.cells #[.int .i64 r] 3)) (g := w.heap.size + 1 + 1 + 1) (t := 34) (cs := #[.slice none 0 0, .slice none 0 0, .slice none 0 0, .int .i64 0, .int .i64 0, .int .i64 0, .int .i64 0, .slice none 0 0, .int .i64 0]) (by simp)
  have hb0 : Below w.heap.size w ((((w.alloc (.cells #[vb, vf, vl, .int .i64 m.c.hand, .int .i64 m.g.count, .int .i64 m.g.next, .int .i64 m.g.round, vo, .int .i64 m.sp] 34)).alloc (.cells #[.int .i64 s, .int .i64 p] 36)).alloc (.cells #[.int .i64 r] 3)).alloc (.cells #[.slice none 0 0, .slice none 0 0, .slice none 0 0, .int .i64 0, .int .i64 0, .int .i64 0, .int .i64 0, .slice none 0 0, .int .i64 0] 34)) := bA (bA (bA (bA bR)))
  have hs0 : ((((w.alloc (.cells #[vb, vf, vl, .int .i64 m.c.hand, .int .i64 m.g.count, .int .i64 m.g.next, .int .i64 m.g.round, vo, .int .i64 m.sp] 34)).alloc (.cells #[.int .i64 s, .int .i64 p] 36)).alloc (.cells #[.int .i64 r] 3)).alloc (.cells #[.slice none 0 0, .slice none 0 0, .slice none 0 0, .int .i64 0, .int .i64 0, .int .i64 0, .int .i64 0, .slice none 0 0, .int .i64 0] 34)).heap.size = w.heap.size + 4 := by simp
  have hkk := ((ownAt (W := w.alloc (.cells #[vb, vf, vl, .int .i64 m.c.hand, .int .i64 m.g.count, .int .i64 m.g.next, .int .i64 m.g.round, vo, .int .i64 m.sp] 34)) (g := w.heap.size + 1) (t := 36) (cs := #[.int .i64 s, .int .i64 p]) (by simp)).alloc (o := .cells #[.int .i64 r] 3)).alloc (o := .cells #[.slice none 0 0, .slice none 0 0, .slice none 0 0, .int .i64 0, .int .i64 0, .int .i64 0, .int .i64 0, .slice none 0 0, .int .i64 0] 34)
  have hmb := (((Own.new_ w 34 #[vb, vf, vl, .int .i64 m.c.hand, .int .i64 m.g.count, .int .i64 m.g.next, .int .i64 m.g.round, vo, .int .i64 m.sp]).alloc (o := .cells #[.int .i64 s, .int .i64 p] 36)).alloc (o := .cells #[.int .i64 r] 3)).alloc (o := .cells #[.slice none 0 0, .slice none 0 0, .slice none 0 0, .int .i64 0, .int .i64 0, .int .i64 0, .int .i64 0, .slice none 0 0, .int .i64 0] 34)
  generalize hW : (((w.alloc (.cells #[vb, vf, vl, .int .i64 m.c.hand, .int .i64 m.g.count, .int .i64 m.g.next, .int .i64 m.g.round, vo, .int .i64 m.sp] 34)).alloc (.cells #[.int .i64 s, .int .i64 p] 36)).alloc (.cells #[.int .i64 r] 3)).alloc (.cells #[.slice none 0 0, .slice none 0 0, .slice none 0 0, .int .i64 0, .int .i64 0, .int .i64 0, .int .i64 0, .slice none 0 0, .int .i64 0] 34) = W0 at hri hro hb0 hs0 hkk hmb
  have HR0 := Lib.hid hro
  have HB0 := Lib.hid hb0
  have HC := Lib.hid (guardRanged_any vb vf vl vo m s p c (w.heap.size + 1 + 1) (fun m' k => grdO m' s (p + k) r) (fun m' k => grdV m' s (p + k) r) W0 (hM.now hb0) (hfree.now hb0) (fun m' h => grdO_kval h) (fun c1 c2 c3 c4 mk k W hk hbw hmk => GuardRange1_any c1 c2 c3 c4 mk k s (p + k) r (w.heap.size + 1 + 1) W hmk (hfree.now (bT hb0 hbw)) (Nat.lt_of_lt_of_le hri.lt hbw.size) ((hri.below hbw).cell_ 0 rfl)))
  have x0 := hmb.cell_ 0 (v := vb) rfl
  have x1 := hmb.cell_ 1 (v := vf) rfl
  have x2 := hmb.cell_ 2 (v := vl) rfl
  have x3 := hmb.cell_ 3 (v := .int .i64 m.c.hand) rfl
  have x4 := hmb.cell_ 4 (v := .int .i64 m.g.count) rfl
  have x5 := hmb.cell_ 5 (v := .int .i64 m.g.next) rfl
  have x6 := hmb.cell_ 6 (v := .int .i64 m.g.round) rfl
  have x7 := hmb.cell_ 7 (v := vo) rfl
  have x8 := hmb.cell_ 8 (v := .int .i64 m.sp) rfl
  have k0 := hkk.cell_ 0 (v := .int .i64 s) rfl
  have k1 := hkk.cell_ 1 (v := .int .i64 p) rfl
  clear hro hb0 hri hM hfree hkk hmb
  go_enter Tryz.func27, Tryz.ntmps27
  go_wp2_with fail
  refine HC.out.mono ?_
  rintro e w1 ⟨_, rfl, e1, e2, e3, e4, rfl, hM1, hb1⟩
  clear x0 x1 x2 x3 x4 x5 x6 x7 x8 k0 k1 HC
  have HB1 := Lib.hid (bT HB0.out hb1)
  have HR1 := Lib.hid (HR0.out.below hb1)
  have HM1 := Lib.hid (hM1.mono (B' := w.heap.size + 4) (Nat.le_of_eq hs0.symm))
  have r0x := HR1.out.cell_ 0 (v := .slice none 0 0) rfl
  have r1x := HR1.out.cell_ 1 (v := .slice none 0 0) rfl
  have r2x := HR1.out.cell_ 2 (v := .slice none 0 0) rfl
  have r3x := HR1.out.cell_ 3 (v := .int .i64 0) rfl
  have r4x := HR1.out.cell_ 4 (v := .int .i64 0) rfl
  have r5x := HR1.out.cell_ 5 (v := .int .i64 0) rfl
  have r6x := HR1.out.cell_ 6 (v := .int .i64 0) rfl
  have r7x := HR1.out.cell_ 7 (v := .slice none 0 0) rfl
  have r8x := HR1.out.cell_ 8 (v := .int .i64 0) rfl
  have z0x := HR1.out.free 0
  have z1x := HR1.out.free 1
  have z2x := HR1.out.free 2
  have z3x := HR1.out.free 3
  have z4x := HR1.out.free 4
  have z5x := HR1.out.free 5
  have z6x := HR1.out.free 6
  have z7x := HR1.out.free 7
  have z8x := HR1.out.free 8
  generalize hV : rgV (fun m' k => grdO m' s (p + k) r) (fun m' k => grdV m' s (p + k) r) m c = V at *
  generalize hO : (rgO (fun m' k => grdO m' s (p + k) r) (fun m' k => grdV m' s (p + k) r) m c).isSome = O at *
  obtain ⟨E1, n1, rfl, _⟩ := HM1.out.t.b
  obtain ⟨E2, n2, rfl, _⟩ := HM1.out.t.f
  obtain ⟨E3, n3, rfl, _⟩ := HM1.out.l
  obtain ⟨E4, n4, rfl, _⟩ := HM1.out.o
  clear hM1 hb1
  go_wp2
  have o3 := HR1.out.set9 (.slice E1 (V).t.bs.length n1) (.slice E2 (V).t.fs.length n2) (.slice E3 (V).c.ls.length n3) (.int .i64 (V).c.hand) (.int .i64 (V).g.count) (.int .i64 (V).g.next) (.int .i64 (V).g.round) (.slice E4 (V).g.os.length n4) (.int .i64 (V).sp)
  have p0t := o3.cell_ 0 (v := .slice E1 (V).t.bs.length n1) rfl
  have p1t := o3.cell_ 1 (v := .slice E2 (V).t.fs.length n2) rfl
  have p2t := o3.cell_ 2 (v := .slice E3 (V).c.ls.length n3) rfl
  have p3t := o3.cell_ 3 (v := .int .i64 (V).c.hand) rfl
  have p4t := o3.cell_ 4 (v := .int .i64 (V).g.count) rfl
  have p5t := o3.cell_ 5 (v := .int .i64 (V).g.next) rfl
  have p6t := o3.cell_ 6 (v := .int .i64 (V).g.round) rfl
  have p7t := o3.cell_ 7 (v := .slice E4 (V).g.os.length n4) rfl
  have p8t := o3.cell_ 8 (v := .int .i64 (V).sp) rfl
  refine bodyPost_ret (v := .tuple #[.agg #[.slice E1 (V).t.bs.length n1, .slice E2 (V).t.fs.length n2, .slice E3 (V).c.ls.length n3, .int .i64 (V).c.hand, .int .i64 (V).g.count, .int .i64 (V).g.next, .int .i64 (V).g.round, .slice E4 (V).g.os.length n4, .int .i64 (V).sp], .bool (O)]) (by simp [results, Tryz.results27, go_sem, p0t, p1t, p2t, p3t, p4t, p5t, p6t, p7t, p8t]) rfl ⟨_, rfl, _, _, _, _, by first | rfl | rw [hV, hO], ?_, ?_⟩
  · first | exact (HM1.out.far9 HR1.out _ _ _ _ _ _ _ _ _).mono (by omega) | (rw [hV]; exact (HM1.out.far9 HR1.out _ _ _ _ _ _ _ _ _).mono (by omega))
  · repeat (refine bS ?_ (by simp <;> omega))
    exact HB1.out
end Go.Proofs.YtkmocongdkacjaaGreatDoor
namespace Go.Proofs.YtkmocongdkacjaaGreatDoor
open Go.RowKit
set_option maxRecDepth 1000000
theorem l4Fits_any (f : Ln) (tag page : Int) (w : World) : Calls Tryz.prog 219 #[lnV f, .int .i64 tag, .int .i64 page] w fun r w' => r = .returned (.bool (fits tag page f)) ∧ Below w.heap.size w w' := by
  unfold lnV
  cases hv : f.v with
  | false =>
    have H : Hid (fits tag page f = false) := by simp [Hid, fits, hv]
    go_enter Tryz.func219, Tryz.ntmps219
    go_wp2
    go_ret
    exact ⟨by rw [H.out]; rfl, bA bR⟩
  | true =>
    by_cases hp : f.p = page
    · by_cases ht : f.t = tag
      · have H : Hid (fits tag page f = true) := by simp [Hid, fits, hv, hp, ht]
        go_enter Tryz.func219, Tryz.ntmps219
        go_wp2
        go_ret
        exact ⟨by rw [H.out]; rfl, bA bR⟩
      · have H : Hid (fits tag page f = (f.t == tag || f.t == -1)) := by
          show _ = _
          rw [beq_eq_false_iff_ne.2 ht, Bool.false_or]
          simp [fits, hv, hp, ht]
          by_cases h : f.t = -1 <;> simp [h]
        go_enter Tryz.func219, Tryz.ntmps219
        go_wp2
        go_ret
        exact ⟨by rw [H.out]; rfl, bA bR⟩
    · have H : Hid (fits tag page f = false) := by simp [Hid, fits, hp]
      go_enter Tryz.func219, Tryz.ntmps219
      go_wp2
      go_ret
      exact ⟨by rw [H.out]; rfl, bA bR⟩
set_option maxHeartbeats 2000000 in
theorem l4Find_any (vl : Value) (c : Ca) (tag page : Int) (w : World) (hT : SlR lnE w vl c.ls) :
    Calls Tryz.prog 208 #[.agg #[vl, .int .i64 c.hand], .int .i64 tag, .int .i64 page] w fun r w' => r = .returned (.int .i64 (plcI c.ls tag page)) ∧ Below w.heap.size w w' := by
  obtain ⟨A, cc, rfl, hbc, hbm, hL⟩ := hT
  have hfm2 : c.ls.length ≤ 9223372036854775807 := by unfold maxLen at hbm; omega
  have HL := Lib.hid hL
  have hbx := Own.new_ w 29 #[.slice A c.ls.length cc, .int .i64 c.hand]
  have hbz : Below w.heap.size w (w.alloc (.cells #[.slice A c.ls.length cc, .int .i64 c.hand] 29)) := bA bR
  generalize hW : w.alloc (.cells #[.slice A c.ls.length cc, .int .i64 c.hand] 29) = W0 at hbx hbz
  have q0 := hbx.cell_ 0 (v := .slice A c.ls.length cc) rfl
  have q1 := hbx.cell_ 1 (v := .int .i64 c.hand) rfl
  have HBX := Lib.hid hbx
  clear hL hbx
  clear q0 q1
  rw [← pix_plc]
  go_enter Tryz.func208, Tryz.ntmps208
  go_wp2
  go_loopw [7] (fun u wr => ∃ k : Nat, k ≤ c.ls.length ∧ u = .int .i64 k ∧ Hid (∀ (j : Nat) (q : Ln), j < k → c.ls[j]? = some q → fits tag page q = false) ∧ Own wr w.heap.size 29 #[.slice A c.ls.length cc, .int .i64 c.hand] ∧ Below w.heap.size w wr) (fun u _ => c.ls.length - (intOf u).toNat)
  case atStart => exact ⟨0, by omega, rfl, (fun j q h => absurd h (by omega)), HBX.out, hbz⟩
  case round =>
    obtain ⟨k, hk, rfl, hacc, hbox, hbi⟩ := hrel
    have q0 := hbox.cell_ 0 (v := .slice A c.ls.length cc) rfl
    by_cases hlt : k < c.ls.length
    · obtain ⟨o, eo⟩ : ∃ o, c.ls[k]? = some o := ⟨_, List.getElem?_eq_getElem hlt⟩
      obtain ⟨b, ob, rfl, hbb, d0, d1, d2, d3, d4, d5⟩ := (HL.out.below hbi).ln eo
      have HBOX := Lib.hid hbox
      have EO := Lib.hid eo
      clear hbox eo
      go_wp2_with fail
      refine (l4Fits_any o tag page _).mono ?_
      rintro e w2 ⟨rfl, hb2⟩
      have HB2 := Lib.hid (bT hbi hb2)
      have HBOX2 := Lib.hid (HBOX.out.below hb2)
      clear hb2 q0 d0 d1 d2 d3 d4 d5
      cases ht : fits tag page o with
      | true =>
        have H := Lib.hid (pix_at EO.out hacc.out ht)
        go_wp2
        go_ret
        exact ⟨by rw [H.out]; rfl, HB2.out⟩
      | false =>
        have HACC := Lib.hid (pix_step EO.out hacc.out ht)
        go_wp2
        go_roundw
        case rel => exact ⟨k + 1, by omega, by go_num, HACC, HBOX2.out, HB2.out⟩
        case measure => simp [intOf]; omega
    · have H := Lib.hid (pix_none (Nat.le_of_not_lt hlt) hacc.out)
      clear hbox
      go_wp2
      go_ret
      exact ⟨by rw [H.out]; rfl, hbi⟩
theorem l4Tag_any (n : Int) (w : World) : Calls Tryz.prog 221 #[.int .i64 n] w fun r w' => r = .returned (.bool (tagv n)) ∧ w = w' := by
  by_cases h1 : -1 ≤ n
  · by_cases h2 : n < 8
    · have H := Lib.hid (tagv_iff.2 ⟨h1, h2⟩)
      go_enter Tryz.func221, Tryz.ntmps221
      go_wp2
      go_ret
      exact ⟨by rw [H.out]; rfl, rfl⟩
    · have H := Lib.hid (tagv_no (n := n) (fun h => h2 h.2))
      go_enter Tryz.func221, Tryz.ntmps221
      go_wp2
      go_ret
      exact ⟨by rw [H.out]; rfl, rfl⟩
  · have H := Lib.hid (tagv_no (n := n) (fun h => h1 h.1))
    go_enter Tryz.func221, Tryz.ntmps221
    go_wp2
    go_ret
    exact ⟨by rw [H.out]; rfl, rfl⟩
/-- dropping a page's line -/
def dpO (c : Ca) (t p : Int) : Bool := cav c && tagv t && inR p 256 && decide (0 ≤ plcI c.ls t p)
def dpV (c : Ca) (t p : Int) : Ca := if dpO c t p = true then ⟨c.ls.set (plcI c.ls t p).toNat lnz, c.hand⟩ else caz
def flV (c : Ca) (t p : Int) : Int := if dpO c t p = true then plcI c.ls t p else 0
theorem flV_no {c : Ca} {t p : Int} (h : dpO c t p = false) : flV c t p = 0 := by unfold flV; rw [h]; rfl
theorem dpV_no {c : Ca} {t p : Int} (h : dpO c t p = false) : dpV c t p = caz := by unfold dpV; rw [h]; rfl
set_option maxHeartbeats 2000000 in
theorem sFindLine_any (vl : Value) (c : Ca) (tag page : Int) (w : World) (hT : SlR lnE w vl c.ls) :
    Calls Tryz.prog 213 #[.agg #[vl, .int .i64 c.hand], .int .i64 tag, .int .i64 page] w fun r w' => r = .returned (.tuple #[.int .i64 (flV c tag page), .bool (dpO c tag page)]) ∧ Below w.heap.size w w' := by
  have HV := Lib.hid hT
  obtain ⟨A, cc, rfl, hbc, hbm, hL⟩ := hT
  have HL := Lib.hid hL
  have hbx := Own.new_ w 29 #[.slice A c.ls.length cc, .int .i64 c.hand]
  have hbz : Below w.heap.size w (w.alloc (.cells #[.slice A c.ls.length cc, .int .i64 c.hand] 29)) := bA bR
  generalize hW : w.alloc (.cells #[.slice A c.ls.length cc, .int .i64 c.hand] 29) = W0 at hbx hbz
  have q0 := hbx.cell_ 0 (v := .slice A c.ls.length cc) rfl
  have q1 := hbx.cell_ 1 (v := .int .i64 c.hand) rfl
  have HBX := Lib.hid hbx
  clear hL hbx
  go_enter Tryz.func213, Tryz.ntmps213
  go_wp2_with fail
  refine (sCacheValid_any _ c _ (HV.out.now hbz)).mono ?_
  rintro e w1 ⟨rfl, hb1⟩
  have HX1 := Lib.hid (HBX.out.below hb1)
  have HB1 := Lib.hid (bT hbz hb1)
  clear hb1 q0 q1
  cases h1 : cav c with
  | false =>
    have E1 : Hid (dpO c tag page = false) := by show _ = _; unfold dpO; rw [h1]; rfl
    have E2 := Lib.hid (flV_no E1.out)
    go_wp2
    go_ret2
    exact ⟨by rw [E1.out, E2.out]; rfl, HB1.out⟩
  | true =>
    go_wp2_with fail
    refine (l4Tag_any _ _).mono ?_
    rintro e w' ⟨rfl, rfl⟩
    cases h2 : tagv tag with
    | false =>
      have E1 : Hid (dpO c tag page = false) := by show _ = _; unfold dpO; rw [h2]; simp
      have E2 := Lib.hid (flV_no E1.out)
      go_wp2
      go_ret2
      exact ⟨by rw [E1.out, E2.out]; rfl, HB1.out⟩
    | true =>
      go_wp2_with fail
      refine (l1Page_any _ _).mono ?_
      rintro e w' ⟨rfl, rfl⟩
      cases h3 : inR page 256 with
      | false =>
        have E1 : Hid (dpO c tag page = false) := by show _ = _; unfold dpO; rw [h3]; simp
        have E2 := Lib.hid (flV_no E1.out)
        go_wp2
        go_ret2
        exact ⟨by rw [E1.out, E2.out]; rfl, HB1.out⟩
      | true =>
        have q0 := HX1.out.cell_ 0 (v := .slice A c.ls.length cc) rfl
        have q1 := HX1.out.cell_ 1 (v := .int .i64 c.hand) rfl
        go_wp2_with fail
        refine (l4Find_any _ c tag page _ (HV.out.now HB1.out)).mono ?_
        rintro e w2 ⟨rfl, hb2⟩
        have HB2 := Lib.hid (bT HB1.out hb2)
        clear hb2 q0 q1
        by_cases h4 : 0 ≤ plcI c.ls tag page
        · have E1 : Hid (dpO c tag page = true) := by show _ = _; unfold dpO; rw [h1, h2, h3, decide_eq_true h4]; rfl
          have E2 : Hid (flV c tag page = plcI c.ls tag page) := by show _ = _; unfold flV; rw [E1.out]; rfl
          have h4b : ¬ plcI c.ls tag page < 0 := by omega
          go_wp2
          go_ret2
          exact ⟨by rw [E1.out, E2.out]; rfl, HB2.out⟩
        · have E1 : Hid (dpO c tag page = false) := by show _ = _; unfold dpO; rw [decide_eq_false h4]; simp
          have E2 := Lib.hid (flV_no E1.out)
          have h4b : plcI c.ls tag page < 0 := by omega
          go_wp2
          go_ret2
          exact ⟨by rw [E1.out, E2.out]; rfl, HB2.out⟩
end Go.Proofs.YtkmocongdkacjaaGreatDoor
namespace Go.Proofs.YtkmocongdkacjaaGreatDoor
open Go.RowKit
set_option maxRecDepth 1000000
set_option maxHeartbeats 4000000 in
theorem sDropPage_any (vl : Value) (c : Ca) (tag page : Int) (w : World) (hT : SlR lnE w vl c.ls) :
    Calls Tryz.prog 187 #[.agg #[vl, .int .i64 c.hand], .int .i64 tag, .int .i64 page] w (Post2 fun v w' => ∃ v1, v = .tuple #[.agg #[v1, .int .i64 (dpV c tag page).hand], .bool (dpO c tag page)] ∧ SlM lnE 113 w.heap.size w' v1 (dpV c tag page).ls ∧ Below w.heap.size w w') := by
  have HV := Lib.hid hT
  obtain ⟨A, cc, rfl, hbc, hbm, hL⟩ := hT
  have HL := Lib.hid hL
  have hbx := (Own.new_ w 29 #[.slice A c.ls.length cc, .int .i64 c.hand]).alloc (o := .cells #[.slice none 0 0, .int .i64 0] 29)
  have hbo := ownAt (W := w.alloc (.cells #[.slice A c.ls.length cc, .int .i64 c.hand] 29)) (g := w.heap.size + 1) (t := 29) (cs := #[.slice none 0 0, .int .i64 0]) (by simp)
  have hb0 : Below w.heap.size w ((w.alloc (.cells #[.slice A c.ls.length cc, .int .i64 c.hand] 29)).alloc (.cells #[.slice none 0 0, .int .i64 0] 29)) := bA (bA bR)
  have hs0 : ((w.alloc (.cells #[.slice A c.ls.length cc, .int .i64 c.hand] 29)).alloc (.cells #[.slice none 0 0, .int .i64 0] 29)).heap.size = w.heap.size + 2 := by simp
  generalize hW : (w.alloc (.cells #[.slice A c.ls.length cc, .int .i64 c.hand] 29)).alloc (.cells #[.slice none 0 0, .int .i64 0] 29) = W0 at hbx hbo hb0 hs0
  have q0 := hbx.cell_ 0 (v := .slice A c.ls.length cc) rfl
  have q1 := hbx.cell_ 1 (v := .int .i64 c.hand) rfl
  have HX0 := Lib.hid hbx
  have HR0 := Lib.hid hbo
  have HB0 := Lib.hid hb0
  have HS0 : Hid (w.heap.size + 2 ≤ W0.heap.size) := Nat.le_of_eq hs0.symm
  clear hbx hbo hb0 hL
  go_enter Tryz.func187, Tryz.ntmps187
  go_wp2_with fail
  refine (sFindLine_any _ c tag page _ (HV.out.now HB0.out)).mono ?_
  rintro e w1 ⟨rfl, hb1⟩
  have HX1 := Lib.hid (HX0.out.below hb1)
  have HR1 := Lib.hid (HR0.out.below hb1)
  have HB1 := Lib.hid (bT HB0.out hb1)
  have HS1 := Lib.hid (Nat.le_trans HS0.out hb1.size)
  clear hb1
  clear q0 q1
  cases h1 : dpO c tag page with
  | false =>
    have HD := Lib.hid (dpV_no h1)
    have hl1 := HR1.out.lt
    have r0 := HR1.out.cell_ 0 (v := .slice none 0 0) rfl
    have r1 := HR1.out.cell_ 1 (v := .int .i64 0) rfl
    have f0 := HR1.out.free 0
    have f1 := HR1.out.free 1
    go_wp2
    have o3 := (HR1.out.set_ 0 (.slice none 0 0)).set_ 1 (.int .i64 0)
    have t0 := o3.cell_ 0 (v := .slice none 0 0) rfl
    have t1 := o3.cell_ 1 (v := .int .i64 0) rfl
    refine bodyPost_ret (v := .tuple #[.agg #[.slice none 0 0, .int .i64 0], .bool false]) (by simp [results, Tryz.results187, go_sem, t0, t1]) rfl ⟨_, rfl, _, by rw [HD.out, h1]; rfl, by rw [HD.out]; exact SlM.nil_ _, bS (bS HB1.out (by simp)) (by simp)⟩
  | true =>
    have h2 := h1
    unfold dpO at h2
    simp only [Bool.and_eq_true, decide_eq_true_eq] at h2
    obtain ⟨⟨⟨hcv, _⟩, _⟩, h4⟩ := h2
    have hcl := (cav_parts hcv).2.1
    obtain ⟨k, x, hk, ex, _⟩ := plcI_lt h4
    have HD : Hid (dpV c tag page = ⟨c.ls.set k lnz, c.hand⟩) := by show _ = _; unfold dpV; rw [h1, if_pos rfl, hk, Int.toNat_natCast]
    have HF : Hid (flV c tag page = (k : Int)) := by show _ = _; unfold flV; rw [h1, if_pos rfl, hk]
    rw [HF.out]
    have hkl := (List.getElem?_eq_some_iff.1 ex).1
    have EX := Lib.hid ex
    clear hk ex h4 hcv HF
    have q0 := HX1.out.cell_ 0 (v := .slice A c.ls.length cc) rfl
    have q1 := HX1.out.cell_ 1 (v := .int .i64 c.hand) rfl
    go_wp2_with fail
    refine (l4Copy_any _ c _ (HV.out.now HB1.out) (by omega)).mono ?_
    rintro e w2 ⟨_, rfl, v1, rfl, hM2, hb2⟩
    have hs1 := HS1.out
    have hlt1 := HR1.out.lt
    obtain ⟨A2, c2, rfl, l2, k2, m2⟩ := hM2
    obtain ⟨g2, cs2, rfl, hg2, O2, _⟩ := m2.own (by omega)
    have HX2 := Lib.hid (HX1.out.below hb2)
    have HR2 := Lib.hid (HR1.out.below hb2)
    have HB2 := Lib.hid (bT HB1.out hb2)
    have HS2 := Lib.hid (Nat.le_trans HS1.out hb2.size)
    clear hb2
    clear q0 q1
    have ho5 := Own.new_ w2 29 #[.slice (some ⟨g2, 0, none⟩) c.ls.length c2, .int .i64 c.hand]
    have hb5 : Below w2.heap.size w2 (w2.alloc (.cells #[.slice (some ⟨g2, 0, none⟩) c.ls.length c2, .int .i64 c.hand] 29)) := bA bR
    generalize hW5 : w2.alloc (.cells #[.slice (some ⟨g2, 0, none⟩) c.ls.length c2, .int .i64 c.hand] 29) = w5 at ho5 hb5
    have M5 := m2.below hb5
    have O5 := O2.below hb5
    have HX5 := Lib.hid (HX2.out.below hb5)
    have HR5 := Lib.hid (HR2.out.below hb5)
    have HB5 := Lib.hid (bT HB2.out hb5)
    have HS5 := Lib.hid (Nat.le_trans HS2.out hb5.size)
    clear hb5
    clear m2 O2
    have o50 := ho5.cell_ 0 (v := .slice (some ⟨g2, 0, none⟩) c.ls.length c2) rfl
    have o51 := ho5.cell_ 1 (v := .int .i64 c.hand) rfl
    have z0 := O5.free (k * 6)
    have z1 := O5.free (k * 6 + 1)
    have z2 := O5.free (k * 6 + 2)
    have z3 := O5.free (k * 6 + 3)
    have z4 := O5.free (k * 6 + 4)
    have z5 := O5.free (k * 6 + 5)
    obtain ⟨bq, oq, eq1, _, y0, y1, y2, y3, y4, y5⟩ := M5.is.ln EX.out
    injection eq1 with eq1
    injection eq1 with eq1 eq2
    subst eq1 eq2
    rw [Nat.zero_add] at y0 y1 y2 y3 y4 y5
    have HM5 := Lib.hid M5
    have HO5 := Lib.hid ho5
    have hne : w2.heap.size ≠ g2 := HO5.out.ne O5 (by decide)
    have hne2 : g2 ≠ w2.heap.size := fun h => hne h.symm
    have hlo := HO5.out.lt
    have q3 : w.heap.size + 1 ≠ g2 := HR5.out.ne O5 (by decide)
    have q4 : g2 ≠ w.heap.size + 1 := fun h => q3 h.symm
    have hlr := HR5.out.lt
    have r0 := HR5.out.cell_ 0 (v := .slice none 0 0) rfl
    have r1 := HR5.out.cell_ 1 (v := .int .i64 0) rfl
    have f0 := HR5.out.free 0
    have f1 := HR5.out.free 1
    have HML := Lib.hid (HM5.out.wln hkl lnz)
    clear M5 O5 ho5
    go_wp2
    have g1 := ((((((HR5.out.far (p := ⟨g2, k * 6, none⟩) (u := .bool false) q3).far (p := ⟨g2, k * 6 + 1, none⟩) (u := .int .i64 0) q3).far (p := ⟨g2, k * 6 + 2, none⟩) (u := .int .i64 0) q3).far (p := ⟨g2, k * 6 + 3, none⟩) (u := .int .i64 0) q3).far (p := ⟨g2, k * 6 + 4, none⟩) (u := .int .i64 0) q3).far (p := ⟨g2, k * 6 + 5, none⟩) (u := .bool false) q3)
    have o3 := (g1.set_ 0 (.slice (some ⟨g2, 0, none⟩) c.ls.length c2)).set_ 1 (.int .i64 c.hand)
    have t0 := o3.cell_ 0 (v := .slice (some ⟨g2, 0, none⟩) c.ls.length c2) rfl
    have t1 := o3.cell_ 1 (v := .int .i64 c.hand) rfl
    refine bodyPost_ret (v := .tuple #[.agg #[.slice (some ⟨g2, 0, none⟩) c.ls.length c2, .int .i64 c.hand], .bool true]) (by simp [results, Tryz.results187, go_sem, t0, t1]) rfl ⟨_, rfl, _, by rw [HD.out, h1], ?_, ?_⟩
    · rw [HD.out]
      exact (slm_of (by simp) (by simpa using l2) k2 ((HML.out.far (p := ⟨w.heap.size + 1, 0, none⟩) (u := .slice (some ⟨g2, 0, none⟩) c.ls.length c2) hlt1).far (p := ⟨w.heap.size + 1, 1, none⟩) (u := .int .i64 c.hand) hlt1)).mono (by have := HB1.out.size; omega)
    · repeat (refine bS ?_ (by simp <;> omega))
      exact HB5.out
/-- what the cache of a machine has forgotten -/
theorem tagT_ok {m : Ma} (h : tgv m.g = true) (s p : Int) : tagv (tagT m s p) = true := by
  unfold tagT
  split
  · decide
  · unfold tgT
    split
    · rename_i h1
      unfold tgO at h1
      simp only [Bool.and_eq_true, decide_eq_true_eq] at h1
      obtain ⟨k, o, hk, eo, _⟩ := ownI_lt h1.2
      obtain ⟨b, ht⟩ := tgv_parts h
      obtain ⟨q, eq, _, q1, q2, _⟩ := tok_at ht (List.getElem?_eq_some_iff.1 eo).1
      rw [eo] at eq
      injection eq with eq
      subst eq
      rw [hk, Int.toNat_natCast, List.getD_eq_getElem?_getD, eo]
      exact tagv_iff.2 ⟨by simp only [Option.getD_some]; omega, by simp only [Option.getD_some]; omega⟩
    · decide
end Go.Proofs.YtkmocongdkacjaaGreatDoor
namespace Go.Proofs.YtkmocongdkacjaaGreatDoor
open Go.RowKit
set_option maxRecDepth 1000000
def fpV (t : Tab) (s p : Int) : Int := if fOK t s p = true then fndI t.fs s p else 0
set_option maxHeartbeats 2000000 in
theorem sFindPage_any (vb vf : Value) (t : Tab) (s p : Int) (w : World) (hT : TaR w vb vf t) :
    Calls Tryz.prog 185 #[.agg #[vb, vf], .agg #[.int .i64 s, .int .i64 p]] w (Post2 fun v w' => ∃ stp : Int, v = .tuple #[.int .i64 (fpV t s p), .int .i64 stp, .bool (fOK t s p)] ∧ Below w.heap.size w w') := by
  have hx := (Own.new_ w 26 #[vb, vf]).alloc (o := .cells #[.int .i64 s, .int .i64 p] 36)
  have hk := ownAt (W := w.alloc (.cells #[vb, vf] 26)) (g := w.heap.size + 1) (t := 36) (cs := #[.int .i64 s, .int .i64 p]) (by simp)
  have hb0 : Below w.heap.size w ((w.alloc (.cells #[vb, vf] 26)).alloc (.cells #[.int .i64 s, .int .i64 p] 36)) := bA (bA bR)
  generalize hW : (w.alloc (.cells #[vb, vf] 26)).alloc (.cells #[.int .i64 s, .int .i64 p] 36) = W0 at hx hk hb0
  have HTR := Lib.hid hT
  have HX0 := Lib.hid hx
  have HK0 := Lib.hid hk
  have HB0 := Lib.hid hb0
  clear hT hx hk hb0
  have t00 := HX0.out.cell_ 0 (v := vb) rfl
  have t10 := HX0.out.cell_ 1 (v := vf) rfl
  go_enter Tryz.func185, Tryz.ntmps185
  go_wp2_with fail
  refine (sTableValid_any vb vf t _ (HTR.out.now HB0.out)).mono ?_
  rintro e w1 ⟨rfl, hb1⟩
  have HX1 := Lib.hid (HX0.out.below hb1)
  have HK1 := Lib.hid (HK0.out.below hb1)
  have HB1 := Lib.hid (bT HB0.out hb1)
  clear hb1 t00 t10
  cases h1 : tv t with
  | false =>
    have HA : Hid (fOK t s p = false) := by show _ = _; unfold fOK; rw [h1]; rfl
    have HV : Hid (fpV t s p = 0) := by show _ = _; unfold fpV; rw [HA.out]; rfl
    go_wp2
    refine bodyPost_ret (v := .tuple #[.int .i64 0, .int .i64 0, .bool false]) (by simp [results, Tryz.results185, go_sem]) rfl ⟨_, rfl, 0, by rw [HA.out, HV.out], HB1.out⟩
  | true =>
    have k0 := HK1.out.cell_ 0 (v := .int .i64 s) rfl
    have k1 := HK1.out.cell_ 1 (v := .int .i64 p) rfl
    go_wp2_with fail
    refine (sKeyValid_any _ _ _).mono ?_
    rintro e w2 ⟨rfl, hb2⟩
    have HX2 := Lib.hid (HX1.out.below hb2)
    have HK2 := Lib.hid (HK1.out.below hb2)
    have HB2 := Lib.hid (bT HB1.out hb2)
    clear hb2 k0 k1
    cases h2 : kval (s, p) with
    | false =>
      have HA : Hid (fOK t s p = false) := by show _ = _; unfold fOK; rw [h1, h2]; rfl
      have HV : Hid (fpV t s p = 0) := by show _ = _; unfold fpV; rw [HA.out]; rfl
      go_wp2
      refine bodyPost_ret (v := .tuple #[.int .i64 0, .int .i64 0, .bool false]) (by simp [results, Tryz.results185, go_sem]) rfl ⟨_, rfl, 0, by rw [HA.out, HV.out], HB2.out⟩
    | true =>
      have t0 := HX2.out.cell_ 0 (v := vb) rfl
      have t1 := HX2.out.cell_ 1 (v := vf) rfl
      have k0 := HK2.out.cell_ 0 (v := .int .i64 s) rfl
      have k1 := HK2.out.cell_ 1 (v := .int .i64 p) rfl
      go_wp2_with fail
      refine (l3Find_any vb _ t s p _ (HTR.out.now HB2.out) h1 h2).mono ?_
      rintro e w3 ⟨stp, rfl, hb3⟩
      have HB3 := Lib.hid (bT HB2.out hb3)
      clear hb3 t0 t1 k0 k1
      by_cases h3 : 0 ≤ fndI t.fs s p
      · have HA : Hid (fOK t s p = true) := by show _ = _; unfold fOK; rw [h1, h2, decide_eq_true h3]; rfl
        have HV : Hid (fpV t s p = fndI t.fs s p) := by show _ = _; unfold fpV; rw [HA.out]; rfl
        have h3b : ¬ fndI t.fs s p < 0 := by omega
        go_wp2
        refine bodyPost_ret (v := .tuple #[.int .i64 (fndI t.fs s p), .int .i64 stp, .bool true]) (by simp [results, Tryz.results185, go_sem]) rfl ⟨_, rfl, stp, by rw [HA.out, HV.out], HB3.out⟩
      · have HA : Hid (fOK t s p = false) := by show _ = _; unfold fOK; rw [h1, h2, decide_eq_false h3]; rfl
        have HV : Hid (fpV t s p = 0) := by show _ = _; unfold fpV; rw [HA.out]; rfl
        have h3b : fndI t.fs s p < 0 := by omega
        go_wp2
        refine bodyPost_ret (v := .tuple #[.int .i64 0, .int .i64 stp, .bool false]) (by simp [results, Tryz.results185, go_sem]) rfl ⟨_, rfl, stp, by rw [HA.out, HV.out], HB3.out⟩
set_option maxHeartbeats 4000000 in
theorem sProtectPage_any (vb vf : Value) (t : Tab) (s p r : Int) (w : World) (hT : TaR w vb vf t) :
    Calls Tryz.prog 137 #[.agg #[vb, vf], .agg #[.int .i64 s, .int .i64 p], .int .i64 r] w (Post2 fun v w' => ∃ v1 v2, v = .tuple #[.agg #[v1, v2], .bool (prOK t s p r)] ∧ TaM w.heap.size w' v1 v2 (prV t s p r) ∧ Below w.heap.size w w') := by
  have ht0 := ((Own.new_ w 26 #[vb, vf]).alloc (o := .cells #[.int .i64 s, .int .i64 p] 36)).alloc (o := .cells #[.slice none 0 0, .slice none 0 0] 26)
  have hk0 := (Own.new_ (w.alloc (.cells #[vb, vf] 26)) 36 #[.int .i64 s, .int .i64 p]).alloc (o := .cells #[.slice none 0 0, .slice none 0 0] 26)
  have hr0 := Own.new_ ((w.alloc (.cells #[vb, vf] 26)).alloc (.cells #[.int .i64 s, .int .i64 p] 36)) 26 #[.slice none 0 0, .slice none 0 0]
  have hb0 : Below w.heap.size w (((w.alloc (.cells #[vb, vf] 26)).alloc (.cells #[.int .i64 s, .int .i64 p] 36)).alloc (.cells #[.slice none 0 0, .slice none 0 0] 26)) := bA (bA (bA bR))
  rw [show (w.alloc (.cells #[vb, vf] 26)).heap.size = w.heap.size + 1 by simp] at hk0
  rw [show ((w.alloc (.cells #[vb, vf] 26)).alloc (.cells #[.int .i64 s, .int .i64 p] 36)).heap.size = w.heap.size + 1 + 1 by simp] at hr0
  have hs0 : (((w.alloc (.cells #[vb, vf] 26)).alloc (.cells #[.int .i64 s, .int .i64 p] 36)).alloc (.cells #[.slice none 0 0, .slice none 0 0] 26)).heap.size = w.heap.size + 3 := by simp
  generalize hW : ((w.alloc (.cells #[vb, vf] 26)).alloc (.cells #[.int .i64 s, .int .i64 p] 36)).alloc (.cells #[.slice none 0 0, .slice none 0 0] 26) = W0 at ht0 hk0 hr0 hb0 hs0
  have HT0 := Lib.hid ht0
  have HK0 := Lib.hid hk0
  have HR0 := Lib.hid hr0
  have HB0 := Lib.hid hb0
  clear ht0 hk0 hr0 hb0
  have t00 := HT0.out.cell_ 0 (v := vb) rfl
  have t10 := HT0.out.cell_ 1 (v := vf) rfl
  have k00 := HK0.out.cell_ 0 (v := .int .i64 s) rfl
  have k10 := HK0.out.cell_ 1 (v := .int .i64 p) rfl
  have HTR := Lib.hid hT
  clear hT
  go_enter Tryz.func137, Tryz.ntmps137
  go_wp2_with fail
  refine (sFindPage_any vb vf t s p _ (HTR.out.now HB0.out)).mono ?_
  rintro e w1 ⟨_, rfl, stp, rfl, hb1⟩
  have HT1 := Lib.hid (HT0.out.below hb1)
  have HK1 := Lib.hid (HK0.out.below hb1)
  have HR1 := Lib.hid (HR0.out.below hb1)
  have HB1 := Lib.hid (bT HB0.out hb1)
  clear hb1
  have t01 := HT1.out.cell_ 0 rfl
  have t11 := HT1.out.cell_ 1 rfl
  have k01 := HK1.out.cell_ 0 (v := .int .i64 s) rfl
  have k11 := HK1.out.cell_ 1 (v := .int .i64 p) rfl
  have r01 := HR1.out.cell_ 0 (v := .slice none 0 0) rfl
  have r11 := HR1.out.cell_ 1 (v := .slice none 0 0) rfl
  have fr01 := HR1.out.free 0
  have fr11 := HR1.out.free 1
  clear t00 t10 k00 k10
  try clear r00 r10 fr00 fr10
  cases h1 : fOK t s p with
  | false =>
    have HA : Hid (prOK t s p r = false) := by show _ = _; unfold prOK; rw [h1]; rfl
    have HV := Lib.hid (prOK_false HA.out)
    go_wp2
    have o3 := (HR1.out.set_ 0 (.slice none 0 0)).set_ 1 (.slice none 0 0)
    have e0 := o3.cell_ 0 (v := .slice none 0 0) rfl
    have e1 := o3.cell_ 1 (v := .slice none 0 0) rfl
    refine bodyPost_ret (v := .tuple #[.agg #[.slice none 0 0, .slice none 0 0], .bool false]) (by simp [results, Tryz.results137, go_sem, e0, e1]) rfl ⟨_, rfl, _, _, by rw [HA.out], ?_, bS (bS HB1.out (by simp; omega)) (by simp; omega)⟩
    rw [HV.out]
    exact tam_z
  | true =>
  have HFP : Hid (fpV t s p = fndI t.fs s p) := by show _ = _; unfold fpV; rw [h1]; rfl
  rw [HFP.out]
  cases h8 : inR r 8 with
  | false =>
    have HA : Hid (prOK t s p r = false) := by show _ = _; unfold prOK; rw [h8]; simp
    have HV := Lib.hid (prOK_false HA.out)
    go_wp2_with fail
    refine (sRightsValid_any _ _).mono ?_
    rintro e w' ⟨rfl, rfl⟩
    rw [h8]
    go_wp2
    have o3 := (HR1.out.set_ 0 (.slice none 0 0)).set_ 1 (.slice none 0 0)
    have e0 := o3.cell_ 0 (v := .slice none 0 0) rfl
    have e1 := o3.cell_ 1 (v := .slice none 0 0) rfl
    refine bodyPost_ret (v := .tuple #[.agg #[.slice none 0 0, .slice none 0 0], .bool false]) (by simp [results, Tryz.results137, go_sem, e0, e1]) rfl ⟨_, rfl, _, _, by rw [HA.out], ?_, bS (bS HB1.out (by simp; omega)) (by simp; omega)⟩
    rw [HV.out]
    exact tam_z
  | true =>
  have h1' := h1
  unfold fOK at h1'
  simp only [Bool.and_eq_true, decide_eq_true_eq] at h1'
  obtain ⟨⟨htv, hkv⟩, h3⟩ := h1'
  obtain ⟨⟨_, hlen, hb1', hlen2⟩, _⟩ := tv_parts htv
  obtain ⟨k, f, hk, ef, hfu, hfk⟩ := fndI_lt h3
  have HA : Hid (prOK t s p r = true) := by show _ = _; unfold prOK; rw [h1, h8]; rfl
  have HV : Hid (prV t s p r = ⟨t.bs, t.fs.set k { f with r := r }⟩) := by
    show _ = _
    unfold prV
    rw [HA.out, if_pos rfl]
    unfold prT
    rw [hk, Int.toNat_natCast]
    simp only [List.getD_eq_getElem?_getD, ef]
    rfl
  rw [hk]
  have HEF := Lib.hid ef
  clear hk ef hfk h3 hfu HFP htv hkv
  go_wp2_with fail
  refine (sRightsValid_any _ _).mono ?_
  rintro e w' ⟨rfl, rfl⟩
  rw [h8]
  go_wp2_with fail
  refine (l3Copy_any vb vf t _ (HTR.out.now HB1.out) (by omega) (by omega)).mono ?_
  rintro e w4 ⟨_, rfl, v1, v2, rfl, hM4, hb4⟩
  have HM4S : Hid (w1.heap.size ≤ w4.heap.size) := hb4.size
  have HT4 := Lib.hid (HT1.out.below hb4)
  have HK4 := Lib.hid (HK1.out.below hb4)
  have HR4 := Lib.hid (HR1.out.below hb4)
  have HB4 := Lib.hid (bT HB1.out hb4)
  clear hb4
  have t04 := HT4.out.cell_ 0 rfl
  have t14 := HT4.out.cell_ 1 rfl
  have k04 := HK4.out.cell_ 0 (v := .int .i64 s) rfl
  have k14 := HK4.out.cell_ 1 (v := .int .i64 p) rfl
  have r04 := HR4.out.cell_ 0 (v := .slice none 0 0) rfl
  have r14 := HR4.out.cell_ 1 (v := .slice none 0 0) rfl
  have fr04 := HR4.out.free 0
  have fr14 := HR4.out.free 1
  clear t01 t11 k01 k11
  try clear r01 r11 fr01 fr11
  have hfl := (List.getElem?_eq_some_iff.1 HEF.out).1
  obtain ⟨g1, c1, g2, c2, rfl, rfl, e1, e2, l1, l2, hne, a1, a2, b1, b2, m1, m2⟩ := hM4.open_ hb1' (by omega)
  have ho5 := Own.new_ w4 26 #[.slice (some ⟨g1, 0, none⟩) t.bs.length c1, .slice (some ⟨g2, 0, none⟩) t.fs.length c2]
  have hb5 : Below w4.heap.size w4 (w4.alloc (.cells #[.slice (some ⟨g1, 0, none⟩) t.bs.length c1, .slice (some ⟨g2, 0, none⟩) t.fs.length c2] 26)) := bA bR
  generalize hW5 : w4.alloc (.cells #[.slice (some ⟨g1, 0, none⟩) t.bs.length c1, .slice (some ⟨g2, 0, none⟩) t.fs.length c2] 26) = w5 at ho5 hb5
  have N1 := m1.below hb5
  have N2 := m2.below hb5
  have HT5 := Lib.hid (HT4.out.below hb5)
  have HK5 := Lib.hid (HK4.out.below hb5)
  have HR5 := Lib.hid (HR4.out.below hb5)
  have HB5 := Lib.hid (bT HB4.out hb5)
  clear hb5
  have t05 := HT5.out.cell_ 0 rfl
  have t15 := HT5.out.cell_ 1 rfl
  have k05 := HK5.out.cell_ 0 (v := .int .i64 s) rfl
  have k15 := HK5.out.cell_ 1 (v := .int .i64 p) rfl
  have r05 := HR5.out.cell_ 0 (v := .slice none 0 0) rfl
  have r15 := HR5.out.cell_ 1 (v := .slice none 0 0) rfl
  have fr05 := HR5.out.free 0
  have fr15 := HR5.out.free 1
  clear t04 t14 k04 k14
  try clear r04 r14 fr04 fr14
  have o50 := ho5.cell_ 0 (v := .slice (some ⟨g1, 0, none⟩) t.bs.length c1) rfl
  have o51 := ho5.cell_ 1 (v := .slice (some ⟨g2, 0, none⟩) t.fs.length c2) rfl
  obtain ⟨bq, oq, eq1, _, y0, y1, y2, y3, y4⟩ := N2.is.fr HEF.out
  injection eq1 with eq1
  injection eq1 with eq1 eq2
  subst eq1 eq2
  rw [Nat.zero_add] at y0 y1 y2 y3 y4
  obtain ⟨_, cs2, u2, _, O2, _⟩ := N2.own (by omega)
  injection u2 with u2
  injection u2 with u2
  subst u2
  have fz := O2.free (k * 5 + 3)
  have P1 := Lib.hid N1
  have P2 := Lib.hid N2
  have HO5 := Lib.hid ho5
  clear hM4 ho5 m1 m2 N1 N2 O2 y0 y1 y2 y4
  have hsz3 := HB1.out.size
  have hsz4 := HM4S.out
  have hlt3 := HR1.out.lt
  have P3 := (P2.out.wrights HEF.out r)
  have P4 := P1.out.other (p := ⟨g2, k * 5 + 3, none⟩) (u := .int .i64 r) hne.symm
  have R7 := HR5.out.far (p := ⟨g2, k * 5 + 3, none⟩) (u := .int .i64 r) (by simp; omega)
  have PP3 := Lib.hid P3
  have PP4 := Lib.hid P4
  have RR := Lib.hid R7
  have HB7 := Lib.hid (HB5.out.setCell (p := ⟨g2, k * 5 + 3, none⟩) (by show w.heap.size ≤ g2; omega) (.int .i64 r))
  have O7 := HO5.out.far (p := ⟨g2, k * 5 + 3, none⟩) (u := .int .i64 r) (by have := HO5.out.lt; simp; omega)
  clear R7 P3 P4 O7
  go_wp2
  have o3 := (RR.out.set_ 0 (.slice (some ⟨g1, 0, none⟩) t.bs.length c1)).set_ 1 (.slice (some ⟨g2, 0, none⟩) t.fs.length c2)
  have e0 := o3.cell_ 0 (v := .slice (some ⟨g1, 0, none⟩) t.bs.length c1) rfl
  have e1 := o3.cell_ 1 (v := .slice (some ⟨g2, 0, none⟩) t.fs.length c2) rfl
  have Q3 := (PP3.out.far (p := ⟨w.heap.size + 1 + 1, 0, none⟩) (u := .slice (some ⟨g1, 0, none⟩) t.bs.length c1) hlt3).far (p := ⟨w.heap.size + 1 + 1, 1, none⟩) (u := .slice (some ⟨g2, 0, none⟩) t.fs.length c2) hlt3
  have Q4 := (PP4.out.far (p := ⟨w.heap.size + 1 + 1, 0, none⟩) (u := .slice (some ⟨g1, 0, none⟩) t.bs.length c1) hlt3).far (p := ⟨w.heap.size + 1 + 1, 1, none⟩) (u := .slice (some ⟨g2, 0, none⟩) t.fs.length c2) hlt3
  refine bodyPost_ret (v := .tuple #[.agg #[.slice (some ⟨g1, 0, none⟩) t.bs.length c1, .slice (some ⟨g2, 0, none⟩) t.fs.length c2], .bool true]) (by simp [results, Tryz.results137, go_sem, e0, e1]) rfl ⟨_, rfl, _, _, by rw [HA.out], ?_, bS (bS HB7.out (by simp; omega)) (by simp; omega)⟩
  rw [HV.out]
  exact ⟨slm_of rfl a1 a2 (Q4.mono hsz3), slm_of (by simp) (by simpa using b1) b2 (Q3.mono hsz3)⟩
end Go.Proofs.YtkmocongdkacjaaGreatDoor
namespace Go.Proofs.YtkmocongdkacjaaGreatDoor
open Go.RowKit
set_option maxRecDepth 1000000
theorem drp_no {m : Ma} {s p : Int} (h : tagO m s p = true) (hc : dpO m.c (tagT m s p) p = false) (hv : cav m.c = true) (hg : tgv m.g = true) (hp : inR p 256 = true) : drpC m s p = m.c := by
  refine drpC_neg fun h4 => ?_
  unfold dpO at hc
  rw [hv, tagT_ok hg, hp, decide_eq_true h4] at hc
  cases hc
theorem drp_yes {m : Ma} {s p : Int} (h : tagO m s p = true) (hc : dpO m.c (tagT m s p) p = true) : drpC m s p = dpV m.c (tagT m s p) p := by
  unfold drpC dpV
  rw [hc, if_pos rfl]
  unfold dpO at hc
  simp only [Bool.and_eq_true, decide_eq_true_eq] at hc
  rw [if_pos ⟨h, hc.2⟩]
set_option maxHeartbeats 4000000 in
theorem l6Forget_any (vb vf vl vo : Value) (m : Ma) (s p : Int) (w : World) (hM : MaR w vb vf vl vo m) (hm : mav m = true) (hp : inR p 256 = true) :
    Calls Tryz.prog 138 #[.agg #[vb, vf, vl, .int .i64 m.c.hand, .int .i64 m.g.count, .int .i64 m.g.next, .int .i64 m.g.round, vo, .int .i64 m.sp], .agg #[.int .i64 s, .int .i64 p]] w (Post2 fun v w' => ∃ v1 v2 v3 v4, v = .agg #[v1, v2, v3, .int .i64 (drpM m m.t s p).c.hand, .int .i64 (drpM m m.t s p).g.count, .int .i64 (drpM m m.t s p).g.next, .int .i64 (drpM m m.t s p).g.round, v4, .int .i64 (drpM m m.t s p).sp] ∧ MaM w.heap.size w' v1 v2 v3 v4 (drpM m m.t s p) ∧ Below w.heap.size w w') := by
  obtain ⟨htv, hcv, hgv, _⟩ := mav_parts hm
  obtain ⟨a1, a2, a3, a4⟩ := mav_len hm
  have hbx := ((Own.new_ w 34 #[vb, vf, vl, .int .i64 m.c.hand, .int .i64 m.g.count, .int .i64 m.g.next, .int .i64 m.g.round, vo, .int .i64 m.sp]).alloc (o := .cells #[.int .i64 s, .int .i64 p] 36)).alloc (o := .cells #[.slice none 0 0, .slice none 0 0, .slice none 0 0, .int .i64 0, .int .i64 0, .int .i64 0, .int .i64 0, .slice none 0 0, .int .i64 0] 34)
  have hbk := (ownAt (W := w.alloc (.cells #[vb, vf, vl, .int .i64 m.c.hand, .int .i64 m.g.count, .int .i64 m.g.next, .int .i64 m.g.round, vo, .int .i64 m.sp] 34)) (g := w.heap.size + 1) (t := 36) (cs := #[.int .i64 s, .int .i64 p]) (by simp)).alloc (o := .cells #[.slice none 0 0, .slice none 0 0, .slice none 0 0, .int .i64 0, .int .i64 0, .int .i64 0, .int .i64 0, .slice none 0 0, .int .i64 0] 34)
  have hbo := ownAt (W := (w.alloc (.cells #[vb, vf, vl, .int .i64 m.c.hand, .int .i64 m.g.count, .int .i64 m.g.next, .int .i64 m.g.round, vo, .int .i64 m.sp] 34)).alloc (.cells #[.int .i64 s, .int .i64 p] 36)) (g := w.heap.size + 1 + 1) (t := 34) (cs := #[.slice none 0 0, .slice none 0 0, .slice none 0 0, .int .i64 0, .int .i64 0, .int .i64 0, .int .i64 0, .slice none 0 0, .int .i64 0]) (by simp)
  have hb0 : Below w.heap.size w (((w.alloc (.cells #[vb, vf, vl, .int .i64 m.c.hand, .int .i64 m.g.count, .int .i64 m.g.next, .int .i64 m.g.round, vo, .int .i64 m.sp] 34)).alloc (.cells #[.int .i64 s, .int .i64 p] 36)).alloc (.cells #[.slice none 0 0, .slice none 0 0, .slice none 0 0, .int .i64 0, .int .i64 0, .int .i64 0, .int .i64 0, .slice none 0 0, .int .i64 0] 34)) := bA (bA (bA bR))
  have hs0 : (((w.alloc (.cells #[vb, vf, vl, .int .i64 m.c.hand, .int .i64 m.g.count, .int .i64 m.g.next, .int .i64 m.g.round, vo, .int .i64 m.sp] 34)).alloc (.cells #[.int .i64 s, .int .i64 p] 36)).alloc (.cells #[.slice none 0 0, .slice none 0 0, .slice none 0 0, .int .i64 0, .int .i64 0, .int .i64 0, .int .i64 0, .slice none 0 0, .int .i64 0] 34)).heap.size = w.heap.size + 3 := by simp
  generalize hW : ((w.alloc (.cells #[vb, vf, vl, .int .i64 m.c.hand, .int .i64 m.g.count, .int .i64 m.g.next, .int .i64 m.g.round, vo, .int .i64 m.sp] 34)).alloc (.cells #[.int .i64 s, .int .i64 p] 36)).alloc (.cells #[.slice none 0 0, .slice none 0 0, .slice none 0 0, .int .i64 0, .int .i64 0, .int .i64 0, .int .i64 0, .slice none 0 0, .int .i64 0] 34) = W0 at hbx hbk hbo hb0 hs0
  have HX0 := Lib.hid hbx
  have HK0 := Lib.hid hbk
  have HR0 := Lib.hid hbo
  have HB0 := Lib.hid hb0
  have HS0 : Hid (w.heap.size + 3 ≤ W0.heap.size) := Nat.le_of_eq hs0.symm
  clear hbx hbk hbo hb0
  have HM := Lib.hid hM
  clear hM
  have m00 := HX0.out.cell_ 0 (v := vb) rfl
  have m10 := HX0.out.cell_ 1 (v := vf) rfl
  have m20 := HX0.out.cell_ 2 (v := vl) rfl
  have m30 := HX0.out.cell_ 3 (v := .int .i64 m.c.hand) rfl
  have m40 := HX0.out.cell_ 4 (v := .int .i64 m.g.count) rfl
  have m50 := HX0.out.cell_ 5 (v := .int .i64 m.g.next) rfl
  have m60 := HX0.out.cell_ 6 (v := .int .i64 m.g.round) rfl
  have m70 := HX0.out.cell_ 7 (v := vo) rfl
  have m80 := HX0.out.cell_ 8 (v := .int .i64 m.sp) rfl
  go_enter Tryz.func138, Tryz.ntmps138
  go_wp2_with fail
  refine (l6Copy_any vb vf vl vo m _ (HM.out.now HB0.out) a1 a2 a3 a4).mono ?_
  rintro e w3 ⟨_, rfl, q1, q2, q3, q4, rfl, hM3, hb3⟩
  have hM3' := hM3.mono (B' := w.heap.size + 3) HS0.out
  obtain ⟨B1, d1, rfl, _⟩ := hM3.t.b
  obtain ⟨B2, d2, rfl, _⟩ := hM3.t.f
  obtain ⟨B3, d3, rfl, _⟩ := hM3.l
  obtain ⟨B4, d4, rfl, _⟩ := hM3.o
  have HX3 := Lib.hid (HX0.out.below hb3)
  have HK3 := Lib.hid (HK0.out.below hb3)
  have HR3 := Lib.hid (HR0.out.below hb3)
  have HB3 := Lib.hid (bT HB0.out hb3)
  have HS3 := Lib.hid (Nat.le_trans HS0.out hb3.size)
  clear hb3
  clear m00 m10 m20 m30 m40 m50 m60 m70 m80
  have ho4 := Own.new_ w3 34 #[.slice B1 m.t.bs.length d1, .slice B2 m.t.fs.length d2, .slice B3 m.c.ls.length d3, .int .i64 m.c.hand, .int .i64 m.g.count, .int .i64 m.g.next, .int .i64 m.g.round, .slice B4 m.g.os.length d4, .int .i64 m.sp]
  have hb4 : Below w3.heap.size w3 (w3.alloc (.cells #[.slice B1 m.t.bs.length d1, .slice B2 m.t.fs.length d2, .slice B3 m.c.ls.length d3, .int .i64 m.c.hand, .int .i64 m.g.count, .int .i64 m.g.next, .int .i64 m.g.round, .slice B4 m.g.os.length d4, .int .i64 m.sp] 34)) := bA bR
  have hgt : w.heap.size + 3 ≤ w3.heap.size := HS3.out
  generalize hW4 : w3.alloc (.cells #[.slice B1 m.t.bs.length d1, .slice B2 m.t.fs.length d2, .slice B3 m.c.ls.length d3, .int .i64 m.c.hand, .int .i64 m.g.count, .int .i64 m.g.next, .int .i64 m.g.round, .slice B4 m.g.os.length d4, .int .i64 m.sp] 34) = w4 at ho4 hb4
  have HM4 := Lib.hid (hM3'.now hb4)
  have HO4 := Lib.hid ho4
  have HX4 := Lib.hid (HX3.out.below hb4)
  have HK4 := Lib.hid (HK3.out.below hb4)
  have HR4 := Lib.hid (HR3.out.below hb4)
  have HB4 := Lib.hid (bT HB3.out hb4)
  have HS4 := Lib.hid (Nat.le_trans HS3.out hb4.size)
  clear hb4
  clear hM3 hM3' ho4
  have m04 := HX4.out.cell_ 0 (v := vb) rfl
  have m14 := HX4.out.cell_ 1 (v := vf) rfl
  have m24 := HX4.out.cell_ 2 (v := vl) rfl
  have m34 := HX4.out.cell_ 3 (v := .int .i64 m.c.hand) rfl
  have m44 := HX4.out.cell_ 4 (v := .int .i64 m.g.count) rfl
  have m54 := HX4.out.cell_ 5 (v := .int .i64 m.g.next) rfl
  have m64 := HX4.out.cell_ 6 (v := .int .i64 m.g.round) rfl
  have m74 := HX4.out.cell_ 7 (v := vo) rfl
  have m84 := HX4.out.cell_ 8 (v := .int .i64 m.sp) rfl
  have k04 := HK4.out.cell_ 0 (v := .int .i64 s) rfl
  have k14 := HK4.out.cell_ 1 (v := .int .i64 p) rfl
  go_wp2_with fail
  refine (l6Tag_any vb vf vl vo m s p _ (HM.out.now HB4.out) hgv).mono ?_
  rintro e w5 ⟨rfl, hb5⟩
  have HM5 := Lib.hid (HM4.out.now hb5)
  have HO5 := Lib.hid (HO4.out.below hb5)
  have HX5 := Lib.hid (HX4.out.below hb5)
  have HK5 := Lib.hid (HK4.out.below hb5)
  have HR5 := Lib.hid (HR4.out.below hb5)
  have HB5 := Lib.hid (bT HB4.out hb5)
  have HS5 := Lib.hid (Nat.le_trans HS4.out hb5.size)
  clear hb5
  clear m04 m14 m24 m34 m44 m54 m64 m74 m84
  clear k04 k14 hW4
  cases hto : tagO m s p with
  | false =>
    have HV : Hid (drpM m m.t s p = m) := by show _ = _; unfold drpM; rw [drpC_no hto]
    have r0x := HR5.out.cell_ 0 (v := .slice none 0 0) rfl
    have r1x := HR5.out.cell_ 1 (v := .slice none 0 0) rfl
    have r2x := HR5.out.cell_ 2 (v := .slice none 0 0) rfl
    have r3x := HR5.out.cell_ 3 (v := .int .i64 0) rfl
    have r4x := HR5.out.cell_ 4 (v := .int .i64 0) rfl
    have r5x := HR5.out.cell_ 5 (v := .int .i64 0) rfl
    have r6x := HR5.out.cell_ 6 (v := .int .i64 0) rfl
    have r7x := HR5.out.cell_ 7 (v := .slice none 0 0) rfl
    have r8x := HR5.out.cell_ 8 (v := .int .i64 0) rfl
    have z0x := HR5.out.free 0
    have z1x := HR5.out.free 1
    have z2x := HR5.out.free 2
    have z3x := HR5.out.free 3
    have z4x := HR5.out.free 4
    have z5x := HR5.out.free 5
    have z6x := HR5.out.free 6
    have z7x := HR5.out.free 7
    have z8x := HR5.out.free 8
    have p0o := HO5.out.cell_ 0 (v := .slice B1 m.t.bs.length d1) rfl
    have p1o := HO5.out.cell_ 1 (v := .slice B2 m.t.fs.length d2) rfl
    have p2o := HO5.out.cell_ 2 (v := .slice B3 m.c.ls.length d3) rfl
    have p3o := HO5.out.cell_ 3 (v := .int .i64 m.c.hand) rfl
    have p4o := HO5.out.cell_ 4 (v := .int .i64 m.g.count) rfl
    have p5o := HO5.out.cell_ 5 (v := .int .i64 m.g.next) rfl
    have p6o := HO5.out.cell_ 6 (v := .int .i64 m.g.round) rfl
    have p7o := HO5.out.cell_ 7 (v := .slice B4 m.g.os.length d4) rfl
    have p8o := HO5.out.cell_ 8 (v := .int .i64 m.sp) rfl
    have hlr := HR5.out.lt
    have hlo := HO5.out.lt
    go_wp2
    have o3 := HR5.out.set9 (.slice B1 m.t.bs.length d1) (.slice B2 m.t.fs.length d2) (.slice B3 m.c.ls.length d3) (.int .i64 (m).c.hand) (.int .i64 m.g.count) (.int .i64 m.g.next) (.int .i64 m.g.round) (.slice B4 m.g.os.length d4) (.int .i64 m.sp)
    have p0t := o3.cell_ 0 (v := .slice B1 m.t.bs.length d1) rfl
    have p1t := o3.cell_ 1 (v := .slice B2 m.t.fs.length d2) rfl
    have p2t := o3.cell_ 2 (v := .slice B3 m.c.ls.length d3) rfl
    have p3t := o3.cell_ 3 (v := .int .i64 m.c.hand) rfl
    have p4t := o3.cell_ 4 (v := .int .i64 m.g.count) rfl
    have p5t := o3.cell_ 5 (v := .int .i64 m.g.next) rfl
    have p6t := o3.cell_ 6 (v := .int .i64 m.g.round) rfl
    have p7t := o3.cell_ 7 (v := .slice B4 m.g.os.length d4) rfl
    have p8t := o3.cell_ 8 (v := .int .i64 m.sp) rfl
    refine bodyPost_ret (v := .agg #[.slice B1 m.t.bs.length d1, .slice B2 m.t.fs.length d2, .slice B3 m.c.ls.length d3, .int .i64 m.c.hand, .int .i64 m.g.count, .int .i64 m.g.next, .int .i64 m.g.round, .slice B4 m.g.os.length d4, .int .i64 m.sp]) (by simp [results, Tryz.results138, go_sem, p0t, p1t, p2t, p3t, p4t, p5t, p6t, p7t, p8t]) rfl ⟨_, rfl, _, _, _, _, by rw [HV.out], ?_, ?_⟩
    · rw [HV.out]
      exact (HM5.out.far9 HR5.out _ _ _ _ _ _ _ _ _).mono (by omega)
    · repeat (refine bS ?_ (by simp <;> omega))
      exact HB5.out
  | true =>
    have m05 := HX5.out.cell_ 0 (v := vb) rfl
    have m15 := HX5.out.cell_ 1 (v := vf) rfl
    have m25 := HX5.out.cell_ 2 (v := vl) rfl
    have m35 := HX5.out.cell_ 3 (v := .int .i64 m.c.hand) rfl
    have m45 := HX5.out.cell_ 4 (v := .int .i64 m.g.count) rfl
    have m55 := HX5.out.cell_ 5 (v := .int .i64 m.g.next) rfl
    have m65 := HX5.out.cell_ 6 (v := .int .i64 m.g.round) rfl
    have m75 := HX5.out.cell_ 7 (v := vo) rfl
    have m85 := HX5.out.cell_ 8 (v := .int .i64 m.sp) rfl
    have k05 := HK5.out.cell_ 0 (v := .int .i64 s) rfl
    have k15 := HK5.out.cell_ 1 (v := .int .i64 p) rfl
    go_wp2_with fail
    refine (sDropPage_any vl m.c (tagT m s p) p _ (HM.out.l.now HB5.out)).mono ?_
    rintro e w6 ⟨_, rfl, v1, rfl, hL6, hb6⟩
    obtain ⟨B5, d5, rfl, _⟩ := hL6
    have hs5 := HS5.out
    have ho7 := Own.new_ w6 29 #[.slice B5 (dpV m.c (tagT m s p) p).ls.length d5, .int .i64 (dpV m.c (tagT m s p) p).hand]
    have hb7 : Below w6.heap.size w6 (w6.alloc (.cells #[.slice B5 (dpV m.c (tagT m s p) p).ls.length d5, .int .i64 (dpV m.c (tagT m s p) p).hand] 29)) := bA bR
    have HL6 : Hid (SlM lnE 113 w5.heap.size w6 (.slice B5 (dpV m.c (tagT m s p) p).ls.length d5) (dpV m.c (tagT m s p) p).ls) := ⟨B5, d5, rfl, by assumption⟩
    generalize hW7 : w6.alloc (.cells #[.slice B5 (dpV m.c (tagT m s p) p).ls.length d5, .int .i64 (dpV m.c (tagT m s p) p).hand] 29) = w7 at ho7 hb7
    have HM7 := Lib.hid (HM5.out.now (bT hb6 hb7))
    have HO7 := Lib.hid (HO5.out.below (bT hb6 hb7))
    have HL7 := Lib.hid ((HL6.out.now hb7).mono hs5)
    have HC7 := Lib.hid ho7
    have HX6 := Lib.hid (HX5.out.below hb6)
    have HK6 := Lib.hid (HK5.out.below hb6)
    have HR6 := Lib.hid (HR5.out.below hb6)
    have HB6 := Lib.hid (bT HB5.out hb6)
    have HS6 := Lib.hid (Nat.le_trans HS5.out hb6.size)
    clear hb6
    have HX7 := Lib.hid (HX6.out.below hb7)
    have HK7 := Lib.hid (HK6.out.below hb7)
    have HR7 := Lib.hid (HR6.out.below hb7)
    have HB7 := Lib.hid (bT HB6.out hb7)
    have HS7 := Lib.hid (Nat.le_trans HS6.out hb7.size)
    clear hb7
    clear m05 m15 m25 m35 m45 m55 m65 m75 m85
    clear k05 k15 ho7 HL6
    cases hdo : dpO m.c (tagT m s p) p with
    | false =>
      have HV : Hid (drpM m m.t s p = m) := by show _ = _; unfold drpM; rw [drp_no hto hdo hcv hgv hp]
      have r0x := HR7.out.cell_ 0 (v := .slice none 0 0) rfl
      have r1x := HR7.out.cell_ 1 (v := .slice none 0 0) rfl
      have r2x := HR7.out.cell_ 2 (v := .slice none 0 0) rfl
      have r3x := HR7.out.cell_ 3 (v := .int .i64 0) rfl
      have r4x := HR7.out.cell_ 4 (v := .int .i64 0) rfl
      have r5x := HR7.out.cell_ 5 (v := .int .i64 0) rfl
      have r6x := HR7.out.cell_ 6 (v := .int .i64 0) rfl
      have r7x := HR7.out.cell_ 7 (v := .slice none 0 0) rfl
      have r8x := HR7.out.cell_ 8 (v := .int .i64 0) rfl
      have z0x := HR7.out.free 0
      have z1x := HR7.out.free 1
      have z2x := HR7.out.free 2
      have z3x := HR7.out.free 3
      have z4x := HR7.out.free 4
      have z5x := HR7.out.free 5
      have z6x := HR7.out.free 6
      have z7x := HR7.out.free 7
      have z8x := HR7.out.free 8
      have p0o := HO7.out.cell_ 0 (v := .slice B1 m.t.bs.length d1) rfl
      have p1o := HO7.out.cell_ 1 (v := .slice B2 m.t.fs.length d2) rfl
      have p2o := HO7.out.cell_ 2 (v := .slice B3 m.c.ls.length d3) rfl
      have p3o := HO7.out.cell_ 3 (v := .int .i64 m.c.hand) rfl
      have p4o := HO7.out.cell_ 4 (v := .int .i64 m.g.count) rfl
      have p5o := HO7.out.cell_ 5 (v := .int .i64 m.g.next) rfl
      have p6o := HO7.out.cell_ 6 (v := .int .i64 m.g.round) rfl
      have p7o := HO7.out.cell_ 7 (v := .slice B4 m.g.os.length d4) rfl
      have p8o := HO7.out.cell_ 8 (v := .int .i64 m.sp) rfl
      have hlr := HR7.out.lt
      have hlo := HO7.out.lt
      go_wp2
      have o3 := HR7.out.set9 (.slice B1 m.t.bs.length d1) (.slice B2 m.t.fs.length d2) (.slice B3 m.c.ls.length d3) (.int .i64 (m).c.hand) (.int .i64 m.g.count) (.int .i64 m.g.next) (.int .i64 m.g.round) (.slice B4 m.g.os.length d4) (.int .i64 m.sp)
      have p0t := o3.cell_ 0 (v := .slice B1 m.t.bs.length d1) rfl
      have p1t := o3.cell_ 1 (v := .slice B2 m.t.fs.length d2) rfl
      have p2t := o3.cell_ 2 (v := .slice B3 m.c.ls.length d3) rfl
      have p3t := o3.cell_ 3 (v := .int .i64 m.c.hand) rfl
      have p4t := o3.cell_ 4 (v := .int .i64 m.g.count) rfl
      have p5t := o3.cell_ 5 (v := .int .i64 m.g.next) rfl
      have p6t := o3.cell_ 6 (v := .int .i64 m.g.round) rfl
      have p7t := o3.cell_ 7 (v := .slice B4 m.g.os.length d4) rfl
      have p8t := o3.cell_ 8 (v := .int .i64 m.sp) rfl
      refine bodyPost_ret (v := .agg #[.slice B1 m.t.bs.length d1, .slice B2 m.t.fs.length d2, .slice B3 m.c.ls.length d3, .int .i64 m.c.hand, .int .i64 m.g.count, .int .i64 m.g.next, .int .i64 m.g.round, .slice B4 m.g.os.length d4, .int .i64 m.sp]) (by simp [results, Tryz.results138, go_sem, p0t, p1t, p2t, p3t, p4t, p5t, p6t, p7t, p8t]) rfl ⟨_, rfl, _, _, _, _, by rw [HV.out], ?_, ?_⟩
      · rw [HV.out]
        exact (HM7.out.far9 HR7.out _ _ _ _ _ _ _ _ _).mono (by omega)
      · repeat (refine bS ?_ (by simp <;> omega))
        exact HB7.out
    | true =>
      have HV : Hid (drpM m m.t s p = { m with c := dpV m.c (tagT m s p) p }) := by show _ = _; unfold drpM; rw [drp_yes hto hdo]
      have c0 := HC7.out.cell_ 0 (v := .slice B5 (dpV m.c (tagT m s p) p).ls.length d5) rfl
      have c1 := HC7.out.cell_ 1 (v := .int .i64 (dpV m.c (tagT m s p) p).hand) rfl
      have hlc := HC7.out.lt
      have r0x := HR7.out.cell_ 0 (v := .slice none 0 0) rfl
      have r1x := HR7.out.cell_ 1 (v := .slice none 0 0) rfl
      have r2x := HR7.out.cell_ 2 (v := .slice none 0 0) rfl
      have r3x := HR7.out.cell_ 3 (v := .int .i64 0) rfl
      have r4x := HR7.out.cell_ 4 (v := .int .i64 0) rfl
      have r5x := HR7.out.cell_ 5 (v := .int .i64 0) rfl
      have r6x := HR7.out.cell_ 6 (v := .int .i64 0) rfl
      have r7x := HR7.out.cell_ 7 (v := .slice none 0 0) rfl
      have r8x := HR7.out.cell_ 8 (v := .int .i64 0) rfl
      have z0x := HR7.out.free 0
      have z1x := HR7.out.free 1
      have z2x := HR7.out.free 2
      have z3x := HR7.out.free 3
      have z4x := HR7.out.free 4
      have z5x := HR7.out.free 5
      have z6x := HR7.out.free 6
      have z7x := HR7.out.free 7
      have z8x := HR7.out.free 8
      have p0o := HO7.out.cell_ 0 (v := .slice B1 m.t.bs.length d1) rfl
      have p1o := HO7.out.cell_ 1 (v := .slice B2 m.t.fs.length d2) rfl
      have p2o := HO7.out.cell_ 2 (v := .slice B3 m.c.ls.length d3) rfl
      have p3o := HO7.out.cell_ 3 (v := .int .i64 m.c.hand) rfl
      have p4o := HO7.out.cell_ 4 (v := .int .i64 m.g.count) rfl
      have p5o := HO7.out.cell_ 5 (v := .int .i64 m.g.next) rfl
      have p6o := HO7.out.cell_ 6 (v := .int .i64 m.g.round) rfl
      have p7o := HO7.out.cell_ 7 (v := .slice B4 m.g.os.length d4) rfl
      have p8o := HO7.out.cell_ 8 (v := .int .i64 m.sp) rfl
      have g2 := HO7.out.free 2
      have g3 := HO7.out.free 3
      have hlr := HR7.out.lt
      have hlo := HO7.out.lt
      have hrn : w.heap.size + 1 + 1 ≠ w3.heap.size := by omega
      have hrm : w3.heap.size ≠ w.heap.size + 1 + 1 := by omega
      have hcn : w6.heap.size ≠ w3.heap.size := HC7.out.ne HO7.out (by decide)
      have hcm : w3.heap.size ≠ w6.heap.size := fun h => hcn h.symm
      generalize hVV : dpV m.c (tagT m s p) p = V at *
      go_wp2
      have g1 := (HR7.out.far (p := ⟨w3.heap.size, 2, none⟩) (u := .slice B5 V.ls.length d5) hrn).far (p := ⟨w3.heap.size, 3, none⟩) (u := .int .i64 V.hand) hrn
      have hb9 : Below w.heap.size w ((w7.setCell ⟨w3.heap.size, 2, none⟩ (.slice B5 V.ls.length d5)).setCell ⟨w3.heap.size, 3, none⟩ (.int .i64 V.hand)) := bS (bS HB7.out (by simp; omega)) (by simp; omega)
      have hmm : MaM (w.heap.size + 3) w7 (.slice B1 m.t.bs.length d1) (.slice B2 m.t.fs.length d2) (.slice B5 V.ls.length d5) (.slice B4 m.g.os.length d4) { m with c := V } := ⟨HM7.out.t, HL7.out, HM7.out.o⟩
      have hmm2 := (hmm.farT (u := .slice B5 V.ls.length d5) (i := 2) HO7.out).farT (u := .int .i64 V.hand) (i := 3) (HO7.out.set_ 2 (.slice B5 V.ls.length d5))
      have o3 := g1.set9 (.slice B1 m.t.bs.length d1) (.slice B2 m.t.fs.length d2) (.slice B5 V.ls.length d5) (.int .i64 V.hand) (.int .i64 m.g.count) (.int .i64 m.g.next) (.int .i64 m.g.round) (.slice B4 m.g.os.length d4) (.int .i64 m.sp)
      have p0t := o3.cell_ 0 (v := .slice B1 m.t.bs.length d1) rfl
      have p1t := o3.cell_ 1 (v := .slice B2 m.t.fs.length d2) rfl
      have p2t := o3.cell_ 2 (v := .slice B5 V.ls.length d5) rfl
      have p3t := o3.cell_ 3 (v := .int .i64 ({ m with c := V } : Ma).c.hand) rfl
      have p4t := o3.cell_ 4 (v := .int .i64 ({ m with c := V } : Ma).g.count) rfl
      have p5t := o3.cell_ 5 (v := .int .i64 ({ m with c := V } : Ma).g.next) rfl
      have p6t := o3.cell_ 6 (v := .int .i64 ({ m with c := V } : Ma).g.round) rfl
      have p7t := o3.cell_ 7 (v := .slice B4 m.g.os.length d4) rfl
      have p8t := o3.cell_ 8 (v := .int .i64 ({ m with c := V } : Ma).sp) rfl
      refine bodyPost_ret (v := .agg #[.slice B1 m.t.bs.length d1, .slice B2 m.t.fs.length d2, .slice B5 V.ls.length d5, .int .i64 ({ m with c := V } : Ma).c.hand, .int .i64 ({ m with c := V } : Ma).g.count, .int .i64 ({ m with c := V } : Ma).g.next, .int .i64 ({ m with c := V } : Ma).g.round, .slice B4 m.g.os.length d4, .int .i64 ({ m with c := V } : Ma).sp]) (by simp [results, Tryz.results138, go_sem, p0t, p1t, p2t, p3t, p4t, p5t, p6t, p7t, p8t]) rfl ⟨_, rfl, _, _, _, _, by rw [HV.out], ?_, ?_⟩
      · rw [HV.out]
        exact (hmm2.far9 g1 _ _ _ _ _ _ _ _ _).mono (by omega)
      · repeat (refine bS ?_ (by simp <;> omega))
        exact HB7.out
end Go.Proofs.YtkmocongdkacjaaGreatDoor
namespace Go.Proofs.YtkmocongdkacjaaGreatDoor
open Go.RowKit
set_option maxRecDepth 1000000
theorem fOK_page {t : Tab} {s p : Int} (h : fOK t s p = true) : inR p 256 = true := by
  unfold fOK kval at h
  simp only [Bool.and_eq_true] at h
  exact h.1.2.2
theorem prOK_page {t : Tab} {s p r : Int} (h : prOK t s p r = true) : inR p 256 = true := by
  unfold prOK at h
  rw [Bool.and_eq_true] at h
  exact fOK_page h.1
set_option maxHeartbeats 4000000 in
theorem sGuardPage_any (vb vf vl vo : Value) (m : Ma) (s p r : Int) (w : World) (hM : MaR w vb vf vl vo m) :
    Calls Tryz.prog 71 #[.agg #[vb, vf, vl, .int .i64 m.c.hand, .int .i64 m.g.count, .int .i64 m.g.next, .int .i64 m.g.round, vo, .int .i64 m.sp], .agg #[.int .i64 s, .int .i64 p], .int .i64 r] w (Post2 fun v w' => ∃ v1 v2 v3 v4, v = .tuple #[.agg #[v1, v2, v3, .int .i64 (grdV m s p r).c.hand, .int .i64 (grdV m s p r).g.count, .int .i64 (grdV m s p r).g.next, .int .i64 (grdV m s p r).g.round, v4, .int .i64 (grdV m s p r).sp], .bool (grdO m s p r)] ∧ MaM w.heap.size w' v1 v2 v3 v4 (grdV m s p r) ∧ Below w.heap.size w w') := by
  have hbx := ((Own.new_ w 34 #[vb, vf, vl, .int .i64 m.c.hand, .int .i64 m.g.count, .int .i64 m.g.next, .int .i64 m.g.round, vo, .int .i64 m.sp]).alloc (o := .cells #[.int .i64 s, .int .i64 p] 36)).alloc (o := .cells #[.slice none 0 0, .slice none 0 0, .slice none 0 0, .int .i64 0, .int .i64 0, .int .i64 0, .int .i64 0, .slice none 0 0, .int .i64 0] 34)
  have hbk := (ownAt (W := w.alloc (.cells #[vb, vf, vl, .int .i64 m.c.hand, .int .i64 m.g.count, .int .i64 m.g.next, .int .i64 m.g.round, vo, .int .i64 m.sp] 34)) (g := w.heap.size + 1) (t := 36) (cs := #[.int .i64 s, .int .i64 p]) (by simp)).alloc (o := .cells #[.slice none 0 0, .slice none 0 0, .slice none 0 0, .int .i64 0, .int .i64 0, .int .i64 0, .int .i64 0, .slice none 0 0, .int .i64 0] 34)
  have hbo := ownAt (W := (w.alloc (.cells #[vb, vf, vl, .int .i64 m.c.hand, .int .i64 m.g.count, .int .i64 m.g.next, .int .i64 m.g.round, vo, .int .i64 m.sp] 34)).alloc (.cells #[.int .i64 s, .int .i64 p] 36)) (g := w.heap.size + 1 + 1) (t := 34) (cs := #[.slice none 0 0, .slice none 0 0, .slice none 0 0, .int .i64 0, .int .i64 0, .int .i64 0, .int .i64 0, .slice none 0 0, .int .i64 0]) (by simp)
  have hb0 : Below w.heap.size w (((w.alloc (.cells #[vb, vf, vl, .int .i64 m.c.hand, .int .i64 m.g.count, .int .i64 m.g.next, .int .i64 m.g.round, vo, .int .i64 m.sp] 34)).alloc (.cells #[.int .i64 s, .int .i64 p] 36)).alloc (.cells #[.slice none 0 0, .slice none 0 0, .slice none 0 0, .int .i64 0, .int .i64 0, .int .i64 0, .int .i64 0, .slice none 0 0, .int .i64 0] 34)) := bA (bA (bA bR))
  have hs0 : (((w.alloc (.cells #[vb, vf, vl, .int .i64 m.c.hand, .int .i64 m.g.count, .int .i64 m.g.next, .int .i64 m.g.round, vo, .int .i64 m.sp] 34)).alloc (.cells #[.int .i64 s, .int .i64 p] 36)).alloc (.cells #[.slice none 0 0, .slice none 0 0, .slice none 0 0, .int .i64 0, .int .i64 0, .int .i64 0, .int .i64 0, .slice none 0 0, .int .i64 0] 34)).heap.size = w.heap.size + 3 := by simp
  generalize hW : ((w.alloc (.cells #[vb, vf, vl, .int .i64 m.c.hand, .int .i64 m.g.count, .int .i64 m.g.next, .int .i64 m.g.round, vo, .int .i64 m.sp] 34)).alloc (.cells #[.int .i64 s, .int .i64 p] 36)).alloc (.cells #[.slice none 0 0, .slice none 0 0, .slice none 0 0, .int .i64 0, .int .i64 0, .int .i64 0, .int .i64 0, .slice none 0 0, .int .i64 0] 34) = W0 at hbx hbk hbo hb0 hs0
  have HX0 := Lib.hid hbx
  have HK0 := Lib.hid hbk
  have HR0 := Lib.hid hbo
  have HB0 := Lib.hid hb0
  have HS0 : Hid (w.heap.size + 3 ≤ W0.heap.size) := Nat.le_of_eq hs0.symm
  clear hbx hbk hbo hb0
  have HM := Lib.hid hM
  clear hM
  have m00 := HX0.out.cell_ 0 (v := vb) rfl
  have m10 := HX0.out.cell_ 1 (v := vf) rfl
  have m20 := HX0.out.cell_ 2 (v := vl) rfl
  have m30 := HX0.out.cell_ 3 (v := .int .i64 m.c.hand) rfl
  have m40 := HX0.out.cell_ 4 (v := .int .i64 m.g.count) rfl
  have m50 := HX0.out.cell_ 5 (v := .int .i64 m.g.next) rfl
  have m60 := HX0.out.cell_ 6 (v := .int .i64 m.g.round) rfl
  have m70 := HX0.out.cell_ 7 (v := vo) rfl
  have m80 := HX0.out.cell_ 8 (v := .int .i64 m.sp) rfl
  go_enter Tryz.func71, Tryz.ntmps71
  go_wp2_with fail
  refine (sMachineValid_any vb vf vl vo m _ (HM.out.now HB0.out)).mono ?_
  rintro e w1 ⟨rfl, hb1⟩
  have HX1 := Lib.hid (HX0.out.below hb1)
  have HK1 := Lib.hid (HK0.out.below hb1)
  have HR1 := Lib.hid (HR0.out.below hb1)
  have HB1 := Lib.hid (bT HB0.out hb1)
  have HS1 := Lib.hid (Nat.le_trans HS0.out hb1.size)
  clear hb1
  clear m00 m10 m20 m30 m40 m50 m60 m70 m80
  cases h1 : mav m with
  | false =>
    have HA : Hid (grdO m s p r = false) := by show _ = _; unfold grdO; rw [h1]; rfl
    have HV := Lib.hid (grdO_false HA.out)
    have r0x := HR1.out.cell_ 0 (v := .slice none 0 0) rfl
    have r1x := HR1.out.cell_ 1 (v := .slice none 0 0) rfl
    have r2x := HR1.out.cell_ 2 (v := .slice none 0 0) rfl
    have r3x := HR1.out.cell_ 3 (v := .int .i64 0) rfl
    have r4x := HR1.out.cell_ 4 (v := .int .i64 0) rfl
    have r5x := HR1.out.cell_ 5 (v := .int .i64 0) rfl
    have r6x := HR1.out.cell_ 6 (v := .int .i64 0) rfl
    have r7x := HR1.out.cell_ 7 (v := .slice none 0 0) rfl
    have r8x := HR1.out.cell_ 8 (v := .int .i64 0) rfl
    have z0x := HR1.out.free 0
    have z1x := HR1.out.free 1
    have z2x := HR1.out.free 2
    have z3x := HR1.out.free 3
    have z4x := HR1.out.free 4
    have z5x := HR1.out.free 5
    have z6x := HR1.out.free 6
    have z7x := HR1.out.free 7
    have z8x := HR1.out.free 8
    go_wp2
    have o3 := ((((((((HR1.out.set_ 0 (.slice none 0 0)).set_ 1 (.slice none 0 0)).set_ 2 (.slice none 0 0)).set_ 3 (.int .i64 0)).set_ 4 (.int .i64 0)).set_ 5 (.int .i64 0)).set_ 6 (.int .i64 0)).set_ 7 (.slice none 0 0)).set_ 8 (.int .i64 0)
    have t0 := o3.cell_ 0 (v := .slice none 0 0) (by simp)
    have t1 := o3.cell_ 1 (v := .slice none 0 0) (by simp)
    have t2 := o3.cell_ 2 (v := .slice none 0 0) (by simp)
    have t3 := o3.cell_ 3 (v := .int .i64 0) (by simp)
    have t4 := o3.cell_ 4 (v := .int .i64 0) (by simp)
    have t5 := o3.cell_ 5 (v := .int .i64 0) (by simp)
    have t6 := o3.cell_ 6 (v := .int .i64 0) (by simp)
    have t7 := o3.cell_ 7 (v := .slice none 0 0) (by simp)
    have t8 := o3.cell_ 8 (v := .int .i64 0) (by simp)
    refine bodyPost_ret (v := .tuple #[.agg #[.slice none 0 0, .slice none 0 0, .slice none 0 0, .int .i64 0, .int .i64 0, .int .i64 0, .int .i64 0, .slice none 0 0, .int .i64 0], .bool false]) (by simp [results, Tryz.results71, go_sem, t0, t1, t2, t3, t4, t5, t6, t7, t8]) rfl ⟨_, rfl, _, _, _, _, by rw [HA.out, HV.out]; rfl, by rw [HV.out]; exact mam_z, ?_⟩
    repeat (refine bS ?_ (by simp <;> omega))
    exact HB1.out
  | true =>
    have m01 := HX1.out.cell_ 0 (v := vb) rfl
    have m11 := HX1.out.cell_ 1 (v := vf) rfl
    have m21 := HX1.out.cell_ 2 (v := vl) rfl
    have m31 := HX1.out.cell_ 3 (v := .int .i64 m.c.hand) rfl
    have m41 := HX1.out.cell_ 4 (v := .int .i64 m.g.count) rfl
    have m51 := HX1.out.cell_ 5 (v := .int .i64 m.g.next) rfl
    have m61 := HX1.out.cell_ 6 (v := .int .i64 m.g.round) rfl
    have m71 := HX1.out.cell_ 7 (v := vo) rfl
    have m81 := HX1.out.cell_ 8 (v := .int .i64 m.sp) rfl
    have k01 := HK1.out.cell_ 0 (v := .int .i64 s) rfl
    have k11 := HK1.out.cell_ 1 (v := .int .i64 p) rfl
    go_wp2_with fail
    refine (sProtectPage_any vb vf m.t s p r _ (HM.out.t.now HB1.out)).mono ?_
    rintro e w2 ⟨_, rfl, v1, v2, rfl, hT2, hb2⟩
    obtain ⟨A1, c1, rfl, _⟩ := hT2.b
    obtain ⟨A2, c2, rfl, _⟩ := hT2.f
    have hs1 := HS1.out
    have HX2 := Lib.hid (HX1.out.below hb2)
    have HK2 := Lib.hid (HK1.out.below hb2)
    have HR2 := Lib.hid (HR1.out.below hb2)
    have HB2 := Lib.hid (bT HB1.out hb2)
    have HS2 := Lib.hid (Nat.le_trans HS1.out hb2.size)
    clear hb2
    clear m01 m11 m21 m31 m41 m51 m61 m71 m81
    clear k01 k11
    have ho5 := Own.new_ w2 26 #[.slice A1 (prV m.t s p r).bs.length c1, .slice A2 (prV m.t s p r).fs.length c2]
    have hb5 : Below w2.heap.size w2 (w2.alloc (.cells #[.slice A1 (prV m.t s p r).bs.length c1, .slice A2 (prV m.t s p r).fs.length c2] 26)) := bA bR
    generalize hW5 : w2.alloc (.cells #[.slice A1 (prV m.t s p r).bs.length c1, .slice A2 (prV m.t s p r).fs.length c2] 26) = w5 at ho5 hb5
    have HT5 := Lib.hid ((hT2.now hb5).mono hs1)
    have HY5 := Lib.hid ho5
    clear hT2 ho5
    have HX5 := Lib.hid (HX2.out.below hb5)
    have HK5 := Lib.hid (HK2.out.below hb5)
    have HR5 := Lib.hid (HR2.out.below hb5)
    have HB5 := Lib.hid (bT HB2.out hb5)
    have HS5 := Lib.hid (Nat.le_trans HS2.out hb5.size)
    clear hb5
    cases h3 : prOK m.t s p r with
    | false =>
      have HA : Hid (grdO m s p r = false) := by show _ = _; unfold grdO; rw [h3, Bool.and_false]
      have HV := Lib.hid (grdO_false HA.out)
      have r0x := HR5.out.cell_ 0 (v := .slice none 0 0) rfl
      have r1x := HR5.out.cell_ 1 (v := .slice none 0 0) rfl
      have r2x := HR5.out.cell_ 2 (v := .slice none 0 0) rfl
      have r3x := HR5.out.cell_ 3 (v := .int .i64 0) rfl
      have r4x := HR5.out.cell_ 4 (v := .int .i64 0) rfl
      have r5x := HR5.out.cell_ 5 (v := .int .i64 0) rfl
      have r6x := HR5.out.cell_ 6 (v := .int .i64 0) rfl
      have r7x := HR5.out.cell_ 7 (v := .slice none 0 0) rfl
      have r8x := HR5.out.cell_ 8 (v := .int .i64 0) rfl
      have z0x := HR5.out.free 0
      have z1x := HR5.out.free 1
      have z2x := HR5.out.free 2
      have z3x := HR5.out.free 3
      have z4x := HR5.out.free 4
      have z5x := HR5.out.free 5
      have z6x := HR5.out.free 6
      have z7x := HR5.out.free 7
      have z8x := HR5.out.free 8
      go_wp2
      have o3 := ((((((((HR5.out.set_ 0 (.slice none 0 0)).set_ 1 (.slice none 0 0)).set_ 2 (.slice none 0 0)).set_ 3 (.int .i64 0)).set_ 4 (.int .i64 0)).set_ 5 (.int .i64 0)).set_ 6 (.int .i64 0)).set_ 7 (.slice none 0 0)).set_ 8 (.int .i64 0)
      have t0 := o3.cell_ 0 (v := .slice none 0 0) (by simp)
      have t1 := o3.cell_ 1 (v := .slice none 0 0) (by simp)
      have t2 := o3.cell_ 2 (v := .slice none 0 0) (by simp)
      have t3 := o3.cell_ 3 (v := .int .i64 0) (by simp)
      have t4 := o3.cell_ 4 (v := .int .i64 0) (by simp)
      have t5 := o3.cell_ 5 (v := .int .i64 0) (by simp)
      have t6 := o3.cell_ 6 (v := .int .i64 0) (by simp)
      have t7 := o3.cell_ 7 (v := .slice none 0 0) (by simp)
      have t8 := o3.cell_ 8 (v := .int .i64 0) (by simp)
      refine bodyPost_ret (v := .tuple #[.agg #[.slice none 0 0, .slice none 0 0, .slice none 0 0, .int .i64 0, .int .i64 0, .int .i64 0, .int .i64 0, .slice none 0 0, .int .i64 0], .bool false]) (by simp [results, Tryz.results71, go_sem, t0, t1, t2, t3, t4, t5, t6, t7, t8]) rfl ⟨_, rfl, _, _, _, _, by rw [HA.out, HV.out]; rfl, by rw [HV.out]; exact mam_z, ?_⟩
      repeat (refine bS ?_ (by simp <;> omega))
      exact HB5.out
    | true =>
      have HA : Hid (grdO m s p r = true) := by show _ = _; unfold grdO; rw [h1, h3]; rfl
      have HV : Hid (grdV m s p r = drpM m (prV m.t s p r) s p) := by show _ = _; unfold grdV; rw [HA.out]; rfl
      have m05 := HX5.out.cell_ 0 (v := vb) rfl
      have m15 := HX5.out.cell_ 1 (v := vf) rfl
      have m25 := HX5.out.cell_ 2 (v := vl) rfl
      have m35 := HX5.out.cell_ 3 (v := .int .i64 m.c.hand) rfl
      have m45 := HX5.out.cell_ 4 (v := .int .i64 m.g.count) rfl
      have m55 := HX5.out.cell_ 5 (v := .int .i64 m.g.next) rfl
      have m65 := HX5.out.cell_ 6 (v := .int .i64 m.g.round) rfl
      have m75 := HX5.out.cell_ 7 (v := vo) rfl
      have m85 := HX5.out.cell_ 8 (v := .int .i64 m.sp) rfl
      have k05 := HK5.out.cell_ 0 (v := .int .i64 s) rfl
      have k15 := HK5.out.cell_ 1 (v := .int .i64 p) rfl
      have hs5 := HS5.out
      go_wp2_with fail
      refine (l6Forget_any vb vf vl vo m s p _ (HM.out.now HB5.out) h1 (prOK_page h3)).mono ?_
      rintro e w3 ⟨_, rfl, q1, q2, q3, q4, rfl, hM3, hb3⟩
      have HT3 := Lib.hid (HT5.out.now hb3)
      have hy3 := HY5.out.below hb3
      have u0 := hy3.cell_ 0 (v := .slice A1 (prV m.t s p r).bs.length c1) rfl
      have u1 := hy3.cell_ 1 (v := .slice A2 (prV m.t s p r).fs.length c2) rfl
      have hly := hy3.lt
      have HX3 := Lib.hid (HX5.out.below hb3)
      have HK3 := Lib.hid (HK5.out.below hb3)
      have HR3 := Lib.hid (HR5.out.below hb3)
      have HB3 := Lib.hid (bT HB5.out hb3)
      have HS3 := Lib.hid (Nat.le_trans HS5.out hb3.size)
      clear hb3
      clear m05 m15 m25 m35 m45 m55 m65 m75 m85
      clear k05 k15
      have r0x := HR3.out.cell_ 0 (v := .slice none 0 0) rfl
      have r1x := HR3.out.cell_ 1 (v := .slice none 0 0) rfl
      have r2x := HR3.out.cell_ 2 (v := .slice none 0 0) rfl
      have r3x := HR3.out.cell_ 3 (v := .int .i64 0) rfl
      have r4x := HR3.out.cell_ 4 (v := .int .i64 0) rfl
      have r5x := HR3.out.cell_ 5 (v := .int .i64 0) rfl
      have r6x := HR3.out.cell_ 6 (v := .int .i64 0) rfl
      have r7x := HR3.out.cell_ 7 (v := .slice none 0 0) rfl
      have r8x := HR3.out.cell_ 8 (v := .int .i64 0) rfl
      have z0x := HR3.out.free 0
      have z1x := HR3.out.free 1
      have z2x := HR3.out.free 2
      have z3x := HR3.out.free 3
      have z4x := HR3.out.free 4
      have z5x := HR3.out.free 5
      have z6x := HR3.out.free 6
      have z7x := HR3.out.free 7
      have z8x := HR3.out.free 8
      have HM3 := Lib.hid (hM3.mono hs5)
      obtain ⟨B1, d1, rfl, _⟩ := hM3.t.b
      obtain ⟨B2, d2, rfl, _⟩ := hM3.t.f
      obtain ⟨B3, d3, rfl, _⟩ := hM3.l
      obtain ⟨B4, d4, rfl, _⟩ := hM3.o
      clear hM3
      have hl3 := HR3.out.lt
      go_wp2
      have o3 := (HR3.out.set9 (.slice A1 (prV m.t s p r).bs.length c1) (.slice A2 (prV m.t s p r).fs.length c2) (.slice B3 (drpM m m.t s p).c.ls.length d3) (.int .i64 (drpM m m.t s p).c.hand) (.int .i64 (drpM m m.t s p).g.count) (.int .i64 (drpM m m.t s p).g.next) (.int .i64 (drpM m m.t s p).g.round) (.slice B4 (drpM m m.t s p).g.os.length d4) (.int .i64 (drpM m m.t s p).sp)).alloc (o := .cells #[.slice A1 (prV m.t s p r).bs.length c1, .slice A2 (prV m.t s p r).fs.length c2, .slice B3 (drpM m m.t s p).c.ls.length d3, .int .i64 (drpM m m.t s p).c.hand, .int .i64 (drpM m m.t s p).g.count, .int .i64 (drpM m m.t s p).g.next, .int .i64 (drpM m m.t s p).g.round, .slice B4 (drpM m m.t s p).g.os.length d4, .int .i64 (drpM m m.t s p).sp] 34)
      have p0t := o3.cell_ 0 (v := .slice A1 (prV m.t s p r).bs.length c1) rfl
      have p1t := o3.cell_ 1 (v := .slice A2 (prV m.t s p r).fs.length c2) rfl
      have p2t := o3.cell_ 2 (v := .slice B3 (drpM m m.t s p).c.ls.length d3) rfl
      have p3t := o3.cell_ 3 (v := .int .i64 (drpM m m.t s p).c.hand) rfl
      have p4t := o3.cell_ 4 (v := .int .i64 (drpM m m.t s p).g.count) rfl
      have p5t := o3.cell_ 5 (v := .int .i64 (drpM m m.t s p).g.next) rfl
      have p6t := o3.cell_ 6 (v := .int .i64 (drpM m m.t s p).g.round) rfl
      have p7t := o3.cell_ 7 (v := .slice B4 (drpM m m.t s p).g.os.length d4) rfl
      have p8t := o3.cell_ 8 (v := .int .i64 (drpM m m.t s p).sp) rfl
      have hmm : MaM (w.heap.size + 3) w3 (.slice A1 (prV m.t s p r).bs.length c1) (.slice A2 (prV m.t s p r).fs.length c2) (.slice B3 (drpM m m.t s p).c.ls.length d3) (.slice B4 (drpM m m.t s p).g.os.length d4) (drpM m (prV m.t s p r) s p) := ⟨HT3.out, HM3.out.l, HM3.out.o⟩
      refine bodyPost_ret (v := .tuple #[.agg #[.slice A1 (prV m.t s p r).bs.length c1, .slice A2 (prV m.t s p r).fs.length c2, .slice B3 (drpM m m.t s p).c.ls.length d3, .int .i64 (drpM m m.t s p).c.hand, .int .i64 (drpM m m.t s p).g.count, .int .i64 (drpM m m.t s p).g.next, .int .i64 (drpM m m.t s p).g.round, .slice B4 (drpM m m.t s p).g.os.length d4, .int .i64 (drpM m m.t s p).sp], .bool true]) (by simp [results, Tryz.results71, go_sem, p0t, p1t, p2t, p3t, p4t, p5t, p6t, p7t, p8t]) rfl ⟨_, rfl, _, _, _, _, by rw [HA.out, HV.out]; rfl, ?_, ?_⟩
      · rw [HV.out]
        exact ((hmm.far9 HR3.out _ _ _ _ _ _ _ _ _).now (bA bR)).mono (by omega)
      · refine bA ?_
        repeat (refine bS ?_ (by simp <;> omega))
        exact HB3.out
end Go.Proofs.YtkmocongdkacjaaGreatDoor
