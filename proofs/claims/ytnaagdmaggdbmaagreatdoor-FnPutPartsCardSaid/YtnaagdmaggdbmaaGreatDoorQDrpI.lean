/- A part of the proofs of this seat: DrpI, DrpS, DrpT. -/
import Derived.Test.YtnaagdmaggdbmaaGreatDoorQClone
import Derived.Test.YtnaagdmaggdbmaaGreatDoorQMapI
import Derived.Test.YtnaagdmaggdbmaaGreatDoorQCp6
import Derived.Test.YtnaagdmaggdbmaaGreatDoorQMvS
import Derived.Test.YtnaagdmaggdbmaaGreatDoorQMpS
import Derived.Test.YtnaagdmaggdbmaaGreatDoorQPrI
set_option linter.unusedVariables false
set_option linter.unusedSimpArgs false
namespace Go.Proofs.YtnaagdmaggdbmaaGreatDoor
open Go.RowKit
set_option maxRecDepth 1000000
theorem Own.ne {w : World} {g g2 : Nat} {t t2 : TypeId} {cs cs2 : Array Value} (h : Own w g t cs) (h2 : Own w g2 t2 cs2) (hne : t ≠ t2) : g ≠ g2 := by
 rintro rfl
 unfold Own at h h2
 rw [h] at h2
 injection h2 with h2
 injection h2 with _ h2
 exact hne h2
set_option maxHeartbeats 2000000 in
theorem MineE.wln {e : TypeId} {B : Nat} {w : World} {g : Nat} {l : List Ln} (h : MineE lnE e B w (some ⟨g, 0, none⟩) l) {k : Nat} (hk : k < l.length) (x : Ln) :
  MineE lnE e B ((((((w.setCell ⟨g, k * 6, none⟩ (.bool x.v)).setCell ⟨g, k * 6 + 1, none⟩ (.int .i64 x.t)).setCell ⟨g, k * 6 + 2, none⟩ (.int .i64 x.p)).setCell ⟨g, k * 6 + 3, none⟩ (.int .i64 x.f)).setCell ⟨g, k * 6 + 4, none⟩ (.int .i64 x.r)).setCell ⟨g, k * 6 + 5, none⟩ (.bool x.w)) (some ⟨g, 0, none⟩) (l.set k x) := by
 obtain ⟨g2, cs, e1, hB, ho, hs⟩ := h.own (by omega)
 injection e1 with e1
 injection e1 with e1
 subst e1
 have hs2 : l.length * 6 ≤ cs.size := by simpa [lnE] using hs
 refine h.write ho ((((((ho.set_ (k * 6) _).set_ (k * 6 + 1) _).set_ (k * 6 + 2) _).set_ (k * 6 + 3) _).set_ (k * 6 + 4) _).set_ (k * 6 + 5) _) (by simp) hk x (fun j u hj => ?_) (fun i hi => ?_)
 ·simp only [lnE] at hj ⊢
  match j, hj with
  | 0, hj => simp at hj; subst hj; simp [Array.getElem?_setIfInBounds]; omega
  | 1, hj => simp at hj; subst hj; simp [Array.getElem?_setIfInBounds]; omega
  | 2, hj => simp at hj; subst hj; simp [Array.getElem?_setIfInBounds]; omega
  | 3, hj => simp at hj; subst hj; simp [Array.getElem?_setIfInBounds]; omega
  | 4, hj => simp at hj; subst hj; simp [Array.getElem?_setIfInBounds]; omega
  | 5, hj => simp at hj; subst hj; simp [Array.getElem?_setIfInBounds]; omega
  | j + 6, hj => simp at hj
 ·simp only [lnE] at hi
  rw [Array.getElem?_setIfInBounds, if_neg (by omega), Array.getElem?_setIfInBounds, if_neg (by omega), Array.getElem?_setIfInBounds, if_neg (by omega), Array.getElem?_setIfInBounds, if_neg (by omega), Array.getElem?_setIfInBounds, if_neg (by omega), Array.getElem?_setIfInBounds, if_neg (by omega)]
theorem SlM.own_ {α : Type} {E : Enc α} {e : TypeId} {B : Nat} {w : World} {A : Option Addr} {n c : Nat} {l : List α} (h : SlM E e B w (.slice A n c) l) : MineE E e B w A l ∧ n = l.length ∧ l.length ≤ c ∧ c ≤ maxLen := by
 obtain ⟨A', c', h1, h2, h3, h4⟩ := h
 injection h1 with h1 h5 h6
 subst h1 h6
 exact ⟨h4, h5, h2, h3⟩
end Go.Proofs.YtnaagdmaggdbmaaGreatDoor
namespace Go.Proofs.YtnaagdmaggdbmaaGreatDoor
open Go.RowKit
set_option maxRecDepth 1000000
theorem l4Fits_any (f : Ln) (tag page : Int) (w : World) : Calls Tryz.prog 201 #[lnV f, .int .i64 tag, .int .i64 page] w fun r w' => r = .returned (.bool (fits tag page f)) ∧ Below w.heap.size w w' := by
 unfold lnV
 cases hv : f.v with
 | false =>
  have H : Hid (fits tag page f = false) := by simp [Hid, fits, hv]
  go_enter Tryz.func201, Tryz.ntmps201
  go_wp2
  go_ret
  exact ⟨by rw [H.out]; rfl, bA bR⟩
 | true =>
  by_cases hp : f.p = page
  ·by_cases ht : f.t = tag
   ·have H : Hid (fits tag page f = true) := by simp [Hid, fits, hv, hp, ht]
    go_enter Tryz.func201, Tryz.ntmps201
    go_wp2
    go_ret
    exact ⟨by rw [H.out]; rfl, bA bR⟩
   ·have H : Hid (fits tag page f = (f.t == tag || f.t == -1)) := by
     show _ = _
     rw [beq_eq_false_iff_ne.2 ht, Bool.false_or]
     simp [fits, hv, hp, ht]
     by_cases h : f.t = -1 <;> simp [h]
    go_enter Tryz.func201, Tryz.ntmps201
    go_wp2
    go_ret
    exact ⟨by rw [H.out]; rfl, bA bR⟩
  ·have H : Hid (fits tag page f = false) := by simp [Hid, fits, hp]
   go_enter Tryz.func201, Tryz.ntmps201
   go_wp2
   go_ret
   exact ⟨by rw [H.out]; rfl, bA bR⟩
set_option maxHeartbeats 2000000 in
theorem l4Find_any (vl : Value) (c : Ca) (tag page : Int) (w : World) (hT : SlR lnE w vl c.ls) :
  Calls Tryz.prog 143 #[.agg #[vl, .int .i64 c.hand], .int .i64 tag, .int .i64 page] w fun r w' => r = .returned (.int .i64 (plcI c.ls tag page)) ∧ Below w.heap.size w w' := by
 obtain ⟨A, cc, rfl, hbc, hbm, hL⟩ := hT
 have hfm2 : c.ls.length ≤ 9223372036854775807 := by unfold maxLen at hbm; omega
 have HL := Lib.hid hL
 have hbx := Own.new_ w 29 #[.slice A c.ls.length cc, .int .i64 c.hand]
 have hbz : Below w.heap.size w (w.alloc (.cells #[.slice A c.ls.length cc, .int .i64 c.hand] 29)) := bA bR
 generalize hW : w.alloc (.cells #[.slice A c.ls.length cc, .int .i64 c.hand] 29) = W0 at hbx hbz
 have q0 := hbx.cell_ 0 (v := .slice A c.ls.length cc) rfl
 have q1 := hbx.cell_ 1 (v := .int .i64 c.hand) rfl
 have HBX := Lib.hid hbx
 clear hL hbx
 clear q0 q1
 rw [← pix_plc]
 go_enter Tryz.func143, Tryz.ntmps143
 go_wp2
 go_loopw [7] (fun u wr => ∃ k : Nat, k ≤ c.ls.length ∧ u = .int .i64 k ∧ Hid (∀ (j : Nat) (q : Ln), j < k → c.ls[j]? = some q → fits tag page q = false) ∧ Own wr w.heap.size 29 #[.slice A c.ls.length cc, .int .i64 c.hand] ∧ Below w.heap.size w wr) (fun u _ => c.ls.length - (intOf u).toNat)
 case atStart => exact ⟨0, by omega, rfl, (fun j q h => absurd h (by omega)), HBX.out, hbz⟩
 case round =>
  obtain ⟨k, hk, rfl, hacc, hbox, hbi⟩ := hrel
  have q0 := hbox.cell_ 0 (v := .slice A c.ls.length cc) rfl
  by_cases hlt : k < c.ls.length
  ·obtain ⟨o, eo⟩ : ∃ o, c.ls[k]? = some o := ⟨_, List.getElem?_eq_getElem hlt⟩
   obtain ⟨b, ob, rfl, hbb, d0, d1, d2, d3, d4, d5⟩ := (HL.out.below hbi).ln eo
   have HBOX := Lib.hid hbox
   have EO := Lib.hid eo
   clear hbox eo
   go_wp2_with fail
   refine (l4Fits_any o tag page _).mono ?_
   rintro e w2 ⟨rfl, hb2⟩
   have HB2 := Lib.hid (bT hbi hb2)
   have HBOX2 := Lib.hid (HBOX.out.below hb2)
   clear hb2 q0 d0 d1 d2 d3 d4 d5
   cases ht : fits tag page o with
   | true =>
    have H := Lib.hid (pix_at EO.out hacc.out ht)
    go_wp2
    go_ret
    exact ⟨by rw [H.out]; rfl, HB2.out⟩
   | false =>
    have HACC := Lib.hid (pix_step EO.out hacc.out ht)
    go_wp2
    go_roundw
    case rel => exact ⟨k + 1, by omega, by go_num, HACC, HBOX2.out, HB2.out⟩
    case measure => simp [intOf]; omega
  ·have H := Lib.hid (pix_none (Nat.le_of_not_lt hlt) hacc.out)
   clear hbox
   go_wp2
   go_ret
   exact ⟨by rw [H.out]; rfl, hbi⟩
theorem l4Tag_any (n : Int) (w : World) : Calls Tryz.prog 216 #[.int .i64 n] w fun r w' => r = .returned (.bool (tagv n)) ∧ w = w' := by
 by_cases h1 : -1 ≤ n
 ·by_cases h2 : n < 8
  ·have H := Lib.hid (tagv_iff.2 ⟨h1, h2⟩)
   go_enter Tryz.func216, Tryz.ntmps216
   go_wp2
   go_ret
   exact ⟨by rw [H.out]; rfl, rfl⟩
  ·have H := Lib.hid (tagv_no (n := n) (fun h => h2 h.2))
   go_enter Tryz.func216, Tryz.ntmps216
   go_wp2
   go_ret
   exact ⟨by rw [H.out]; rfl, rfl⟩
 ·have H := Lib.hid (tagv_no (n := n) (fun h => h1 h.1))
  go_enter Tryz.func216, Tryz.ntmps216
  go_wp2
  go_ret
  exact ⟨by rw [H.out]; rfl, rfl⟩
def dpO (c : Ca) (t p : Int) : Bool := cav c && tagv t && inR p 256 && decide (0 ≤ plcI c.ls t p)
def dpV (c : Ca) (t p : Int) : Ca := if dpO c t p = true then ⟨c.ls.set (plcI c.ls t p).toNat lnz, c.hand⟩ else caz
def flV (c : Ca) (t p : Int) : Int := if dpO c t p = true then plcI c.ls t p else 0
theorem flV_no {c : Ca} {t p : Int} (h : dpO c t p = false) : flV c t p = 0 := by unfold flV; rw [h]; rfl
theorem dpV_no {c : Ca} {t p : Int} (h : dpO c t p = false) : dpV c t p = caz := by unfold dpV; rw [h]; rfl
set_option maxHeartbeats 2000000 in
theorem sFindLine_any (vl : Value) (c : Ca) (tag page : Int) (w : World) (hT : SlR lnE w vl c.ls) :
  Calls Tryz.prog 211 #[.agg #[vl, .int .i64 c.hand], .int .i64 tag, .int .i64 page] w fun r w' => r = .returned (.tuple #[.int .i64 (flV c tag page), .bool (dpO c tag page)]) ∧ Below w.heap.size w w' := by
 have HV := Lib.hid hT
 obtain ⟨A, cc, rfl, hbc, hbm, hL⟩ := hT
 have HL := Lib.hid hL
 have hbx := Own.new_ w 29 #[.slice A c.ls.length cc, .int .i64 c.hand]
 have hbz : Below w.heap.size w (w.alloc (.cells #[.slice A c.ls.length cc, .int .i64 c.hand] 29)) := bA bR
 generalize hW : w.alloc (.cells #[.slice A c.ls.length cc, .int .i64 c.hand] 29) = W0 at hbx hbz
 have q0 := hbx.cell_ 0 (v := .slice A c.ls.length cc) rfl
 have q1 := hbx.cell_ 1 (v := .int .i64 c.hand) rfl
 have HBX := Lib.hid hbx
 clear hL hbx
 go_enter Tryz.func211, Tryz.ntmps211
 go_wp2_with fail
 refine (sCacheValid_any _ c _ (HV.out.now hbz)).mono ?_
 rintro e w1 ⟨rfl, hb1⟩
 have HX1 := Lib.hid (HBX.out.below hb1)
 have HB1 := Lib.hid (bT hbz hb1)
 clear hb1 q0 q1
 cases h1 : cav c with
 | false =>
  have E1 : Hid (dpO c tag page = false) := by show _ = _; unfold dpO; rw [h1]; rfl
  have E2 := Lib.hid (flV_no E1.out)
  go_wp2
  go_ret2
  exact ⟨by rw [E1.out, E2.out]; rfl, HB1.out⟩
 | true =>
  go_wp2_with fail
  refine (l4Tag_any _ _).mono ?_
  rintro e w' ⟨rfl, rfl⟩
  cases h2 : tagv tag with
  | false =>
   have E1 : Hid (dpO c tag page = false) := by show _ = _; unfold dpO; rw [h2]; simp
   have E2 := Lib.hid (flV_no E1.out)
   go_wp2
   go_ret2
   exact ⟨by rw [E1.out, E2.out]; rfl, HB1.out⟩
  | true =>
   go_wp2_with fail
   refine (l1Page_any _ _).mono ?_
   rintro e w' ⟨rfl, rfl⟩
   cases h3 : inR page 256 with
   | false =>
    have E1 : Hid (dpO c tag page = false) := by show _ = _; unfold dpO; rw [h3]; simp
    have E2 := Lib.hid (flV_no E1.out)
    go_wp2
    go_ret2
    exact ⟨by rw [E1.out, E2.out]; rfl, HB1.out⟩
   | true =>
    have q0 := HX1.out.cell_ 0 (v := .slice A c.ls.length cc) rfl
    have q1 := HX1.out.cell_ 1 (v := .int .i64 c.hand) rfl
    go_wp2_with fail
    refine (l4Find_any _ c tag page _ (HV.out.now HB1.out)).mono ?_
    rintro e w2 ⟨rfl, hb2⟩
    have HB2 := Lib.hid (bT HB1.out hb2)
    clear hb2 q0 q1
    by_cases h4 : 0 ≤ plcI c.ls tag page
    ·have E1 : Hid (dpO c tag page = true) := by show _ = _; unfold dpO; rw [h1, h2, h3, decide_eq_true h4]; rfl
     have E2 : Hid (flV c tag page = plcI c.ls tag page) := by show _ = _; unfold flV; rw [E1.out]; rfl
     have h4b : ¬ plcI c.ls tag page < 0 := by omega
     go_wp2
     go_ret2
     exact ⟨by rw [E1.out, E2.out]; rfl, HB2.out⟩
    ·have E1 : Hid (dpO c tag page = false) := by show _ = _; unfold dpO; rw [decide_eq_false h4]; simp
     have E2 := Lib.hid (flV_no E1.out)
     have h4b : plcI c.ls tag page < 0 := by omega
     go_wp2
     go_ret2
     exact ⟨by rw [E1.out, E2.out]; rfl, HB2.out⟩
end Go.Proofs.YtnaagdmaggdbmaaGreatDoor
namespace Go.Proofs.YtnaagdmaggdbmaaGreatDoor
open Go.RowKit
set_option maxRecDepth 1000000
set_option maxHeartbeats 4000000 in
theorem sDropPage_any (vl : Value) (c : Ca) (tag page : Int) (w : World) (hT : SlR lnE w vl c.ls) :
  Calls Tryz.prog 193 #[.agg #[vl, .int .i64 c.hand], .int .i64 tag, .int .i64 page] w (Post2 fun v w' => ∃ v1, v = .tuple #[.agg #[v1, .int .i64 (dpV c tag page).hand], .bool (dpO c tag page)] ∧ SlM lnE 106 w.heap.size w' v1 (dpV c tag page).ls ∧ Below w.heap.size w w') := by
 have HV := Lib.hid hT
 obtain ⟨A, cc, rfl, hbc, hbm, hL⟩ := hT
 have HL := Lib.hid hL
 have hbx := (Own.new_ w 29 #[.slice A c.ls.length cc, .int .i64 c.hand]).alloc (o := .cells #[.slice none 0 0, .int .i64 0] 29)
 have hbo := ownAt (W := w.alloc (.cells #[.slice A c.ls.length cc, .int .i64 c.hand] 29)) (g := w.heap.size + 1) (t := 29) (cs := #[.slice none 0 0, .int .i64 0]) (by simp)
 have hb0 : Below w.heap.size w ((w.alloc (.cells #[.slice A c.ls.length cc, .int .i64 c.hand] 29)).alloc (.cells #[.slice none 0 0, .int .i64 0] 29)) := bA (bA bR)
 have hs0 : ((w.alloc (.cells #[.slice A c.ls.length cc, .int .i64 c.hand] 29)).alloc (.cells #[.slice none 0 0, .int .i64 0] 29)).heap.size = w.heap.size + 2 := by simp
 generalize hW : (w.alloc (.cells #[.slice A c.ls.length cc, .int .i64 c.hand] 29)).alloc (.cells #[.slice none 0 0, .int .i64 0] 29) = W0 at hbx hbo hb0 hs0
 have q0 := hbx.cell_ 0 (v := .slice A c.ls.length cc) rfl
 have q1 := hbx.cell_ 1 (v := .int .i64 c.hand) rfl
 have HX0 := Lib.hid hbx
 have HR0 := Lib.hid hbo
 have HB0 := Lib.hid hb0
 have HS0 : Hid (w.heap.size + 2 ≤ W0.heap.size) := Nat.le_of_eq hs0.symm
 clear hbx hbo hb0 hL
 go_enter Tryz.func193, Tryz.ntmps193
 go_wp2_with fail
 refine (sFindLine_any _ c tag page _ (HV.out.now HB0.out)).mono ?_
 rintro e w1 ⟨rfl, hb1⟩
 have HX1 := Lib.hid (HX0.out.below hb1)
 have HR1 := Lib.hid (HR0.out.below hb1)
 have HB1 := Lib.hid (bT HB0.out hb1)
 have HS1 := Lib.hid (Nat.le_trans HS0.out hb1.size)
 clear hb1
 clear q0 q1
 cases h1 : dpO c tag page with
 | false =>
  have HD := Lib.hid (dpV_no h1)
  have hl1 := HR1.out.lt
  have r0 := HR1.out.cell_ 0 (v := .slice none 0 0) rfl
  have r1 := HR1.out.cell_ 1 (v := .int .i64 0) rfl
  have f0 := HR1.out.free 0
  have f1 := HR1.out.free 1
  go_wp2
  have o3 := (HR1.out.set_ 0 (.slice none 0 0)).set_ 1 (.int .i64 0)
  have t0 := o3.cell_ 0 (v := .slice none 0 0) rfl
  have t1 := o3.cell_ 1 (v := .int .i64 0) rfl
  refine bodyPost_ret (v := .tuple #[.agg #[.slice none 0 0, .int .i64 0], .bool false]) (by simp [results, Tryz.results193, go_sem, t0, t1]) rfl ⟨_, rfl, _, by rw [HD.out, h1]; rfl, by rw [HD.out]; exact SlM.nil_ _, bS (bS HB1.out (by simp)) (by simp)⟩
 | true =>
  have h2 := h1
  unfold dpO at h2
  simp only [Bool.and_eq_true, decide_eq_true_eq] at h2
  obtain ⟨⟨⟨hcv, _⟩, _⟩, h4⟩ := h2
  have hcl := (cav_parts hcv).2.1
  obtain ⟨k, x, hk, ex, _⟩ := plcI_lt h4
  have HD : Hid (dpV c tag page = ⟨c.ls.set k lnz, c.hand⟩) := by show _ = _; unfold dpV; rw [h1, if_pos rfl, hk, Int.toNat_natCast]
  have HF : Hid (flV c tag page = (k : Int)) := by show _ = _; unfold flV; rw [h1, if_pos rfl, hk]
  rw [HF.out]
  have hkl := (List.getElem?_eq_some_iff.1 ex).1
  have EX := Lib.hid ex
  clear hk ex h4 hcv HF
  have q0 := HX1.out.cell_ 0 (v := .slice A c.ls.length cc) rfl
  have q1 := HX1.out.cell_ 1 (v := .int .i64 c.hand) rfl
  go_wp2_with fail
  refine (l4Copy_any _ c _ (HV.out.now HB1.out) (by omega)).mono ?_
  rintro e w2 ⟨_, rfl, v1, rfl, hM2, hb2⟩
  have hs1 := HS1.out
  have hlt1 := HR1.out.lt
  obtain ⟨A2, c2, rfl, l2, k2, m2⟩ := hM2
  obtain ⟨g2, cs2, rfl, hg2, O2, _⟩ := m2.own (by omega)
  have HX2 := Lib.hid (HX1.out.below hb2)
  have HR2 := Lib.hid (HR1.out.below hb2)
  have HB2 := Lib.hid (bT HB1.out hb2)
  have HS2 := Lib.hid (Nat.le_trans HS1.out hb2.size)
  clear hb2
  clear q0 q1
  have ho5 := Own.new_ w2 29 #[.slice (some ⟨g2, 0, none⟩) c.ls.length c2, .int .i64 c.hand]
  have hb5 : Below w2.heap.size w2 (w2.alloc (.cells #[.slice (some ⟨g2, 0, none⟩) c.ls.length c2, .int .i64 c.hand] 29)) := bA bR
  generalize hW5 : w2.alloc (.cells #[.slice (some ⟨g2, 0, none⟩) c.ls.length c2, .int .i64 c.hand] 29) = w5 at ho5 hb5
  have M5 := m2.below hb5
  have O5 := O2.below hb5
  have HX5 := Lib.hid (HX2.out.below hb5)
  have HR5 := Lib.hid (HR2.out.below hb5)
  have HB5 := Lib.hid (bT HB2.out hb5)
  have HS5 := Lib.hid (Nat.le_trans HS2.out hb5.size)
  clear hb5
  clear m2 O2
  have o50 := ho5.cell_ 0 (v := .slice (some ⟨g2, 0, none⟩) c.ls.length c2) rfl
  have o51 := ho5.cell_ 1 (v := .int .i64 c.hand) rfl
  have z0 := O5.free (k * 6)
  have z1 := O5.free (k * 6 + 1)
  have z2 := O5.free (k * 6 + 2)
  have z3 := O5.free (k * 6 + 3)
  have z4 := O5.free (k * 6 + 4)
  have z5 := O5.free (k * 6 + 5)
  obtain ⟨bq, oq, eq1, _, y0, y1, y2, y3, y4, y5⟩ := M5.is.ln EX.out
  injection eq1 with eq1
  injection eq1 with eq1 eq2
  subst eq1 eq2
  rw [Nat.zero_add] at y0 y1 y2 y3 y4 y5
  have HM5 := Lib.hid M5
  have HO5 := Lib.hid ho5
  have hne : w2.heap.size ≠ g2 := HO5.out.ne O5 (by decide)
  have hne2 : g2 ≠ w2.heap.size := fun h => hne h.symm
  have hlo := HO5.out.lt
  have q3 : w.heap.size + 1 ≠ g2 := HR5.out.ne O5 (by decide)
  have q4 : g2 ≠ w.heap.size + 1 := fun h => q3 h.symm
  have hlr := HR5.out.lt
  have r0 := HR5.out.cell_ 0 (v := .slice none 0 0) rfl
  have r1 := HR5.out.cell_ 1 (v := .int .i64 0) rfl
  have f0 := HR5.out.free 0
  have f1 := HR5.out.free 1
  have HML := Lib.hid (HM5.out.wln hkl lnz)
  clear M5 O5 ho5
  go_wp2
  have g1 := ((((((HR5.out.far (p := ⟨g2, k * 6, none⟩) (u := .bool false) q3).far (p := ⟨g2, k * 6 + 1, none⟩) (u := .int .i64 0) q3).far (p := ⟨g2, k * 6 + 2, none⟩) (u := .int .i64 0) q3).far (p := ⟨g2, k * 6 + 3, none⟩) (u := .int .i64 0) q3).far (p := ⟨g2, k * 6 + 4, none⟩) (u := .int .i64 0) q3).far (p := ⟨g2, k * 6 + 5, none⟩) (u := .bool false) q3)
  have o3 := (g1.set_ 0 (.slice (some ⟨g2, 0, none⟩) c.ls.length c2)).set_ 1 (.int .i64 c.hand)
  have t0 := o3.cell_ 0 (v := .slice (some ⟨g2, 0, none⟩) c.ls.length c2) rfl
  have t1 := o3.cell_ 1 (v := .int .i64 c.hand) rfl
  refine bodyPost_ret (v := .tuple #[.agg #[.slice (some ⟨g2, 0, none⟩) c.ls.length c2, .int .i64 c.hand], .bool true]) (by simp [results, Tryz.results193, go_sem, t0, t1]) rfl ⟨_, rfl, _, by rw [HD.out, h1], ?_, ?_⟩
  ·rw [HD.out]
   exact (slm_of (by simp) (by simpa using l2) k2 ((HML.out.far (p := ⟨w.heap.size + 1, 0, none⟩) (u := .slice (some ⟨g2, 0, none⟩) c.ls.length c2) hlt1).far (p := ⟨w.heap.size + 1, 1, none⟩) (u := .int .i64 c.hand) hlt1)).mono (by have := HB1.out.size; omega)
  ·repeat (refine bS ?_ (by simp <;> omega))
   exact HB5.out
theorem tagT_ok {m : Ma} (h : tgv m.g = true) (s p : Int) : tagv (tagT m s p) = true := by
 unfold tagT
 split
 ·decide
 ·unfold tgT
  split
  ·rename_i h1
   unfold tgO at h1
   simp only [Bool.and_eq_true, decide_eq_true_eq] at h1
   obtain ⟨k, o, hk, eo, _⟩ := ownI_lt h1.2
   obtain ⟨b, ht⟩ := tgv_parts h
   obtain ⟨q, eq, _, q1, q2, _⟩ := tok_at ht (List.getElem?_eq_some_iff.1 eo).1
   rw [eo] at eq
   injection eq with eq
   subst eq
   rw [hk, Int.toNat_natCast, List.getD_eq_getElem?_getD, eo]
   exact tagv_iff.2 ⟨by simp only [Option.getD_some]; omega, by simp only [Option.getD_some]; omega⟩
  ·decide
end Go.Proofs.YtnaagdmaggdbmaaGreatDoor
