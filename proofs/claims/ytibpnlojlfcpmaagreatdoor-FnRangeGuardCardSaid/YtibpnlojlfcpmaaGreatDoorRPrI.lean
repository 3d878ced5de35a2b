/- A part of the proofs of this seat: DrpI, DrpS, DrpT, PrI, UnmI, VicP, VicS. -/
import Derived.Deep.LoopGhost
import Derived.Test.YtibpnlojlfcpmaaGreatDoorRCp6
set_option linter.unusedVariables false
set_option linter.unusedSimpArgs false
set_option maxRecDepth 1000000
namespace Go.Proofs.YtibpnlojlfcpmaaGreatDoor
open Go.RowKit
theorem MaM.far9 {B g : Nat} {w : World} {vb vf vl vo : Value} {m : Ma} {cs : Array Value} (h : MaM B w vb vf vl vo m) (ho : Own w g 48 cs) (u0 u1 u2 u3 u4 u5 u6 u7 u8 : Value) :
  MaM B (((((((((w.setCell ⟨g, 0, none⟩ u0).setCell ⟨g, 1, none⟩ u1).setCell ⟨g, 2, none⟩ u2).setCell ⟨g, 3, none⟩ u3).setCell ⟨g, 4, none⟩ u4).setCell ⟨g, 5, none⟩ u5).setCell ⟨g, 6, none⟩ u6).setCell ⟨g, 7, none⟩ u7).setCell ⟨g, 8, none⟩ u8) vb vf vl vo m := by
 have o1 := ho.set_ 0 u0
 have o2 := o1.set_ 1 u1
 have o3 := o2.set_ 2 u2
 have o4 := o3.set_ 3 u3
 have o5 := o4.set_ 4 u4
 have o6 := o5.set_ 5 u5
 have o7 := o6.set_ 6 u6
 have o8 := o7.set_ 7 u7
 exact ((((((((h.farT ho).farT o1).farT o2).farT o3).farT o4).farT o5).farT o6).farT o7).farT o8
theorem Own.far9 {g h : Nat} {w : World} {ty : TypeId} {cs : Array Value} (ho : Own w h ty cs) (hne : h ≠ g) (u0 u1 u2 u3 u4 u5 u6 u7 u8 : Value) :
  Own (((((((((w.setCell ⟨g, 0, none⟩ u0).setCell ⟨g, 1, none⟩ u1).setCell ⟨g, 2, none⟩ u2).setCell ⟨g, 3, none⟩ u3).setCell ⟨g, 4, none⟩ u4).setCell ⟨g, 5, none⟩ u5).setCell ⟨g, 6, none⟩ u6).setCell ⟨g, 7, none⟩ u7).setCell ⟨g, 8, none⟩ u8) h ty cs :=
 ((((((((ho.far hne).far hne).far hne).far hne).far hne).far hne).far hne).far hne).far hne
theorem vf_step {ls : List Ln} {k a : Nat} {x : Ln} (e : ls[a]? = some x) (h : x.w = true) : vicFrom ls (k + 1) a = vicFrom ls k ((a + 1) % ls.length) := by
 rw [vicFrom, e]
 simp only [h, if_true]
theorem vf_stop {ls : List Ln} {k a : Nat} {x : Ln} (e : ls[a]? = some x) (h : x.w = false) : vicFrom ls (k + 1) a = a := by
 rw [vicFrom, e]
 simp [h]
def VSt (c : Ca) (j a : Nat) : Prop := a = (c.hand.toNat + j) % c.ls.length ∧ j ≤ c.ls.length ∧ vicFrom c.ls c.ls.length c.hand.toNat = vicFrom c.ls (c.ls.length - j) a ∧ ∀ i, i < j → ∃ x : Ln, c.ls[(c.hand.toNat + i) % c.ls.length]? = some x ∧ x.w = true
theorem vst_zero {c : Ca} (h : CV c) : VSt c 0 c.hand.toNat := by
 obtain ⟨h1, h2⟩ := inR_iff.1 h.hand
 exact ⟨by rw [Nat.add_zero, Nat.mod_eq_of_lt (by omega)], Nat.zero_le _, rfl, fun i hi => absurd hi (by omega)⟩
theorem vst_lt {c : Ca} (h : CV c) {j a : Nat} (hs : VSt c j a) : j < c.ls.length := by
 obtain ⟨_, h2, _, h4⟩ := hs
 rcases Nat.lt_or_ge j c.ls.length with hlt | hge
 ·exact hlt
 ·exfalso
  obtain ⟨i, x, e, hw⟩ := h.loose
  have hi := (List.getElem?_eq_some_iff.1 e).1
  have hn : 0 < c.ls.length := by omega
  let q := (i + c.ls.length * (c.hand.toNat + 1) - c.hand.toNat) % c.ls.length
  have hle : c.hand.toNat ≤ c.ls.length * (c.hand.toNat + 1) := Nat.le_trans (Nat.le_succ _) (Nat.le_mul_of_pos_left _ hn)
  have hq : q < c.ls.length := Nat.mod_lt _ hn
  have hqi : (c.hand.toNat + q) % c.ls.length = i := by
   show (c.hand.toNat + (i + c.ls.length * (c.hand.toNat + 1) - c.hand.toNat) % c.ls.length) % c.ls.length = i
   rw [Nat.add_mod_mod, show c.hand.toNat + (i + c.ls.length * (c.hand.toNat + 1) - c.hand.toNat) = i + c.ls.length * (c.hand.toNat + 1) by omega, Nat.add_mul_mod_self_left, Nat.mod_eq_of_lt hi]
  obtain ⟨y, e2, hy⟩ := h4 q (by omega)
  rw [hqi, e] at e2
  injection e2 with e2
  rw [← e2, hw] at hy
  cases hy
theorem vst_in {c : Ca} (h : CV c) {j a : Nat} (hs : VSt c j a) : a < c.ls.length := by
 rw [hs.1]
 exact Nat.mod_lt _ (by have := h.sz; omega)
theorem vst_step {c : Ca} (h : CV c) {j a : Nat} {x : Ln} (hs : VSt c j a) (e : c.ls[a]? = some x) (hw : x.w = true) : VSt c (j + 1) ((a + 1) % c.ls.length) := by
 have hj := vst_lt h hs
 obtain ⟨h1, h2, h3, h4⟩ := hs
 refine ⟨by rw [h1, Nat.mod_add_mod, Nat.add_assoc], hj, ?_, fun i hi => ?_⟩
 ·rw [h3, show c.ls.length - j = (c.ls.length - (j + 1)) + 1 by omega]
  exact vf_step e hw
 ·rcases Nat.lt_or_ge i j with hlt | hge
  ·exact h4 i hlt
  ·obtain rfl : i = j := by omega
   exact ⟨x, by rw [← h1]; exact e, hw⟩
theorem vst_stop {c : Ca} (h : CV c) {j a : Nat} {x : Ln} (hs : VSt c j a) (e : c.ls[a]? = some x) (hw : x.w = false) : vicFrom c.ls c.ls.length c.hand.toNat = a := by
 have hj := vst_lt h hs
 rw [hs.2.2.1, show c.ls.length - j = (c.ls.length - (j + 1)) + 1 by omega]
 exact vf_stop e hw
theorem vic_free {c : Ca} {k : Nat} {x : Ln} (e : c.ls[k]? = some x) (h : ∀ (j : Nat) (y : Ln), j < k → c.ls[j]? = some y → y.v = true) (hx : x.v = false) : vic c = k := by
 have : c.ls.findIdx? (fun x => !x.v) = some k := by
  rw [List.findIdx?_eq_some_iff_getElem]
  obtain ⟨hlt, he⟩ := List.getElem?_eq_some_iff.1 e
  refine ⟨hlt, by rw [he, hx]; rfl, fun j hj => ?_⟩
  rw [h j c.ls[j] hj (List.getElem?_eq_getElem (by omega))]
  decide
 unfold vic
 rw [this]
theorem vic_full {c : Ca} (h : ∀ (j : Nat) (y : Ln), j < c.ls.length → c.ls[j]? = some y → y.v = true) : vic c = vicFrom c.ls c.ls.length c.hand.toNat := by
 have : c.ls.findIdx? (fun x => !x.v) = none := by
  rw [List.findIdx?_eq_none_iff]
  intro x hx
  obtain ⟨j, hj, e⟩ := List.getElem_of_mem hx
  rw [h j x hj (by rw [List.getElem?_eq_getElem hj, e])]
  rfl
 unfold vic
 rw [this]
theorem vf_in {ls : List Ln} (hn : 0 < ls.length) : ∀ {k a : Nat}, a < ls.length → vicFrom ls k a < ls.length
  | 0, a, h => h
  | k + 1, a, h => by
    cases e : ls[a]? with
    | none => rw [vicFrom, e]; exact h
    | some x =>
      cases hw : x.w with
      | true => rw [vf_step e hw]; exact vf_in hn (Nat.mod_lt _ hn)
      | false => rw [vf_stop e hw]; exact h
theorem vic_in {c : Ca} (h : CV c) : vic c < c.ls.length := by
 unfold vic
 cases e : c.ls.findIdx? (fun x => !x.v) with
 | some i => exact (List.findIdx?_eq_some_iff_getElem.1 e).1
 | none =>
  obtain ⟨h1, h2⟩ := inR_iff.1 h.hand
  exact vf_in (by have := h.sz; omega) (by omega)
theorem CV.fill {c : Ca} (h : CV c) {x : Ln} (hx : lnok x = true) (hw : x.w = false) (hc : ∀ (i : Nat) (y : Ln), c.ls[i]? = some y → clash x y = false) : CV (filC c x) := by
 have hv := vic_in h
 have hn := h.sz
 refine ⟨by simpa [filC] using hn, ?_, fun i y hi => ?_, fun i j y z hij hi hj => ?_, ⟨vic c, x, by simp only [filC]; rw [List.getElem?_set, if_pos rfl, if_pos hv], hw⟩⟩
 ·simp only [filC, List.length_set]
  cases e : c.ls[vic c]? with
  | none => exact h.hand
  | some y =>
   simp only
   split
   ·exact inR_iff.2 ⟨Int.emod_nonneg _ (by omega), Int.emod_lt_of_pos _ (by omega)⟩
   ·exact h.hand
 ·simp only [filC] at hi
  rw [List.getElem?_set] at hi
  split at hi
  ·injection hi with hi
   rw [← hi]; exact hx
  ·exact h.ok i y hi
 ·simp only [filC] at hi hj
  rw [List.getElem?_set] at hi hj
  split at hi
  ·rename_i h1
   injection hi with hi
   rw [if_neg (by omega)] at hj
   rw [← hi]; exact hc j z hj
  ·split at hj
   ·injection hj with hj
    rw [← hj, clash_symm]; exact hc i y hi
   ·exact h.cl i j y z hij hi hj
set_option maxHeartbeats 2000000 in
theorem MineE.wln {e : TypeId} {B : Nat} {w : World} {g : Nat} {l : List Ln} (h : MineE lnE e B w (some ⟨g, 0, none⟩) l) {k : Nat} (hk : k < l.length) (x : Ln) :
  MineE lnE e B ((((((w.setCell ⟨g, k * 6, none⟩ (.bool x.v)).setCell ⟨g, k * 6 + 1, none⟩ (.int .i64 x.t)).setCell ⟨g, k * 6 + 2, none⟩ (.int .i64 x.p)).setCell ⟨g, k * 6 + 3, none⟩ (.int .i64 x.f)).setCell ⟨g, k * 6 + 4, none⟩ (.int .i64 x.r)).setCell ⟨g, k * 6 + 5, none⟩ (.bool x.w)) (some ⟨g, 0, none⟩) (l.set k x) := by
 obtain ⟨g2, cs, e1, hB, ho, hs⟩ := h.own (by omega)
 injection e1 with e1
 injection e1 with e1
 subst e1
 have hs2 : l.length * 6 ≤ cs.size := by simpa [lnE] using hs
 refine h.write ho ((((((ho.set_ (k * 6) _).set_ (k * 6 + 1) _).set_ (k * 6 + 2) _).set_ (k * 6 + 3) _).set_ (k * 6 + 4) _).set_ (k * 6 + 5) _) (by simp) hk x (fun j u hj => ?_) (fun i hi => ?_)
 ·simp only [lnE] at hj ⊢
  match j, hj with
  | 0, hj => simp at hj; subst hj; simp [Array.getElem?_setIfInBounds]; omega
  | 1, hj => simp at hj; subst hj; simp [Array.getElem?_setIfInBounds]; omega
  | 2, hj => simp at hj; subst hj; simp [Array.getElem?_setIfInBounds]; omega
  | 3, hj => simp at hj; subst hj; simp [Array.getElem?_setIfInBounds]; omega
  | 4, hj => simp at hj; subst hj; simp [Array.getElem?_setIfInBounds]; omega
  | 5, hj => simp at hj; subst hj; simp [Array.getElem?_setIfInBounds]; omega
  | j + 6, hj => simp at hj
 ·simp only [lnE] at hi
  rw [Array.getElem?_setIfInBounds, if_neg (by omega), Array.getElem?_setIfInBounds, if_neg (by omega), Array.getElem?_setIfInBounds, if_neg (by omega), Array.getElem?_setIfInBounds, if_neg (by omega), Array.getElem?_setIfInBounds, if_neg (by omega), Array.getElem?_setIfInBounds, if_neg (by omega)]
theorem l4Fits_any (f : Ln) (tag page : Int) (w : World) : Calls Tryz.prog 244 #[lnV f, .int .i64 tag, .int .i64 page] w fun r w' => r = .returned (.bool (fits tag page f)) ∧ Below w.heap.size w w' := by
 unfold lnV
 cases hv : f.v with
 | false =>
  have H : Hid (fits tag page f = false) := by simp [Hid, fits, hv]
  go_enter Tryz.func244, Tryz.ntmps244
  go_wp2
  go_ret
  exact ⟨by rw [H.out]; rfl, bA bR⟩
 | true =>
  by_cases hp : f.p = page
  ·by_cases ht : f.t = tag
   ·have H : Hid (fits tag page f = true) := by simp [Hid, fits, hv, hp, ht]
    go_enter Tryz.func244, Tryz.ntmps244
    go_wp2
    go_ret
    exact ⟨by rw [H.out]; rfl, bA bR⟩
   ·have H : Hid (fits tag page f = (f.t == tag || f.t == -1)) := by
     show _ = _
     rw [beq_eq_false_iff_ne.2 ht, Bool.false_or]
     simp [fits, hv, hp, ht]
     by_cases h : f.t = -1 <;> simp [h]
    go_enter Tryz.func244, Tryz.ntmps244
    go_wp2
    go_ret
    exact ⟨by rw [H.out]; rfl, bA bR⟩
  ·have H : Hid (fits tag page f = false) := by simp [Hid, fits, hp]
   go_enter Tryz.func244, Tryz.ntmps244
   go_wp2
   go_ret
   exact ⟨by rw [H.out]; rfl, bA bR⟩
set_option maxHeartbeats 2000000 in
theorem l4Find_any (vl : Value) (c : Ca) (tag page : Int) (w : World) (hT : SlR lnE w vl c.ls) :
  Calls Tryz.prog 229 #[.agg #[vl, .int .i64 c.hand], .int .i64 tag, .int .i64 page] w fun r w' => r = .returned (.int .i64 (plcI c.ls tag page)) ∧ Below w.heap.size w w' := by
 obtain ⟨A, cc, rfl, hbc, hbm, hL⟩ := hT
 have hfm2 : c.ls.length ≤ 9223372036854775807 := by unfold maxLen at hbm; omega
 have HL := Hd hL
 have hbx := Own.new_ w 43 #[.slice A c.ls.length cc, .int .i64 c.hand]
 have hbz : Below w.heap.size w (w.alloc (.cells #[.slice A c.ls.length cc, .int .i64 c.hand] 43)) := bA bR
 generalize hW : w.alloc (.cells #[.slice A c.ls.length cc, .int .i64 c.hand] 43) = W0 at hbx hbz
 have q0 := hbx.cell_ 0 (v := .slice A c.ls.length cc) rfl
 have q1 := hbx.cell_ 1 (v := .int .i64 c.hand) rfl
 have HBX := Hd hbx
 clear hL hbx
 clear q0 q1
 rw [← pix_plc]
 go_enter Tryz.func229, Tryz.ntmps229
 go_wp2
 go_loopw [7] (fun u wr => ∃ k : Nat, k ≤ c.ls.length ∧ u = .int .i64 k ∧ Hid (∀ (j : Nat) (q : Ln), j < k → c.ls[j]? = some q → fits tag page q = false) ∧ Own wr w.heap.size 43 #[.slice A c.ls.length cc, .int .i64 c.hand] ∧ Below w.heap.size w wr) (fun u _ => c.ls.length - (intOf u).toNat)
 case atStart => exact ⟨0, by omega, rfl, (fun j q h => absurd h (by omega)), HBX.out, hbz⟩
 case round =>
  obtain ⟨k, hk, rfl, hacc, hbox, hbi⟩ := hrel
  have q0 := hbox.cell_ 0 (v := .slice A c.ls.length cc) rfl
  by_cases hlt : k < c.ls.length
  ·obtain ⟨o, eo⟩ : ∃ o, c.ls[k]? = some o := ⟨_, List.getElem?_eq_getElem hlt⟩
   obtain ⟨b, ob, rfl, hbb, d0, d1, d2, d3, d4, d5⟩ := (HL.out.below hbi).ln eo
   have HBOX := Hd hbox
   have EO := Hd eo
   clear hbox eo
   go_wp2_with fail
   refine (l4Fits_any o tag page _).mono ?_
   rintro e w2 ⟨rfl, hb2⟩
   have HB2 := Hd (bT hbi hb2)
   have HBOX2 := Hd (HBOX.out.below hb2)
   clear hb2 q0 d0 d1 d2 d3 d4 d5
   cases ht : fits tag page o with
   | true =>
    have H := Hd (pix_at EO.out hacc.out ht)
    go_wp2
    go_ret
    exact ⟨by rw [H.out]; rfl, HB2.out⟩
   | false =>
    have HACC := Hd (pix_step EO.out hacc.out ht)
    go_wp2
    go_roundw
    case rel => exact ⟨k + 1, by omega, by go_num, HACC, HBOX2.out, HB2.out⟩
    case measure => simp [intOf]; omega
  ·have H := Hd (pix_none (Nat.le_of_not_lt hlt) hacc.out)
   clear hbox
   go_wp2
   go_ret
   exact ⟨by rw [H.out]; rfl, hbi⟩
theorem l4Tag_any (n : Int) (w : World) : Calls Tryz.prog 242 #[.int .i64 n] w fun r w' => r = .returned (.bool (tagv n)) ∧ w = w' := by
 by_cases h1 : -1 ≤ n
 ·by_cases h2 : n < 8
  ·have H := Hd (tagv_iff.2 ⟨h1, h2⟩)
   go_enter Tryz.func242, Tryz.ntmps242
   go_wp2
   go_ret
   exact ⟨by rw [H.out]; rfl, rfl⟩
  ·have H := Hd (tagv_no (n := n) (fun h => h2 h.2))
   go_enter Tryz.func242, Tryz.ntmps242
   go_wp2
   go_ret
   exact ⟨by rw [H.out]; rfl, rfl⟩
 ·have H := Hd (tagv_no (n := n) (fun h => h1 h.1))
  go_enter Tryz.func242, Tryz.ntmps242
  go_wp2
  go_ret
  exact ⟨by rw [H.out]; rfl, rfl⟩
def dpO (c : Ca) (t p : Int) : Bool := cav c && tagv t && inR p 256 && decide (0 ≤ plcI c.ls t p)
def dpV (c : Ca) (t p : Int) : Ca := if dpO c t p = true then ⟨c.ls.set (plcI c.ls t p).toNat lnz, c.hand⟩ else caz
def flV (c : Ca) (t p : Int) : Int := if dpO c t p = true then plcI c.ls t p else 0
theorem flV_no {c : Ca} {t p : Int} (h : dpO c t p = false) : flV c t p = 0 := by unfold flV; rw [h]; rfl
theorem dpV_no {c : Ca} {t p : Int} (h : dpO c t p = false) : dpV c t p = caz := by unfold dpV; rw [h]; rfl
set_option maxHeartbeats 2000000 in
theorem sFindLine_any (vl : Value) (c : Ca) (tag page : Int) (w : World) (hT : SlR lnE w vl c.ls) :
  Calls Tryz.prog 226 #[.agg #[vl, .int .i64 c.hand], .int .i64 tag, .int .i64 page] w fun r w' => r = .returned (.tuple #[.int .i64 (flV c tag page), .bool (dpO c tag page)]) ∧ Below w.heap.size w w' := by
 have HV := Hd hT
 obtain ⟨A, cc, rfl, hbc, hbm, hL⟩ := hT
 have HL := Hd hL
 have hbx := Own.new_ w 43 #[.slice A c.ls.length cc, .int .i64 c.hand]
 have hbz : Below w.heap.size w (w.alloc (.cells #[.slice A c.ls.length cc, .int .i64 c.hand] 43)) := bA bR
 generalize hW : w.alloc (.cells #[.slice A c.ls.length cc, .int .i64 c.hand] 43) = W0 at hbx hbz
 have q0 := hbx.cell_ 0 (v := .slice A c.ls.length cc) rfl
 have q1 := hbx.cell_ 1 (v := .int .i64 c.hand) rfl
 have HBX := Hd hbx
 clear hL hbx
 go_enter Tryz.func226, Tryz.ntmps226
 go_wp2_with fail
 refine (sCacheValid_any _ c _ (HV.out.now hbz)).mono ?_
 rintro e w1 ⟨rfl, hb1⟩
 have HX1 := Hd (HBX.out.below hb1)
 have HB1 := Hd (bT hbz hb1)
 clear hb1 q0 q1
 cases h1 : cav c with
 | false =>
  have E1 : Hid (dpO c tag page = false) := by show _ = _; unfold dpO; rw [h1]; rfl
  have E2 := Hd (flV_no E1.out)
  go_wp2
  go_ret2
  exact ⟨by rw [E1.out, E2.out]; rfl, HB1.out⟩
 | true =>
  go_wp2_with fail
  refine (l4Tag_any _ _).mono ?_
  rintro e w' ⟨rfl, rfl⟩
  cases h2 : tagv tag with
  | false =>
   have E1 : Hid (dpO c tag page = false) := by show _ = _; unfold dpO; rw [h2]; simp
   have E2 := Hd (flV_no E1.out)
   go_wp2
   go_ret2
   exact ⟨by rw [E1.out, E2.out]; rfl, HB1.out⟩
  | true =>
   go_wp2_with fail
   refine (l1Page_any _ _).mono ?_
   rintro e w' ⟨rfl, rfl⟩
   cases h3 : inR page 256 with
   | false =>
    have E1 : Hid (dpO c tag page = false) := by show _ = _; unfold dpO; rw [h3]; simp
    have E2 := Hd (flV_no E1.out)
    go_wp2
    go_ret2
    exact ⟨by rw [E1.out, E2.out]; rfl, HB1.out⟩
   | true =>
    have q0 := HX1.out.cell_ 0 (v := .slice A c.ls.length cc) rfl
    have q1 := HX1.out.cell_ 1 (v := .int .i64 c.hand) rfl
    go_wp2_with fail
    refine (l4Find_any _ c tag page _ (HV.out.now HB1.out)).mono ?_
    rintro e w2 ⟨rfl, hb2⟩
    have HB2 := Hd (bT HB1.out hb2)
    clear hb2 q0 q1
    by_cases h4 : 0 ≤ plcI c.ls tag page
    ·have E1 : Hid (dpO c tag page = true) := by show _ = _; unfold dpO; rw [h1, h2, h3, decide_eq_true h4]; rfl
     have E2 : Hid (flV c tag page = plcI c.ls tag page) := by show _ = _; unfold flV; rw [E1.out]; rfl
     have h4b : ¬ plcI c.ls tag page < 0 := by omega
     go_wp2
     go_ret2
     exact ⟨by rw [E1.out, E2.out]; rfl, HB2.out⟩
    ·have E1 : Hid (dpO c tag page = false) := by show _ = _; unfold dpO; rw [decide_eq_false h4]; simp
     have E2 := Hd (flV_no E1.out)
     have h4b : plcI c.ls tag page < 0 := by omega
     go_wp2
     go_ret2
     exact ⟨by rw [E1.out, E2.out]; rfl, HB2.out⟩
set_option maxHeartbeats 4000000 in
theorem sDropPage_any (vl : Value) (c : Ca) (tag page : Int) (w : World) (hT : SlR lnE w vl c.ls) :
  Calls Tryz.prog 179 #[.agg #[vl, .int .i64 c.hand], .int .i64 tag, .int .i64 page] w (Post2 fun v w' => ∃ v1, v = .tuple #[.agg #[v1, .int .i64 (dpV c tag page).hand], .bool (dpO c tag page)] ∧ SlM lnE 129 w.heap.size w' v1 (dpV c tag page).ls ∧ Below w.heap.size w w') := by
 have HV := Hd hT
 obtain ⟨A, cc, rfl, hbc, hbm, hL⟩ := hT
 have HL := Hd hL
 have hbx := (Own.new_ w 43 #[.slice A c.ls.length cc, .int .i64 c.hand]).alloc (o := .cells #[.slice none 0 0, .int .i64 0] 43)
 have hbo := ownAt (W := w.alloc (.cells #[.slice A c.ls.length cc, .int .i64 c.hand] 43)) (g := w.heap.size + 1) (t := 43) (cs := #[.slice none 0 0, .int .i64 0]) (by simp)
 have hb0 : Below w.heap.size w ((w.alloc (.cells #[.slice A c.ls.length cc, .int .i64 c.hand] 43)).alloc (.cells #[.slice none 0 0, .int .i64 0] 43)) := bA (bA bR)
 have hs0 : ((w.alloc (.cells #[.slice A c.ls.length cc, .int .i64 c.hand] 43)).alloc (.cells #[.slice none 0 0, .int .i64 0] 43)).heap.size = w.heap.size + 2 := by simp
 generalize hW : (w.alloc (.cells #[.slice A c.ls.length cc, .int .i64 c.hand] 43)).alloc (.cells #[.slice none 0 0, .int .i64 0] 43) = W0 at hbx hbo hb0 hs0
 have q0 := hbx.cell_ 0 (v := .slice A c.ls.length cc) rfl
 have q1 := hbx.cell_ 1 (v := .int .i64 c.hand) rfl
 have HX0 := Hd hbx
 have HR0 := Hd hbo
 have HB0 := Hd hb0
 have HS0 : Hid (w.heap.size + 2 ≤ W0.heap.size) := Nat.le_of_eq hs0.symm
 clear hbx hbo hb0 hL
 go_enter Tryz.func179, Tryz.ntmps179
 go_wp2_with fail
 refine (sFindLine_any _ c tag page _ (HV.out.now HB0.out)).mono ?_
 rintro e w1 ⟨rfl, hb1⟩
 have HX1 := Hd (HX0.out.below hb1)
 have HR1 := Hd (HR0.out.below hb1)
 have HB1 := Hd (bT HB0.out hb1)
 have HS1 := Hd (Nat.le_trans HS0.out hb1.size)
 clear hb1
 clear q0 q1
 cases h1 : dpO c tag page with
 | false =>
  have HD := Hd (dpV_no h1)
  have hl1 := HR1.out.lt
  have r0 := HR1.out.cell_ 0 (v := .slice none 0 0) rfl
  have r1 := HR1.out.cell_ 1 (v := .int .i64 0) rfl
  have f0 := HR1.out.free 0
  have f1 := HR1.out.free 1
  go_wp2
  have o3 := (HR1.out.set_ 0 (.slice none 0 0)).set_ 1 (.int .i64 0)
  have t0 := o3.cell_ 0 (v := .slice none 0 0) rfl
  have t1 := o3.cell_ 1 (v := .int .i64 0) rfl
  refine bodyPost_ret (v := .tuple #[.agg #[.slice none 0 0, .int .i64 0], .bool false]) (by simp [results, Tryz.results179, go_sem, t0, t1]) rfl ⟨_, rfl, _, by rw [HD.out, h1]; rfl, by rw [HD.out]; exact SlM.nil_ _, bS (bS HB1.out (by simp)) (by simp)⟩
 | true =>
  have h2 := h1
  unfold dpO at h2
  simp only [Bool.and_eq_true, decide_eq_true_eq] at h2
  obtain ⟨⟨⟨hcv, _⟩, _⟩, h4⟩ := h2
  have hcl := (cav_parts hcv).2.1
  obtain ⟨k, x, hk, ex, _⟩ := plcI_lt h4
  have HD : Hid (dpV c tag page = ⟨c.ls.set k lnz, c.hand⟩) := by show _ = _; unfold dpV; rw [h1, if_pos rfl, hk, Int.toNat_natCast]
  have HF : Hid (flV c tag page = (k : Int)) := by show _ = _; unfold flV; rw [h1, if_pos rfl, hk]
  rw [HF.out]
  have hkl := (List.getElem?_eq_some_iff.1 ex).1
  have EX := Hd ex
  clear hk ex h4 hcv HF
  have q0 := HX1.out.cell_ 0 (v := .slice A c.ls.length cc) rfl
  have q1 := HX1.out.cell_ 1 (v := .int .i64 c.hand) rfl
  go_wp2_with fail
  refine (l4Copy_any _ c _ (HV.out.now HB1.out) (by omega)).mono ?_
  rintro e w2 ⟨_, rfl, v1, rfl, hM2, hb2⟩
  have hs1 := HS1.out
  have hlt1 := HR1.out.lt
  obtain ⟨A2, c2, rfl, l2, k2, m2⟩ := hM2
  obtain ⟨g2, cs2, rfl, hg2, O2, _⟩ := m2.own (by omega)
  have HX2 := Hd (HX1.out.below hb2)
  have HR2 := Hd (HR1.out.below hb2)
  have HB2 := Hd (bT HB1.out hb2)
  have HS2 := Hd (Nat.le_trans HS1.out hb2.size)
  clear hb2
  clear q0 q1
  have ho5 := Own.new_ w2 43 #[.slice (some ⟨g2, 0, none⟩) c.ls.length c2, .int .i64 c.hand]
  have hb5 : Below w2.heap.size w2 (w2.alloc (.cells #[.slice (some ⟨g2, 0, none⟩) c.ls.length c2, .int .i64 c.hand] 43)) := bA bR
  generalize hW5 : w2.alloc (.cells #[.slice (some ⟨g2, 0, none⟩) c.ls.length c2, .int .i64 c.hand] 43) = w5 at ho5 hb5
  have M5 := m2.below hb5
  have O5 := O2.below hb5
  have HX5 := Hd (HX2.out.below hb5)
  have HR5 := Hd (HR2.out.below hb5)
  have HB5 := Hd (bT HB2.out hb5)
  have HS5 := Hd (Nat.le_trans HS2.out hb5.size)
  clear hb5
  clear m2 O2
  have o50 := ho5.cell_ 0 (v := .slice (some ⟨g2, 0, none⟩) c.ls.length c2) rfl
  have o51 := ho5.cell_ 1 (v := .int .i64 c.hand) rfl
  have z0 := O5.free (k * 6)
  have z1 := O5.free (k * 6 + 1)
  have z2 := O5.free (k * 6 + 2)
  have z3 := O5.free (k * 6 + 3)
  have z4 := O5.free (k * 6 + 4)
  have z5 := O5.free (k * 6 + 5)
  obtain ⟨bq, oq, eq1, _, y0, y1, y2, y3, y4, y5⟩ := M5.is.ln EX.out
  injection eq1 with eq1
  injection eq1 with eq1 eq2
  subst eq1 eq2
  rw [Nat.zero_add] at y0 y1 y2 y3 y4 y5
  have HM5 := Hd M5
  have HO5 := Hd ho5
  have hne : w2.heap.size ≠ g2 := HO5.out.ne O5 (by decide)
  have hne2 : g2 ≠ w2.heap.size := fun h => hne h.symm
  have hlo := HO5.out.lt
  have q3 : w.heap.size + 1 ≠ g2 := HR5.out.ne O5 (by decide)
  have q4 : g2 ≠ w.heap.size + 1 := fun h => q3 h.symm
  have hlr := HR5.out.lt
  have r0 := HR5.out.cell_ 0 (v := .slice none 0 0) rfl
  have r1 := HR5.out.cell_ 1 (v := .int .i64 0) rfl
  have f0 := HR5.out.free 0
  have f1 := HR5.out.free 1
  have HML := Hd (HM5.out.wln hkl lnz)
  clear M5 O5 ho5
  go_wp2
  have g1 := ((((((HR5.out.far (p := ⟨g2, k * 6, none⟩) (u := .bool false) q3).far (p := ⟨g2, k * 6 + 1, none⟩) (u := .int .i64 0) q3).far (p := ⟨g2, k * 6 + 2, none⟩) (u := .int .i64 0) q3).far (p := ⟨g2, k * 6 + 3, none⟩) (u := .int .i64 0) q3).far (p := ⟨g2, k * 6 + 4, none⟩) (u := .int .i64 0) q3).far (p := ⟨g2, k * 6 + 5, none⟩) (u := .bool false) q3)
  have o3 := (g1.set_ 0 (.slice (some ⟨g2, 0, none⟩) c.ls.length c2)).set_ 1 (.int .i64 c.hand)
  have t0 := o3.cell_ 0 (v := .slice (some ⟨g2, 0, none⟩) c.ls.length c2) rfl
  have t1 := o3.cell_ 1 (v := .int .i64 c.hand) rfl
  refine bodyPost_ret (v := .tuple #[.agg #[.slice (some ⟨g2, 0, none⟩) c.ls.length c2, .int .i64 c.hand], .bool true]) (by simp [results, Tryz.results179, go_sem, t0, t1]) rfl ⟨_, rfl, _, by rw [HD.out, h1], ?_, ?_⟩
  ·rw [HD.out]
   exact (slm_of (by simp) (by simpa using l2) k2 ((HML.out.far (p := ⟨w.heap.size + 1, 0, none⟩) (u := .slice (some ⟨g2, 0, none⟩) c.ls.length c2) hlt1).far (p := ⟨w.heap.size + 1, 1, none⟩) (u := .int .i64 c.hand) hlt1)).mono (by have := HB1.out.size; omega)
  ·repeat (refine bS ?_ (by simp <;> omega))
   exact HB5.out
theorem tagT_ok {m : Ma} (h : tgv m.g = true) (s p : Int) : tagv (tagT m s p) = true := by
 unfold tagT
 split
 ·decide
 ·unfold tgT
  split
  ·rename_i h1
   unfold tgO at h1
   simp only [Bool.and_eq_true, decide_eq_true_eq] at h1
   obtain ⟨k, o, hk, eo, _⟩ := ownI_lt h1.2
   obtain ⟨b, ht⟩ := tgv_parts h
   obtain ⟨q, eq, _, q1, q2, _⟩ := tok_at ht (List.getElem?_eq_some_iff.1 eo).1
   rw [eo] at eq
   injection eq with eq
   subst eq
   rw [hk, Int.toNat_natCast, List.getD_eq_getElem?_getD, eo]
   exact tagv_iff.2 ⟨by simp only [Option.getD_some]; omega, by simp only [Option.getD_some]; omega⟩
  ·decide
def alw (r n : Int) : Bool := inR r 8 && inR n 8 && decide (r.toNat &&& n.toNat = n.toNat)
theorem bits_and {r n : Int} (h1 : inR r 8 = true) (h2 : inR n 8 = true) : bits BinOp.and IntKind.i64 r n = ((r.toNat &&& n.toNat : Nat) : Int) := by
 obtain ⟨a0, a1⟩ := inR_iff.1 h1
 obtain ⟨b0, b1⟩ := inR_iff.1 h2
 have hr : r = 0 ∨ r = 1 ∨ r = 2 ∨ r = 3 ∨ r = 4 ∨ r = 5 ∨ r = 6 ∨ r = 7 := by omega
 have hn : n = 0 ∨ n = 1 ∨ n = 2 ∨ n = 3 ∨ n = 4 ∨ n = 5 ∨ n = 6 ∨ n = 7 := by omega
 rcases hr with rfl | rfl | rfl | rfl | rfl | rfl | rfl | rfl <;> rcases hn with rfl | rfl | rfl | rfl | rfl | rfl | rfl | rfl <;> rfl
theorem sAllows_any (r n : Int) (w : World) : Calls Tryz.prog 231 #[.int .i64 r, .int .i64 n] w fun e w' => e = .returned (.bool (alw r n)) ∧ w = w' := by
 cases h1 : inR r 8 with
 | false =>
  have H : Hid (alw r n = false) := by show _ = _; unfold alw; rw [h1]; rfl
  go_enter Tryz.func231, Tryz.ntmps231
  go_wp2_with fail
  refine (sRightsValid_any _ _).mono ?_
  rintro e w' ⟨rfl, rfl⟩
  rw [h1]
  go_wp2
  go_ret
  exact ⟨by rw [H.out]; rfl, rfl⟩
 | true =>
  cases h2 : inR n 8 with
  | false =>
   have H : Hid (alw r n = false) := by show _ = _; unfold alw; rw [h2, Bool.and_false]; rfl
   go_enter Tryz.func231, Tryz.ntmps231
   go_wp2_with fail
   refine (sRightsValid_any _ _).mono ?_
   rintro e w' ⟨rfl, rfl⟩
   rw [h1]
   go_wp2_with fail
   refine (sRightsValid_any _ _).mono ?_
   rintro e w' ⟨rfl, rfl⟩
   rw [h2]
   go_wp2
   go_ret
   exact ⟨by rw [H.out]; rfl, rfl⟩
  | true =>
   have H : Hid (alw r n = decide (r.toNat &&& n.toNat = n.toNat)) := by show _ = _; unfold alw; rw [h1, h2]; rfl
   go_enter Tryz.func231, Tryz.ntmps231
   go_wp2_with fail
   refine (sRightsValid_any _ _).mono ?_
   rintro e w' ⟨rfl, rfl⟩
   rw [h1]
   go_wp2_with fail
   refine (sRightsValid_any _ _).mono ?_
   rintro e w' ⟨rfl, rfl⟩
   rw [h2]
   have HBT := Hd (bits_and h1 h2)
   go_wp2
   go_ret
   refine ⟨?_, rfl⟩
   rw [H.out]
   show Ending.returned (.bool (bits BinOp.and IntKind.i64 r n == n)) = _
   rw [HBT.out]
   congr 2
   obtain ⟨a0, a1⟩ := inR_iff.1 h2
   rw [Bool.eq_iff_iff, beq_iff_eq, decide_eq_true_eq]
   constructor
   ·intro h; omega
   ·intro h; omega
set_option maxHeartbeats 2000000 in
theorem l4Victim_any (vl : Value) (c : Ca) (w : World) (hT : SlR lnE w vl c.ls) (hv : cav c = true) :
  Calls Tryz.prog 247 #[.agg #[vl, .int .i64 c.hand]] w fun r w' => r = .returned (.int .i64 (vic c)) ∧ Below w.heap.size w w' := by
 have hcv := cav_CV.1 hv
 obtain ⟨A, cc, rfl, hbc, hbm, hL⟩ := hT
 have hfm2 : c.ls.length ≤ 8 := hcv.sz.2
 have HL := Hd hL
 have hbx := Own.new_ w 43 #[.slice A c.ls.length cc, .int .i64 c.hand]
 have hbz : Below w.heap.size w (w.alloc (.cells #[.slice A c.ls.length cc, .int .i64 c.hand] 43)) := bA bR
 generalize hW : w.alloc (.cells #[.slice A c.ls.length cc, .int .i64 c.hand] 43) = W0 at hbx hbz
 have q0 := hbx.cell_ 0 (v := .slice A c.ls.length cc) rfl
 have q1 := hbx.cell_ 1 (v := .int .i64 c.hand) rfl
 have HBX := Hd hbx
 clear hL hbx
 clear q0 q1
 go_enter Tryz.func247, Tryz.ntmps247
 go_wp2
 go_loopw [3] (fun u wr => ∃ k : Nat, k ≤ c.ls.length ∧ u = .int .i64 k ∧ Hid (∀ (j : Nat) (q : Ln), j < k → c.ls[j]? = some q → q.v = true) ∧ Own wr w.heap.size 43 #[.slice A c.ls.length cc, .int .i64 c.hand] ∧ Below w.heap.size w wr) (fun u _ => c.ls.length - (intOf u).toNat)
 case atStart => exact ⟨0, by omega, rfl, (fun j q h => absurd h (by omega)), HBX.out, hbz⟩
 case round =>
  obtain ⟨k, hk, rfl, hacc, hbox, hbi⟩ := hrel
  have q0 := hbox.cell_ 0 (v := .slice A c.ls.length cc) rfl
  have q1 := hbox.cell_ 1 (v := .int .i64 c.hand) rfl
  by_cases hlt : k < c.ls.length
  ·obtain ⟨o, eo⟩ : ∃ o, c.ls[k]? = some o := ⟨_, List.getElem?_eq_getElem hlt⟩
   obtain ⟨b, ob, rfl, hbb, d0, d1, d2, d3, d4, d5⟩ := (HL.out.below hbi).ln eo
   have HBOX := Hd hbox
   have EO := Hd eo
   clear hbox eo d1 d2 d3 d4 d5
   cases ht : o.v with
   | false =>
    rw [ht] at d0
    have H := Hd (vic_free EO.out hacc.out ht)
    go_wp2
    go_ret
    exact ⟨by rw [H.out]; rfl, hbi⟩
   | true =>
    rw [ht] at d0
    have HACC : Hid (∀ (j : Nat) (q : Ln), j < k + 1 → c.ls[j]? = some q → q.v = true) := by
     intro j q hj e
     rcases Nat.lt_or_ge j k with h | h
     ·exact hacc.out j q h e
     ·obtain rfl : j = k := by omega
      have := EO.out
      rw [e] at this
      injection this with this
      rw [this]; exact ht
    go_wp2
    go_roundw
    case rel => exact ⟨k + 1, by omega, by go_num, HACC, HBOX.out, hbi⟩
    case measure => simp [intOf]; omega
  ·obtain rfl : k = c.ls.length := by omega
   have HVI := Hd (vic_full hacc.out)
   have HBOX := Hd hbox
   have HBI := Hd hbi
   have HCV := Hd hcv
   clear hacc
   have hwr := hbi
   obtain ⟨w6, rfl⟩ : ∃ w6, w6 = wr := ⟨_, rfl⟩
   obtain ⟨hh0, hh1⟩ := inR_iff.1 hcv.hand
   have hhn : (c.hand.toNat : Int) = c.hand := Int.toNat_of_nonneg hh0
   go_wp2
   clear q0 q1 hbox hbi
   go_loopg [4] (c.ls.length + 1) (fun g u wi => ∃ (j a : Nat), g = c.ls.length + 1 - j ∧ u = .int .i64 a ∧ Hid (VSt c j a) ∧ Own wi w.heap.size 43 #[.slice A c.ls.length cc, .int .i64 c.hand] ∧ Below w.heap.size w wi)
   case atStart => exact ⟨0, c.hand.toNat, by simp, by rw [hhn], vst_zero HCV.out, HBOX.out, HBI.out⟩
   case round =>
    obtain ⟨j, a, rfl, rfl, hst, hbox, hbi⟩ := hrel
    have hj := vst_lt HCV.out hst.out
    have ha := vst_in HCV.out hst.out
    obtain ⟨x, ex⟩ : ∃ x, c.ls[a]? = some x := ⟨_, List.getElem?_eq_getElem ha⟩
    obtain ⟨b, ob, rfl, hbb, d0, d1, d2, d3, d4, d5⟩ := (HL.out.below hbi).ln ex
    have q0 := hbox.cell_ 0 (v := .slice (some ⟨b, ob, none⟩) c.ls.length cc) rfl
    have HBOXI := Hd hbox
    have EX := Hd ex
    clear hbox d0 d1 d2 d3 d4 ex hwr
    cases hw : x.w with
    | false =>
     rw [hw] at d5
     have H : Hid (vic c = a) := by show _ = _; rw [HVI.out]; exact vst_stop HCV.out hst.out EX.out hw
     go_wp2
     go_ret
     exact ⟨by rw [H.out]; rfl, hbi⟩
    | true =>
     rw [hw] at d5
     have HST := Hd (vst_step HCV.out hst.out EX.out hw)
     clear hst
     go_wp2
     go_roundg (c.ls.length + 1 - (j + 1))
     case measure => omega
     case rel => exact ⟨j + 1, (a + 1) % c.ls.length, rfl, by simp, HST, HBOXI.out, hbi⟩
theorem unmOK_false {t : Tab} {s p : Int} (h : fOK t s p = false) : unmV t s p = tabz := by unfold unmV; rw [h]; rfl
def rl (fs : List Fr) (a n : Int) (i : Nat) : List Fr := (fs.take i).map (relink a n) ++ fs.drop i
theorem rl_zero (fs : List Fr) (a n : Int) : rl fs a n 0 = fs := by simp [rl]
theorem rl_all (fs : List Fr) (a n : Int) : rl fs a n fs.length = fs.map (relink a n) := by simp [rl]
theorem rl_len (fs : List Fr) (a n : Int) (i : Nat) : (rl fs a n i).length = fs.length := by simp [rl]; omega
theorem rl_at {fs : List Fr} {a n : Int} {i : Nat} {f : Fr} (h : fs[i]? = some f) : (rl fs a n i)[i]? = some f := by
 obtain ⟨hlt, _⟩ := List.getElem?_eq_some_iff.1 h
 unfold rl
 rw [List.getElem?_append_right (by simp; omega)]
 simp [Nat.min_eq_left (Nat.le_of_lt hlt), h]
theorem rl_step {fs : List Fr} {a n : Int} {i : Nat} {f : Fr} (h : fs[i]? = some f) : rl fs a n (i + 1) = (rl fs a n i).set i (relink a n f) := by
 obtain ⟨hlt, he⟩ := List.getElem?_eq_some_iff.1 h
 apply List.ext_getElem?
 intro j
 rw [List.getElem?_set]
 unfold rl
 by_cases hj : i = j
 ·subst hj
  rw [if_pos rfl, if_pos (by simp; omega), List.getElem?_append_left (by simp; omega), List.getElem?_map, List.getElem?_take_of_lt (by omega), h]
  rfl
 ·rw [if_neg hj]
  by_cases hj2 : j < i
  ·rw [List.getElem?_append_left (by simp; omega), List.getElem?_append_left (by simp; omega), List.getElem?_map, List.getElem?_map, List.getElem?_take_of_lt (by omega), List.getElem?_take_of_lt (by omega)]
  ·rw [List.getElem?_append_right (by simp; omega), List.getElem?_append_right (by simp; omega), List.getElem?_drop, List.getElem?_drop]
   simp
   congr 1
   omega
end Go.Proofs.YtibpnlojlfcpmaaGreatDoor
