/- A part of the proofs of this seat: Closed, DrpI, DrpS, DrpT, Main, Plr, VicP, VicS. -/
import Derived.Test.YtibpnlojlfcpmaaGreatDoorRows
import Derived.JoinedOf
import Derived.KernelRfl
import Derived.Test.YtibpnlojlfcpmaaGreatDoorCards
import Derived.Deep.LoopGhost
import Derived.Test.YtibpnlojlfcpmaaGreatDoorBPpI
import Derived.Test.YtibpnlojlfcpmaaGreatDoorBKeep
set_option linter.unusedVariables false
set_option linter.unusedSimpArgs false
set_option maxRecDepth 1000000
namespace Go.Proofs.YtibpnlojlfcpmaaGreatDoor
theorem chars_of {s : String} {l : List Char} (h : s = String.ofList l) : s.toList = l := by rw [h, String.toList_ofList]
theorem head_cons {α : Type} {l : List α} {a : α} (h : l.head? = some a) : ∃ r, l = a :: r := by
 cases l with
 | nil => cases h
 | cons x r => exact ⟨r, by injection h with h; rw [h]⟩
theorem strip_cut (rest : List (List Char)) : stripLifts liftWords ("cut".toList :: rest) = ([], "cut".toList :: rest) := by
 simp only [liftWords, stripLifts]
 repeat (rw [if_neg (by decide)])
theorem mayEnter_of {P : Program} {rest : List (List Char)} (hW : behindMainWord (wordsSigns P.initOrder.toList) = "cut".toList :: rest)
  (l1 : P.laysLater = false) (l2 : P.bearsReflect = false) (l3 : P.doorFits [] = true) : P.mayEnter = true := by
 unfold Program.mayEnter
 rw [hW]
 simp only [strip_cut, l1, l2]
 rw [l3]
 have e1 : ("cut".toList == "gc".toList) = false := by decide
 have e2 : ("cut".toList == "spec".toList) = false := by decide
 have e3 : ("cut".toList == "carried".toList) = false := by decide
 have e4 : (("cut".toList :: rest).head? == some "cut".toList) = true := by rw [List.head?_cons]; decide
 rw [e1, e2, e3, e4]
 rfl
theorem lifts_of {P : Program} {r : List (List Char)} (hr : behindMainWord (wordsSigns P.initOrder.toList) = "cut".toList :: r) : P.liftsFinal = false := by
 have e4 : (("cut".toList :: r).head? == some "cut".toList) = true := by rw [List.head?_cons]; decide
 have e5 : (("cut".toList :: r).head? == some "carried".toList) = false := by rw [List.head?_cons]; decide
 unfold Program.liftsFinal Program.headLifts
 rw [hr]
 simp only [strip_cut, e4, e5]
 rfl
theorem make_of {P : Program} {r : List (List Char)} (hr : behindMainWord (wordsSigns P.initOrder.toList) = "cut".toList :: r) : P.make = some .cut := by
 have e1 : ("cut".toList == "gc".toList) = false := by decide
 have e2 : ("cut".toList == "spec".toList) = false := by decide
 have e3 : ("cut".toList == "cut".toList) = true := by decide
 unfold Program.make
 rw [hr]
 simp only [e1, e2, e3, Bool.or_self, Bool.true_or, Bool.false_eq_true, if_false, if_true]
set_option maxRecDepth 100000 in
theorem cut_head : ∃ r, behindMainWord (wordsSigns Tryz.prog.initOrder.toList) = "cut".toList :: r := by
 have h := chars_of (s := Tryz.prog.initOrder) rfl
 have hh : (behindMainWord (wordsSigns Tryz.prog.initOrder.toList)).head? = some "cut".toList := by
  rw [h]
  refine Eq.trans ?_ (Eq.refl _)
  kernel_rfl
 exact head_cons hh
theorem may_enter : Tryz.prog.mayEnter = true := by
 obtain ⟨r, hr⟩ := cut_head
 exact mayEnter_of hr (by kernel_rfl) (by kernel_rfl) (by kernel_rfl)
theorem lifts_final : Tryz.prog.liftsFinal = false := by
 obtain ⟨r, hr⟩ := cut_head
 exact lifts_of hr
theorem make_cut : Tryz.prog.make = some .cut := by
 obtain ⟨r, hr⟩ := cut_head
 exact make_of hr
end Go.Proofs.YtibpnlojlfcpmaaGreatDoor
namespace Go.Proofs.YtibpnlojlfcpmaaGreatDoor
open Go.RowKit
theorem bool_iff {a b : Bool} (h : a = true ↔ b = true) : a = b := by cases a <;> cases b <;> simp_all
theorem vf_step {ls : List Ln} {k a : Nat} {x : Ln} (e : ls[a]? = some x) (h : x.w = true) : vicFrom ls (k + 1) a = vicFrom ls k ((a + 1) % ls.length) := by
 rw [vicFrom, e]
 simp only [h, if_true]
theorem vf_stop {ls : List Ln} {k a : Nat} {x : Ln} (e : ls[a]? = some x) (h : x.w = false) : vicFrom ls (k + 1) a = a := by
 rw [vicFrom, e]
 simp [h]
def VSt (c : Ca) (j a : Nat) : Prop := a = (c.hand.toNat + j) % c.ls.length ∧ j ≤ c.ls.length ∧ vicFrom c.ls c.ls.length c.hand.toNat = vicFrom c.ls (c.ls.length - j) a ∧ ∀ i, i < j → ∃ x : Ln, c.ls[(c.hand.toNat + i) % c.ls.length]? = some x ∧ x.w = true
theorem vst_zero {c : Ca} (h : CV c) : VSt c 0 c.hand.toNat := by
 obtain ⟨h1, h2⟩ := inR_iff.1 h.hand
 exact ⟨by rw [Nat.add_zero, Nat.mod_eq_of_lt (by omega)], Nat.zero_le _, rfl, fun i hi => absurd hi (by omega)⟩
theorem vst_lt {c : Ca} (h : CV c) {j a : Nat} (hs : VSt c j a) : j < c.ls.length := by
 obtain ⟨_, h2, _, h4⟩ := hs
 rcases Nat.lt_or_ge j c.ls.length with hlt | hge
 ·exact hlt
 ·exfalso
  obtain ⟨i, x, e, hw⟩ := h.loose
  have hi := (List.getElem?_eq_some_iff.1 e).1
  have hn : 0 < c.ls.length := by omega
  let q := (i + c.ls.length * (c.hand.toNat + 1) - c.hand.toNat) % c.ls.length
  have hle : c.hand.toNat ≤ c.ls.length * (c.hand.toNat + 1) := Nat.le_trans (Nat.le_succ _) (Nat.le_mul_of_pos_left _ hn)
  have hq : q < c.ls.length := Nat.mod_lt _ hn
  have hqi : (c.hand.toNat + q) % c.ls.length = i := by
   show (c.hand.toNat + (i + c.ls.length * (c.hand.toNat + 1) - c.hand.toNat) % c.ls.length) % c.ls.length = i
   rw [Nat.add_mod_mod, show c.hand.toNat + (i + c.ls.length * (c.hand.toNat + 1) - c.hand.toNat) = i + c.ls.length * (c.hand.toNat + 1) by omega, Nat.add_mul_mod_self_left, Nat.mod_eq_of_lt hi]
  obtain ⟨y, e2, hy⟩ := h4 q (by omega)
  rw [hqi, e] at e2
  injection e2 with e2
  rw [← e2, hw] at hy
  cases hy
theorem vst_in {c : Ca} (h : CV c) {j a : Nat} (hs : VSt c j a) : a < c.ls.length := by
 rw [hs.1]
 exact Nat.mod_lt _ (by have := h.sz; omega)
theorem vst_step {c : Ca} (h : CV c) {j a : Nat} {x : Ln} (hs : VSt c j a) (e : c.ls[a]? = some x) (hw : x.w = true) : VSt c (j + 1) ((a + 1) % c.ls.length) := by
 have hj := vst_lt h hs
 obtain ⟨h1, h2, h3, h4⟩ := hs
 refine ⟨by rw [h1, Nat.mod_add_mod, Nat.add_assoc], hj, ?_, fun i hi => ?_⟩
 ·rw [h3, show c.ls.length - j = (c.ls.length - (j + 1)) + 1 by omega]
  exact vf_step e hw
 ·rcases Nat.lt_or_ge i j with hlt | hge
  ·exact h4 i hlt
  ·obtain rfl : i = j := by omega
   exact ⟨x, by rw [← h1]; exact e, hw⟩
theorem vst_stop {c : Ca} (h : CV c) {j a : Nat} {x : Ln} (hs : VSt c j a) (e : c.ls[a]? = some x) (hw : x.w = false) : vicFrom c.ls c.ls.length c.hand.toNat = a := by
 have hj := vst_lt h hs
 rw [hs.2.2.1, show c.ls.length - j = (c.ls.length - (j + 1)) + 1 by omega]
 exact vf_stop e hw
theorem vic_free {c : Ca} {k : Nat} {x : Ln} (e : c.ls[k]? = some x) (h : ∀ (j : Nat) (y : Ln), j < k → c.ls[j]? = some y → y.v = true) (hx : x.v = false) : vic c = k := by
 have : c.ls.findIdx? (fun x => !x.v) = some k := by
  rw [List.findIdx?_eq_some_iff_getElem]
  obtain ⟨hlt, he⟩ := List.getElem?_eq_some_iff.1 e
  refine ⟨hlt, by rw [he, hx]; rfl, fun j hj => ?_⟩
  rw [h j c.ls[j] hj (List.getElem?_eq_getElem (by omega))]
  decide
 unfold vic
 rw [this]
theorem vic_full {c : Ca} (h : ∀ (j : Nat) (y : Ln), j < c.ls.length → c.ls[j]? = some y → y.v = true) : vic c = vicFrom c.ls c.ls.length c.hand.toNat := by
 have : c.ls.findIdx? (fun x => !x.v) = none := by
  rw [List.findIdx?_eq_none_iff]
  intro x hx
  obtain ⟨j, hj, e⟩ := List.getElem_of_mem hx
  rw [h j x hj (by rw [List.getElem?_eq_getElem hj, e])]
  rfl
 unfold vic
 rw [this]
theorem vf_in {ls : List Ln} (hn : 0 < ls.length) : ∀ {k a : Nat}, a < ls.length → vicFrom ls k a < ls.length
  | 0, a, h => h
  | k + 1, a, h => by
    cases e : ls[a]? with
    | none => rw [vicFrom, e]; exact h
    | some x =>
      cases hw : x.w with
      | true => rw [vf_step e hw]; exact vf_in hn (Nat.mod_lt _ hn)
      | false => rw [vf_stop e hw]; exact h
theorem vic_in {c : Ca} (h : CV c) : vic c < c.ls.length := by
 unfold vic
 cases e : c.ls.findIdx? (fun x => !x.v) with
 | some i => exact (List.findIdx?_eq_some_iff_getElem.1 e).1
 | none =>
  obtain ⟨h1, h2⟩ := inR_iff.1 h.hand
  exact vf_in (by have := h.sz; omega) (by omega)
theorem CV.fill {c : Ca} (h : CV c) {x : Ln} (hx : lnok x = true) (hw : x.w = false) (hc : ∀ (i : Nat) (y : Ln), c.ls[i]? = some y → clash x y = false) : CV (filC c x) := by
 have hv := vic_in h
 have hn := h.sz
 refine ⟨by simpa [filC] using hn, ?_, fun i y hi => ?_, fun i j y z hij hi hj => ?_, ⟨vic c, x, by simp only [filC]; rw [List.getElem?_set, if_pos rfl, if_pos hv], hw⟩⟩
 ·simp only [filC, List.length_set]
  cases e : c.ls[vic c]? with
  | none => exact h.hand
  | some y =>
   simp only
   split
   ·exact inR_iff.2 ⟨Int.emod_nonneg _ (by omega), Int.emod_lt_of_pos _ (by omega)⟩
   ·exact h.hand
 ·simp only [filC] at hi
  rw [List.getElem?_set] at hi
  split at hi
  ·injection hi with hi
   rw [← hi]; exact hx
  ·exact h.ok i y hi
 ·simp only [filC] at hi hj
  rw [List.getElem?_set] at hi hj
  split at hi
  ·rename_i h1
   injection hi with hi
   rw [if_neg (by omega)] at hj
   rw [← hi]; exact hc j z hj
  ·split at hj
   ·injection hj with hj
    rw [← hj, clash_symm]; exact hc i y hi
   ·exact h.cl i j y z hij hi hj
theorem Own.ne {w : World} {g g2 : Nat} {t t2 : TypeId} {cs cs2 : Array Value} (h : Own w g t cs) (h2 : Own w g2 t2 cs2) (hne : t ≠ t2) : g ≠ g2 := by
 rintro rfl
 unfold Own at h h2
 rw [h] at h2
 injection h2 with h2
 injection h2 with _ h2
 exact hne h2
set_option maxHeartbeats 2000000 in
theorem MineE.wln {e : TypeId} {B : Nat} {w : World} {g : Nat} {l : List Ln} (h : MineE lnE e B w (some ⟨g, 0, none⟩) l) {k : Nat} (hk : k < l.length) (x : Ln) :
  MineE lnE e B ((((((w.setCell ⟨g, k * 6, none⟩ (.bool x.v)).setCell ⟨g, k * 6 + 1, none⟩ (.int .i64 x.t)).setCell ⟨g, k * 6 + 2, none⟩ (.int .i64 x.p)).setCell ⟨g, k * 6 + 3, none⟩ (.int .i64 x.f)).setCell ⟨g, k * 6 + 4, none⟩ (.int .i64 x.r)).setCell ⟨g, k * 6 + 5, none⟩ (.bool x.w)) (some ⟨g, 0, none⟩) (l.set k x) := by
 obtain ⟨g2, cs, e1, hB, ho, hs⟩ := h.own (by omega)
 injection e1 with e1
 injection e1 with e1
 subst e1
 have hs2 : l.length * 6 ≤ cs.size := by simpa [lnE] using hs
 refine h.write ho ((((((ho.set_ (k * 6) _).set_ (k * 6 + 1) _).set_ (k * 6 + 2) _).set_ (k * 6 + 3) _).set_ (k * 6 + 4) _).set_ (k * 6 + 5) _) (by simp) hk x (fun j u hj => ?_) (fun i hi => ?_)
 ·simp only [lnE] at hj ⊢
  match j, hj with
  | 0, hj => simp at hj; subst hj; simp [Array.getElem?_setIfInBounds]; omega
  | 1, hj => simp at hj; subst hj; simp [Array.getElem?_setIfInBounds]; omega
  | 2, hj => simp at hj; subst hj; simp [Array.getElem?_setIfInBounds]; omega
  | 3, hj => simp at hj; subst hj; simp [Array.getElem?_setIfInBounds]; omega
  | 4, hj => simp at hj; subst hj; simp [Array.getElem?_setIfInBounds]; omega
  | 5, hj => simp at hj; subst hj; simp [Array.getElem?_setIfInBounds]; omega
  | j + 6, hj => simp at hj
 ·simp only [lnE] at hi
  rw [Array.getElem?_setIfInBounds, if_neg (by omega), Array.getElem?_setIfInBounds, if_neg (by omega), Array.getElem?_setIfInBounds, if_neg (by omega), Array.getElem?_setIfInBounds, if_neg (by omega), Array.getElem?_setIfInBounds, if_neg (by omega), Array.getElem?_setIfInBounds, if_neg (by omega)]
theorem SlM.own_ {α : Type} {E : Enc α} {e : TypeId} {B : Nat} {w : World} {A : Option Addr} {n c : Nat} {l : List α} (h : SlM E e B w (.slice A n c) l) : MineE E e B w A l ∧ n = l.length ∧ l.length ≤ c ∧ c ≤ maxLen := by
 obtain ⟨A', c', h1, h2, h3, h4⟩ := h
 injection h1 with h1 h5 h6
 subst h1 h6
 exact ⟨h4, h5, h2, h3⟩
theorem l4Fits_any (f : Ln) (tag page : Int) (w : World) : Calls Tryz.prog 244 #[lnV f, .int .i64 tag, .int .i64 page] w fun r w' => r = .returned (.bool (fits tag page f)) ∧ Below w.heap.size w w' := by
 unfold lnV
 cases hv : f.v with
 | false =>
  have H : Hid (fits tag page f = false) := by simp [Hid, fits, hv]
  go_enter Tryz.func244, Tryz.ntmps244
  go_wp2
  go_ret
  exact ⟨by rw [H.out]; rfl, bA bR⟩
 | true =>
  by_cases hp : f.p = page
  ·by_cases ht : f.t = tag
   ·have H : Hid (fits tag page f = true) := by simp [Hid, fits, hv, hp, ht]
    go_enter Tryz.func244, Tryz.ntmps244
    go_wp2
    go_ret
    exact ⟨by rw [H.out]; rfl, bA bR⟩
   ·have H : Hid (fits tag page f = (f.t == tag || f.t == -1)) := by
     show _ = _
     rw [beq_eq_false_iff_ne.2 ht, Bool.false_or]
     simp [fits, hv, hp, ht]
     by_cases h : f.t = -1 <;> simp [h]
    go_enter Tryz.func244, Tryz.ntmps244
    go_wp2
    go_ret
    exact ⟨by rw [H.out]; rfl, bA bR⟩
  ·have H : Hid (fits tag page f = false) := by simp [Hid, fits, hp]
   go_enter Tryz.func244, Tryz.ntmps244
   go_wp2
   go_ret
   exact ⟨by rw [H.out]; rfl, bA bR⟩
set_option maxHeartbeats 2000000 in
theorem l4Find_any (vl : Value) (c : Ca) (tag page : Int) (w : World) (hT : SlR lnE w vl c.ls) :
  Calls Tryz.prog 229 #[.agg #[vl, .int .i64 c.hand], .int .i64 tag, .int .i64 page] w fun r w' => r = .returned (.int .i64 (plcI c.ls tag page)) ∧ Below w.heap.size w w' := by
 obtain ⟨A, cc, rfl, hbc, hbm, hL⟩ := hT
 have hfm2 : c.ls.length ≤ 9223372036854775807 := by unfold maxLen at hbm; omega
 have HL := Hd hL
 have hbx := Own.new_ w 43 #[.slice A c.ls.length cc, .int .i64 c.hand]
 have hbz : Below w.heap.size w (w.alloc (.cells #[.slice A c.ls.length cc, .int .i64 c.hand] 43)) := bA bR
 generalize hW : w.alloc (.cells #[.slice A c.ls.length cc, .int .i64 c.hand] 43) = W0 at hbx hbz
 have q0 := hbx.cell_ 0 (v := .slice A c.ls.length cc) rfl
 have q1 := hbx.cell_ 1 (v := .int .i64 c.hand) rfl
 have HBX := Hd hbx
 clear hL hbx
 clear q0 q1
 rw [← pix_plc]
 go_enter Tryz.func229, Tryz.ntmps229
 go_wp2
 go_loopw [7] (fun u wr => ∃ k : Nat, k ≤ c.ls.length ∧ u = .int .i64 k ∧ Hid (∀ (j : Nat) (q : Ln), j < k → c.ls[j]? = some q → fits tag page q = false) ∧ Own wr w.heap.size 43 #[.slice A c.ls.length cc, .int .i64 c.hand] ∧ Below w.heap.size w wr) (fun u _ => c.ls.length - (intOf u).toNat)
 case atStart => exact ⟨0, by omega, rfl, (fun j q h => absurd h (by omega)), HBX.out, hbz⟩
 case round =>
  obtain ⟨k, hk, rfl, hacc, hbox, hbi⟩ := hrel
  have q0 := hbox.cell_ 0 (v := .slice A c.ls.length cc) rfl
  by_cases hlt : k < c.ls.length
  ·obtain ⟨o, eo⟩ : ∃ o, c.ls[k]? = some o := ⟨_, List.getElem?_eq_getElem hlt⟩
   obtain ⟨b, ob, rfl, hbb, d0, d1, d2, d3, d4, d5⟩ := (HL.out.below hbi).ln eo
   have HBOX := Hd hbox
   have EO := Hd eo
   clear hbox eo
   go_wp2_with fail
   refine (l4Fits_any o tag page _).mono ?_
   rintro e w2 ⟨rfl, hb2⟩
   have HB2 := Hd (bT hbi hb2)
   have HBOX2 := Hd (HBOX.out.below hb2)
   clear hb2 q0 d0 d1 d2 d3 d4 d5
   cases ht : fits tag page o with
   | true =>
    have H := Hd (pix_at EO.out hacc.out ht)
    go_wp2
    go_ret
    exact ⟨by rw [H.out]; rfl, HB2.out⟩
   | false =>
    have HACC := Hd (pix_step EO.out hacc.out ht)
    go_wp2
    go_roundw
    case rel => exact ⟨k + 1, by omega, by go_num, HACC, HBOX2.out, HB2.out⟩
    case measure => simp [intOf]; omega
  ·have H := Hd (pix_none (Nat.le_of_not_lt hlt) hacc.out)
   clear hbox
   go_wp2
   go_ret
   exact ⟨by rw [H.out]; rfl, hbi⟩
theorem tagT_ok {m : Ma} (h : tgv m.g = true) (s p : Int) : tagv (tagT m s p) = true := by
 unfold tagT
 split
 ·decide
 ·unfold tgT
  split
  ·rename_i h1
   unfold tgO at h1
   simp only [Bool.and_eq_true, decide_eq_true_eq] at h1
   obtain ⟨k, o, hk, eo, _⟩ := ownI_lt h1.2
   obtain ⟨b, ht⟩ := tgv_parts h
   obtain ⟨q, eq, _, q1, q2, _⟩ := tok_at ht (List.getElem?_eq_some_iff.1 eo).1
   rw [eo] at eq
   injection eq with eq
   subst eq
   rw [hk, Int.toNat_natCast, List.getD_eq_getElem?_getD, eo]
   exact tagv_iff.2 ⟨by simp only [Option.getD_some]; omega, by simp only [Option.getD_some]; omega⟩
  ·decide
def alw (r n : Int) : Bool := inR r 8 && inR n 8 && decide (r.toNat &&& n.toNat = n.toNat)
theorem bits_and {r n : Int} (h1 : inR r 8 = true) (h2 : inR n 8 = true) : bits BinOp.and IntKind.i64 r n = ((r.toNat &&& n.toNat : Nat) : Int) := by
 obtain ⟨a0, a1⟩ := inR_iff.1 h1
 obtain ⟨b0, b1⟩ := inR_iff.1 h2
 have hr : r = 0 ∨ r = 1 ∨ r = 2 ∨ r = 3 ∨ r = 4 ∨ r = 5 ∨ r = 6 ∨ r = 7 := by omega
 have hn : n = 0 ∨ n = 1 ∨ n = 2 ∨ n = 3 ∨ n = 4 ∨ n = 5 ∨ n = 6 ∨ n = 7 := by omega
 rcases hr with rfl | rfl | rfl | rfl | rfl | rfl | rfl | rfl <;> rcases hn with rfl | rfl | rfl | rfl | rfl | rfl | rfl | rfl <;> rfl
theorem bits_andNot {r n : Int} (h1 : inR r 8 = true) (h2 : inR n 8 = true) : (bits BinOp.andNot IntKind.i64 n r == 0) = decide (r.toNat &&& n.toNat = n.toNat) := by
 obtain ⟨a0, a1⟩ := inR_iff.1 h1
 obtain ⟨b0, b1⟩ := inR_iff.1 h2
 have hr : r = 0 ∨ r = 1 ∨ r = 2 ∨ r = 3 ∨ r = 4 ∨ r = 5 ∨ r = 6 ∨ r = 7 := by omega
 have hn : n = 0 ∨ n = 1 ∨ n = 2 ∨ n = 3 ∨ n = 4 ∨ n = 5 ∨ n = 6 ∨ n = 7 := by omega
 rcases hr with rfl | rfl | rfl | rfl | rfl | rfl | rfl | rfl <;> rcases hn with rfl | rfl | rfl | rfl | rfl | rfl | rfl | rfl <;> rfl
theorem sAllows_any (r n : Int) (w : World) : Calls Tryz.prog 231 #[.int .i64 r, .int .i64 n] w fun e w' => e = .returned (.bool (alw r n)) ∧ w = w' := by
 cases h1 : inR r 8 with
 | false =>
  have H : Hid (alw r n = false) := by show _ = _; unfold alw; rw [h1]; rfl
  go_enter Tryz.func231, Tryz.ntmps231
  go_wp2_with fail
  refine (sRightsValid_any _ _).mono ?_
  rintro e w' ⟨rfl, rfl⟩
  rw [h1]
  go_wp2
  go_ret
  exact ⟨by rw [H.out]; rfl, rfl⟩
 | true =>
  cases h2 : inR n 8 with
  | false =>
   have H : Hid (alw r n = false) := by show _ = _; unfold alw; rw [h2, Bool.and_false]; rfl
   go_enter Tryz.func231, Tryz.ntmps231
   go_wp2_with fail
   refine (sRightsValid_any _ _).mono ?_
   rintro e w' ⟨rfl, rfl⟩
   rw [h1]
   go_wp2_with fail
   refine (sRightsValid_any _ _).mono ?_
   rintro e w' ⟨rfl, rfl⟩
   rw [h2]
   go_wp2
   go_ret
   exact ⟨by rw [H.out]; rfl, rfl⟩
  | true =>
   have H : Hid (alw r n = decide (r.toNat &&& n.toNat = n.toNat)) := by show _ = _; unfold alw; rw [h1, h2]; rfl
   go_enter Tryz.func231, Tryz.ntmps231
   go_wp2_with fail
   refine (sRightsValid_any _ _).mono ?_
   rintro e w' ⟨rfl, rfl⟩
   rw [h1]
   go_wp2_with fail
   refine (sRightsValid_any _ _).mono ?_
   rintro e w' ⟨rfl, rfl⟩
   rw [h2]
   have HBT := Hd (bits_and h1 h2)
   go_wp2
   go_ret
   refine ⟨?_, rfl⟩
   rw [H.out]
   show Ending.returned (.bool (bits BinOp.and IntKind.i64 r n == n)) = _
   rw [HBT.out]
   congr 2
   obtain ⟨a0, a1⟩ := inR_iff.1 h2
   rw [Bool.eq_iff_iff, beq_iff_eq, decide_eq_true_eq]
   constructor
   ·intro h; omega
   ·intro h; omega
set_option maxHeartbeats 2000000 in
theorem l4Victim_any (vl : Value) (c : Ca) (w : World) (hT : SlR lnE w vl c.ls) (hv : cav c = true) :
  Calls Tryz.prog 247 #[.agg #[vl, .int .i64 c.hand]] w fun r w' => r = .returned (.int .i64 (vic c)) ∧ Below w.heap.size w w' := by
 have hcv := cav_CV.1 hv
 obtain ⟨A, cc, rfl, hbc, hbm, hL⟩ := hT
 have hfm2 : c.ls.length ≤ 8 := hcv.sz.2
 have HL := Hd hL
 have hbx := Own.new_ w 43 #[.slice A c.ls.length cc, .int .i64 c.hand]
 have hbz : Below w.heap.size w (w.alloc (.cells #[.slice A c.ls.length cc, .int .i64 c.hand] 43)) := bA bR
 generalize hW : w.alloc (.cells #[.slice A c.ls.length cc, .int .i64 c.hand] 43) = W0 at hbx hbz
 have q0 := hbx.cell_ 0 (v := .slice A c.ls.length cc) rfl
 have q1 := hbx.cell_ 1 (v := .int .i64 c.hand) rfl
 have HBX := Hd hbx
 clear hL hbx
 clear q0 q1
 go_enter Tryz.func247, Tryz.ntmps247
 go_wp2
 go_loopw [3] (fun u wr => ∃ k : Nat, k ≤ c.ls.length ∧ u = .int .i64 k ∧ Hid (∀ (j : Nat) (q : Ln), j < k → c.ls[j]? = some q → q.v = true) ∧ Own wr w.heap.size 43 #[.slice A c.ls.length cc, .int .i64 c.hand] ∧ Below w.heap.size w wr) (fun u _ => c.ls.length - (intOf u).toNat)
 case atStart => exact ⟨0, by omega, rfl, (fun j q h => absurd h (by omega)), HBX.out, hbz⟩
 case round =>
  obtain ⟨k, hk, rfl, hacc, hbox, hbi⟩ := hrel
  have q0 := hbox.cell_ 0 (v := .slice A c.ls.length cc) rfl
  have q1 := hbox.cell_ 1 (v := .int .i64 c.hand) rfl
  by_cases hlt : k < c.ls.length
  ·obtain ⟨o, eo⟩ : ∃ o, c.ls[k]? = some o := ⟨_, List.getElem?_eq_getElem hlt⟩
   obtain ⟨b, ob, rfl, hbb, d0, d1, d2, d3, d4, d5⟩ := (HL.out.below hbi).ln eo
   have HBOX := Hd hbox
   have EO := Hd eo
   clear hbox eo d1 d2 d3 d4 d5
   cases ht : o.v with
   | false =>
    rw [ht] at d0
    have H := Hd (vic_free EO.out hacc.out ht)
    go_wp2
    go_ret
    exact ⟨by rw [H.out]; rfl, hbi⟩
   | true =>
    rw [ht] at d0
    have HACC : Hid (∀ (j : Nat) (q : Ln), j < k + 1 → c.ls[j]? = some q → q.v = true) := by
     intro j q hj e
     rcases Nat.lt_or_ge j k with h | h
     ·exact hacc.out j q h e
     ·obtain rfl : j = k := by omega
      have := EO.out
      rw [e] at this
      injection this with this
      rw [this]; exact ht
    go_wp2
    go_roundw
    case rel => exact ⟨k + 1, by omega, by go_num, HACC, HBOX.out, hbi⟩
    case measure => simp [intOf]; omega
  ·obtain rfl : k = c.ls.length := by omega
   have HVI := Hd (vic_full hacc.out)
   have HBOX := Hd hbox
   have HBI := Hd hbi
   have HCV := Hd hcv
   clear hacc
   have hwr := hbi
   obtain ⟨w6, rfl⟩ : ∃ w6, w6 = wr := ⟨_, rfl⟩
   obtain ⟨hh0, hh1⟩ := inR_iff.1 hcv.hand
   have hhn : (c.hand.toNat : Int) = c.hand := Int.toNat_of_nonneg hh0
   go_wp2
   clear q0 q1 hbox hbi
   go_loopg [4] (c.ls.length + 1) (fun g u wi => ∃ (j a : Nat), g = c.ls.length + 1 - j ∧ u = .int .i64 a ∧ Hid (VSt c j a) ∧ Own wi w.heap.size 43 #[.slice A c.ls.length cc, .int .i64 c.hand] ∧ Below w.heap.size w wi)
   case atStart => exact ⟨0, c.hand.toNat, by simp, by rw [hhn], vst_zero HCV.out, HBOX.out, HBI.out⟩
   case round =>
    obtain ⟨j, a, rfl, rfl, hst, hbox, hbi⟩ := hrel
    have hj := vst_lt HCV.out hst.out
    have ha := vst_in HCV.out hst.out
    obtain ⟨x, ex⟩ : ∃ x, c.ls[a]? = some x := ⟨_, List.getElem?_eq_getElem ha⟩
    obtain ⟨b, ob, rfl, hbb, d0, d1, d2, d3, d4, d5⟩ := (HL.out.below hbi).ln ex
    have q0 := hbox.cell_ 0 (v := .slice (some ⟨b, ob, none⟩) c.ls.length cc) rfl
    have HBOXI := Hd hbox
    have EX := Hd ex
    clear hbox d0 d1 d2 d3 d4 ex hwr
    cases hw : x.w with
    | false =>
     rw [hw] at d5
     have H : Hid (vic c = a) := by show _ = _; rw [HVI.out]; exact vst_stop HCV.out hst.out EX.out hw
     go_wp2
     go_ret
     exact ⟨by rw [H.out]; rfl, hbi⟩
    | true =>
     rw [hw] at d5
     have HST := Hd (vst_step HCV.out hst.out EX.out hw)
     clear hst
     go_wp2
     go_roundg (c.ls.length + 1 - (j + 1))
     case measure => omega
     case rel => exact ⟨j + 1, (a + 1) % c.ls.length, rfl, by simp, HST, HBOXI.out, hbi⟩
end Go.Proofs.YtibpnlojlfcpmaaGreatDoor
namespace Go.Proofs.YtibpnlojlfcpmaaGreatDoor
set_option maxRecDepth 100000
theorem main_is : Tryz.prog.mainIs = some (true, ("5c12a013e767b7d7993c24608ee13d81065f8539567c873b3649a7c62dbebb2b" : String).toList) := by
 have h := chars_of (s := Tryz.prog.initOrder) rfl
 unfold Program.mainIs
 rw [h]
 refine Eq.trans ?_ (Eq.refl _)
 kernel_rfl
end Go.Proofs.YtibpnlojlfcpmaaGreatDoor
