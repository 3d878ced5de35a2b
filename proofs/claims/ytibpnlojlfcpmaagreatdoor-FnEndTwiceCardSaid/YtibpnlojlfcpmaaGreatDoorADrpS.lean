/- A part of the proofs of this seat: DrpS, TkI, UnmI. -/
import Derived.Test.YtibpnlojlfcpmaaGreatDoorACp6
set_option linter.unusedVariables false
set_option linter.unusedSimpArgs false
set_option maxRecDepth 1000000
namespace Go.Proofs.YtibpnlojlfcpmaaGreatDoor
open Go.RowKit
theorem l4Fits_any (f : Ln) (tag page : Int) (w : World) : Calls Tryz.prog 244 #[lnV f, .int .i64 tag, .int .i64 page] w fun r w' => r = .returned (.bool (fits tag page f)) ∧ Below w.heap.size w w' := by
 unfold lnV
 cases hv : f.v with
 | false =>
  have H : Hid (fits tag page f = false) := by simp [Hid, fits, hv]
  go_enter Tryz.func244, Tryz.ntmps244
  go_wp2
  go_ret
  exact ⟨by rw [H.out]; rfl, bA bR⟩
 | true =>
  by_cases hp : f.p = page
  ·by_cases ht : f.t = tag
   ·have H : Hid (fits tag page f = true) := by simp [Hid, fits, hv, hp, ht]
    go_enter Tryz.func244, Tryz.ntmps244
    go_wp2
    go_ret
    exact ⟨by rw [H.out]; rfl, bA bR⟩
   ·have H : Hid (fits tag page f = (f.t == tag || f.t == -1)) := by
     show _ = _
     rw [beq_eq_false_iff_ne.2 ht, Bool.false_or]
     simp [fits, hv, hp, ht]
     by_cases h : f.t = -1 <;> simp [h]
    go_enter Tryz.func244, Tryz.ntmps244
    go_wp2
    go_ret
    exact ⟨by rw [H.out]; rfl, bA bR⟩
  ·have H : Hid (fits tag page f = false) := by simp [Hid, fits, hp]
   go_enter Tryz.func244, Tryz.ntmps244
   go_wp2
   go_ret
   exact ⟨by rw [H.out]; rfl, bA bR⟩
set_option maxHeartbeats 2000000 in
theorem l4Find_any (vl : Value) (c : Ca) (tag page : Int) (w : World) (hT : SlR lnE w vl c.ls) :
  Calls Tryz.prog 229 #[.agg #[vl, .int .i64 c.hand], .int .i64 tag, .int .i64 page] w fun r w' => r = .returned (.int .i64 (plcI c.ls tag page)) ∧ Below w.heap.size w w' := by
 obtain ⟨A, cc, rfl, hbc, hbm, hL⟩ := hT
 have hfm2 : c.ls.length ≤ 9223372036854775807 := by unfold maxLen at hbm; omega
 have HL := Hd hL
 have hbx := Own.new_ w 43 #[.slice A c.ls.length cc, .int .i64 c.hand]
 have hbz : Below w.heap.size w (w.alloc (.cells #[.slice A c.ls.length cc, .int .i64 c.hand] 43)) := bA bR
 generalize hW : w.alloc (.cells #[.slice A c.ls.length cc, .int .i64 c.hand] 43) = W0 at hbx hbz
 have q0 := hbx.cell_ 0 (v := .slice A c.ls.length cc) rfl
 have q1 := hbx.cell_ 1 (v := .int .i64 c.hand) rfl
 have HBX := Hd hbx
 clear hL hbx
 clear q0 q1
 rw [← pix_plc]
 go_enter Tryz.func229, Tryz.ntmps229
 go_wp2
 go_loopw [7] (fun u wr => ∃ k : Nat, k ≤ c.ls.length ∧ u = .int .i64 k ∧ Hid (∀ (j : Nat) (q : Ln), j < k → c.ls[j]? = some q → fits tag page q = false) ∧ Own wr w.heap.size 43 #[.slice A c.ls.length cc, .int .i64 c.hand] ∧ Below w.heap.size w wr) (fun u _ => c.ls.length - (intOf u).toNat)
 case atStart => exact ⟨0, by omega, rfl, (fun j q h => absurd h (by omega)), HBX.out, hbz⟩
 case round =>
  obtain ⟨k, hk, rfl, hacc, hbox, hbi⟩ := hrel
  have q0 := hbox.cell_ 0 (v := .slice A c.ls.length cc) rfl
  by_cases hlt : k < c.ls.length
  ·obtain ⟨o, eo⟩ : ∃ o, c.ls[k]? = some o := ⟨_, List.getElem?_eq_getElem hlt⟩
   obtain ⟨b, ob, rfl, hbb, d0, d1, d2, d3, d4, d5⟩ := (HL.out.below hbi).ln eo
   have HBOX := Hd hbox
   have EO := Hd eo
   clear hbox eo
   go_wp2_with fail
   refine (l4Fits_any o tag page _).mono ?_
   rintro e w2 ⟨rfl, hb2⟩
   have HB2 := Hd (bT hbi hb2)
   have HBOX2 := Hd (HBOX.out.below hb2)
   clear hb2 q0 d0 d1 d2 d3 d4 d5
   cases ht : fits tag page o with
   | true =>
    have H := Hd (pix_at EO.out hacc.out ht)
    go_wp2
    go_ret
    exact ⟨by rw [H.out]; rfl, HB2.out⟩
   | false =>
    have HACC := Hd (pix_step EO.out hacc.out ht)
    go_wp2
    go_roundw
    case rel => exact ⟨k + 1, by omega, by go_num, HACC, HBOX2.out, HB2.out⟩
    case measure => simp [intOf]; omega
  ·have H := Hd (pix_none (Nat.le_of_not_lt hlt) hacc.out)
   clear hbox
   go_wp2
   go_ret
   exact ⟨by rw [H.out]; rfl, hbi⟩
theorem l4Tag_any (n : Int) (w : World) : Calls Tryz.prog 242 #[.int .i64 n] w fun r w' => r = .returned (.bool (tagv n)) ∧ w = w' := by
 by_cases h1 : -1 ≤ n
 ·by_cases h2 : n < 8
  ·have H := Hd (tagv_iff.2 ⟨h1, h2⟩)
   go_enter Tryz.func242, Tryz.ntmps242
   go_wp2
   go_ret
   exact ⟨by rw [H.out]; rfl, rfl⟩
  ·have H := Hd (tagv_no (n := n) (fun h => h2 h.2))
   go_enter Tryz.func242, Tryz.ntmps242
   go_wp2
   go_ret
   exact ⟨by rw [H.out]; rfl, rfl⟩
 ·have H := Hd (tagv_no (n := n) (fun h => h1 h.1))
  go_enter Tryz.func242, Tryz.ntmps242
  go_wp2
  go_ret
  exact ⟨by rw [H.out]; rfl, rfl⟩
def dpO (c : Ca) (t p : Int) : Bool := cav c && tagv t && inR p 256 && decide (0 ≤ plcI c.ls t p)
def dpV (c : Ca) (t p : Int) : Ca := if dpO c t p = true then ⟨c.ls.set (plcI c.ls t p).toNat lnz, c.hand⟩ else caz
def flV (c : Ca) (t p : Int) : Int := if dpO c t p = true then plcI c.ls t p else 0
theorem flV_no {c : Ca} {t p : Int} (h : dpO c t p = false) : flV c t p = 0 := by unfold flV; rw [h]; rfl
theorem dpV_no {c : Ca} {t p : Int} (h : dpO c t p = false) : dpV c t p = caz := by unfold dpV; rw [h]; rfl
set_option maxHeartbeats 2000000 in
theorem sFindLine_any (vl : Value) (c : Ca) (tag page : Int) (w : World) (hT : SlR lnE w vl c.ls) :
  Calls Tryz.prog 226 #[.agg #[vl, .int .i64 c.hand], .int .i64 tag, .int .i64 page] w fun r w' => r = .returned (.tuple #[.int .i64 (flV c tag page), .bool (dpO c tag page)]) ∧ Below w.heap.size w w' := by
 have HV := Hd hT
 obtain ⟨A, cc, rfl, hbc, hbm, hL⟩ := hT
 have HL := Hd hL
 have hbx := Own.new_ w 43 #[.slice A c.ls.length cc, .int .i64 c.hand]
 have hbz : Below w.heap.size w (w.alloc (.cells #[.slice A c.ls.length cc, .int .i64 c.hand] 43)) := bA bR
 generalize hW : w.alloc (.cells #[.slice A c.ls.length cc, .int .i64 c.hand] 43) = W0 at hbx hbz
 have q0 := hbx.cell_ 0 (v := .slice A c.ls.length cc) rfl
 have q1 := hbx.cell_ 1 (v := .int .i64 c.hand) rfl
 have HBX := Hd hbx
 clear hL hbx
 go_enter Tryz.func226, Tryz.ntmps226
 go_wp2_with fail
 refine (sCacheValid_any _ c _ (HV.out.now hbz)).mono ?_
 rintro e w1 ⟨rfl, hb1⟩
 have HX1 := Hd (HBX.out.below hb1)
 have HB1 := Hd (bT hbz hb1)
 clear hb1 q0 q1
 cases h1 : cav c with
 | false =>
  have E1 : Hid (dpO c tag page = false) := by show _ = _; unfold dpO; rw [h1]; rfl
  have E2 := Hd (flV_no E1.out)
  go_wp2
  go_ret2
  exact ⟨by rw [E1.out, E2.out]; rfl, HB1.out⟩
 | true =>
  go_wp2_with fail
  refine (l4Tag_any _ _).mono ?_
  rintro e w' ⟨rfl, rfl⟩
  cases h2 : tagv tag with
  | false =>
   have E1 : Hid (dpO c tag page = false) := by show _ = _; unfold dpO; rw [h2]; simp
   have E2 := Hd (flV_no E1.out)
   go_wp2
   go_ret2
   exact ⟨by rw [E1.out, E2.out]; rfl, HB1.out⟩
  | true =>
   go_wp2_with fail
   refine (l1Page_any _ _).mono ?_
   rintro e w' ⟨rfl, rfl⟩
   cases h3 : inR page 256 with
   | false =>
    have E1 : Hid (dpO c tag page = false) := by show _ = _; unfold dpO; rw [h3]; simp
    have E2 := Hd (flV_no E1.out)
    go_wp2
    go_ret2
    exact ⟨by rw [E1.out, E2.out]; rfl, HB1.out⟩
   | true =>
    have q0 := HX1.out.cell_ 0 (v := .slice A c.ls.length cc) rfl
    have q1 := HX1.out.cell_ 1 (v := .int .i64 c.hand) rfl
    go_wp2_with fail
    refine (l4Find_any _ c tag page _ (HV.out.now HB1.out)).mono ?_
    rintro e w2 ⟨rfl, hb2⟩
    have HB2 := Hd (bT HB1.out hb2)
    clear hb2 q0 q1
    by_cases h4 : 0 ≤ plcI c.ls tag page
    ·have E1 : Hid (dpO c tag page = true) := by show _ = _; unfold dpO; rw [h1, h2, h3, decide_eq_true h4]; rfl
     have E2 : Hid (flV c tag page = plcI c.ls tag page) := by show _ = _; unfold flV; rw [E1.out]; rfl
     have h4b : ¬ plcI c.ls tag page < 0 := by omega
     go_wp2
     go_ret2
     exact ⟨by rw [E1.out, E2.out]; rfl, HB2.out⟩
    ·have E1 : Hid (dpO c tag page = false) := by show _ = _; unfold dpO; rw [decide_eq_false h4]; simp
     have E2 := Hd (flV_no E1.out)
     have h4b : plcI c.ls tag page < 0 := by omega
     go_wp2
     go_ret2
     exact ⟨by rw [E1.out, E2.out]; rfl, HB2.out⟩
theorem unmOK_false {t : Tab} {s p : Int} (h : fOK t s p = false) : unmV t s p = tabz := by unfold unmV; rw [h]; rfl
def rl (fs : List Fr) (a n : Int) (i : Nat) : List Fr := (fs.take i).map (relink a n) ++ fs.drop i
theorem rl_zero (fs : List Fr) (a n : Int) : rl fs a n 0 = fs := by simp [rl]
theorem rl_all (fs : List Fr) (a n : Int) : rl fs a n fs.length = fs.map (relink a n) := by simp [rl]
theorem rl_len (fs : List Fr) (a n : Int) (i : Nat) : (rl fs a n i).length = fs.length := by simp [rl]; omega
theorem rl_at {fs : List Fr} {a n : Int} {i : Nat} {f : Fr} (h : fs[i]? = some f) : (rl fs a n i)[i]? = some f := by
 obtain ⟨hlt, _⟩ := List.getElem?_eq_some_iff.1 h
 unfold rl
 rw [List.getElem?_append_right (by simp; omega)]
 simp [Nat.min_eq_left (Nat.le_of_lt hlt), h]
theorem rl_step {fs : List Fr} {a n : Int} {i : Nat} {f : Fr} (h : fs[i]? = some f) : rl fs a n (i + 1) = (rl fs a n i).set i (relink a n f) := by
 obtain ⟨hlt, he⟩ := List.getElem?_eq_some_iff.1 h
 apply List.ext_getElem?
 intro j
 rw [List.getElem?_set]
 unfold rl
 by_cases hj : i = j
 ·subst hj
  rw [if_pos rfl, if_pos (by simp; omega), List.getElem?_append_left (by simp; omega), List.getElem?_map, List.getElem?_take_of_lt (by omega), h]
  rfl
 ·rw [if_neg hj]
  by_cases hj2 : j < i
  ·rw [List.getElem?_append_left (by simp; omega), List.getElem?_append_left (by simp; omega), List.getElem?_map, List.getElem?_map, List.getElem?_take_of_lt (by omega), List.getElem?_take_of_lt (by omega)]
  ·rw [List.getElem?_append_right (by simp; omega), List.getElem?_append_right (by simp; omega), List.getElem?_drop, List.getElem?_drop]
   simp
   congr 1
   omega
set_option maxHeartbeats 4000000 in
theorem UnmapPage_any (vb vf : Value) (t : Tab) (s p : Int) (w : World) (hT : TaR w vb vf t) (hfree : Free w) :
  Calls Tryz.prog 105 #[.agg #[vb, vf], .agg #[.int .i64 s, .int .i64 p]] w (Post2 fun v w' => ∃ v1 v2, v = .tuple #[.agg #[v1, v2], .bool (fOK t s p)] ∧ TaM w.heap.size w' v1 v2 (unmV t s p) ∧ Below w.heap.size w w') := by
 have ht0 := ((Own.new_ w 40 #[vb, vf]).alloc (o := .cells #[.int .i64 s, .int .i64 p] 61)).alloc (o := .cells #[.slice none 0 0, .slice none 0 0] 40)
 have hk0 := (Own.new_ (w.alloc (.cells #[vb, vf] 40)) 61 #[.int .i64 s, .int .i64 p]).alloc (o := .cells #[.slice none 0 0, .slice none 0 0] 40)
 have hr0 := Own.new_ ((w.alloc (.cells #[vb, vf] 40)).alloc (.cells #[.int .i64 s, .int .i64 p] 61)) 40 #[.slice none 0 0, .slice none 0 0]
 have hb0 : Below w.heap.size w (((w.alloc (.cells #[vb, vf] 40)).alloc (.cells #[.int .i64 s, .int .i64 p] 61)).alloc (.cells #[.slice none 0 0, .slice none 0 0] 40)) := bA (bA (bA bR))
 rw [show (w.alloc (.cells #[vb, vf] 40)).heap.size = w.heap.size + 1 by simp] at hk0
 rw [show ((w.alloc (.cells #[vb, vf] 40)).alloc (.cells #[.int .i64 s, .int .i64 p] 61)).heap.size = w.heap.size + 1 + 1 by simp] at hr0
 have hs0 : (((w.alloc (.cells #[vb, vf] 40)).alloc (.cells #[.int .i64 s, .int .i64 p] 61)).alloc (.cells #[.slice none 0 0, .slice none 0 0] 40)).heap.size = w.heap.size + 3 := by simp
 generalize hW : ((w.alloc (.cells #[vb, vf] 40)).alloc (.cells #[.int .i64 s, .int .i64 p] 61)).alloc (.cells #[.slice none 0 0, .slice none 0 0] 40) = W0 at ht0 hk0 hr0 hb0 hs0
 have HT0 := Hd ht0
 have HK0 := Hd hk0
 have HR0 := Hd hr0
 have HB0 := Hd hb0
 clear ht0 hk0 hr0 hb0
 have t00 := HT0.out.cell_ 0 (v := vb) rfl
 have t10 := HT0.out.cell_ 1 (v := vf) rfl
 have k00 := HK0.out.cell_ 0 (v := .int .i64 s) rfl
 have k10 := HK0.out.cell_ 1 (v := .int .i64 p) rfl
 have HTR := Hd hT
 have HF := Hd hfree
 clear hT hfree
 go_enter Tryz.func105, Tryz.ntmps105
 go_wp2_with fail
 refine (TableValid_any vb vf t _ (HTR.out.now HB0.out) (HF.out.now HB0.out)).mono ?_
 rintro e w1 ⟨rfl, hb1⟩
 have HT1 := Hd (HT0.out.below hb1)
 have HK1 := Hd (HK0.out.below hb1)
 have HR1 := Hd (HR0.out.below hb1)
 have HB1 := Hd (bT HB0.out hb1)
 clear hb1
 have t01 := HT1.out.cell_ 0 rfl
 have t11 := HT1.out.cell_ 1 rfl
 have k01 := HK1.out.cell_ 0 (v := .int .i64 s) rfl
 have k11 := HK1.out.cell_ 1 (v := .int .i64 p) rfl
 have r01 := HR1.out.cell_ 0 (v := .slice none 0 0) rfl
 have r11 := HR1.out.cell_ 1 (v := .slice none 0 0) rfl
 have fr01 := HR1.out.free 0
 have fr11 := HR1.out.free 1
 clear t00 t10 k00 k10
 try clear r00 r10 fr00 fr10
 cases h1 : tv t with
 | false =>
  have HA : Hid (fOK t s p = false) := by show _ = _; unfold fOK; rw [h1]; rfl
  have HV := Hd (unmOK_false HA.out)
  go_wp2
  have o3 := (HR1.out.set_ 0 (.slice none 0 0)).set_ 1 (.slice none 0 0)
  have e0 := o3.cell_ 0 (v := .slice none 0 0) rfl
  have e1 := o3.cell_ 1 (v := .slice none 0 0) rfl
  refine bodyPost_ret (v := .tuple #[.agg #[.slice none 0 0, .slice none 0 0], .bool false]) (by simp [results, Tryz.results105, go_sem, e0, e1]) rfl ⟨_, rfl, _, _, by rw [HA.out], ?_, bS (bS HB1.out (by simp; omega)) (by simp; omega)⟩
  rw [HV.out]
  exact tam_z
 | true =>
  go_wp2_with fail
  refine (keyValid_any _ _ _).mono ?_
  rintro e w2 ⟨rfl, hb2⟩
  have HT2 := Hd (HT1.out.below hb2)
  have HK2 := Hd (HK1.out.below hb2)
  have HR2 := Hd (HR1.out.below hb2)
  have HB2 := Hd (bT HB1.out hb2)
  clear hb2
  have t02 := HT2.out.cell_ 0 rfl
  have t12 := HT2.out.cell_ 1 rfl
  have k02 := HK2.out.cell_ 0 (v := .int .i64 s) rfl
  have k12 := HK2.out.cell_ 1 (v := .int .i64 p) rfl
  have r02 := HR2.out.cell_ 0 (v := .slice none 0 0) rfl
  have r12 := HR2.out.cell_ 1 (v := .slice none 0 0) rfl
  have fr02 := HR2.out.free 0
  have fr12 := HR2.out.free 1
  clear t01 t11 k01 k11
  try clear r01 r11 fr01 fr11
  cases h2 : kval (s, p) with
  | false =>
   have HA : Hid (fOK t s p = false) := by show _ = _; unfold fOK; rw [h1, h2]; rfl
   have HV := Hd (unmOK_false HA.out)
   go_wp2
   have o3 := (HR2.out.set_ 0 (.slice none 0 0)).set_ 1 (.slice none 0 0)
   have e0 := o3.cell_ 0 (v := .slice none 0 0) rfl
   have e1 := o3.cell_ 1 (v := .slice none 0 0) rfl
   refine bodyPost_ret (v := .tuple #[.agg #[.slice none 0 0, .slice none 0 0], .bool false]) (by simp [results, Tryz.results105, go_sem, e0, e1]) rfl ⟨_, rfl, _, _, by rw [HA.out], ?_, bS (bS HB2.out (by simp; omega)) (by simp; omega)⟩
   rw [HV.out]
   exact tam_z
  | true =>
   go_wp2_with fail
   refine (find_any vb vf t s p _ (HTR.out.now HB2.out)).mono ?_
   rintro e w3 ⟨rfl, hb3⟩
   have HT3 := Hd (HT2.out.below hb3)
   have HK3 := Hd (HK2.out.below hb3)
   have HR3 := Hd (HR2.out.below hb3)
   have HB3 := Hd (bT HB2.out hb3)
   clear hb3
   have t03 := HT3.out.cell_ 0 rfl
   have t13 := HT3.out.cell_ 1 rfl
   have k03 := HK3.out.cell_ 0 (v := .int .i64 s) rfl
   have k13 := HK3.out.cell_ 1 (v := .int .i64 p) rfl
   have r03 := HR3.out.cell_ 0 (v := .slice none 0 0) rfl
   have r13 := HR3.out.cell_ 1 (v := .slice none 0 0) rfl
   have fr03 := HR3.out.free 0
   have fr13 := HR3.out.free 1
   clear t02 t12 k02 k12
   try clear r02 r12 fr02 fr12
   by_cases h3 : 0 ≤ fndI t.fs s p
   case neg =>
    have HA : Hid (fOK t s p = false) := by show _ = _; unfold fOK; rw [h1, h2, decide_eq_false h3]; rfl
    have HV := Hd (unmOK_false HA.out)
    have h3b : fndI t.fs s p < 0 := by omega
    go_wp2
    have o3 := (HR3.out.set_ 0 (.slice none 0 0)).set_ 1 (.slice none 0 0)
    have e0 := o3.cell_ 0 (v := .slice none 0 0) rfl
    have e1 := o3.cell_ 1 (v := .slice none 0 0) rfl
    refine bodyPost_ret (v := .tuple #[.agg #[.slice none 0 0, .slice none 0 0], .bool false]) (by simp [results, Tryz.results105, go_sem, e0, e1]) rfl ⟨_, rfl, _, _, by rw [HA.out], ?_, bS (bS HB3.out (by simp; omega)) (by simp; omega)⟩
    rw [HV.out]
    exact tam_z
   case pos =>
    obtain ⟨⟨_, hlen, hb1', hlen2⟩, _⟩ := tv_parts h1
    obtain ⟨k, f, hk, ef, hfu, hfk⟩ := fndI_lt h3
    have HA : Hid (fOK t s p = true) := by show _ = _; unfold fOK; rw [h1, h2, decide_eq_true h3]; rfl
    have HV : Hid (unmV t s p = unmT t s p) := by show _ = _; unfold unmV; rw [HA.out]; rfl
    have h3b : ¬ fndI t.fs s p < 0 := by omega
    have HN := Hd hk
    rw [hk] at h3 h3b ⊢
    have HEF := Hd ef
    clear hk ef hfk
    go_wp2_with fail
    refine (tclone_any vb _ t _ (HTR.out.now HB3.out) (by omega) (by omega)).mono ?_
    rintro e w4 ⟨v1, v2, rfl, hM4, hb4⟩
    have HM4S : Hid (w3.heap.size ≤ w4.heap.size) := hb4.size
    have HT4 := Hd (HT3.out.below hb4)
    have HK4 := Hd (HK3.out.below hb4)
    have HR4 := Hd (HR3.out.below hb4)
    have HB4 := Hd (bT HB3.out hb4)
    clear hb4
    have t04 := HT4.out.cell_ 0 rfl
    have t14 := HT4.out.cell_ 1 rfl
    have k04 := HK4.out.cell_ 0 (v := .int .i64 s) rfl
    have k14 := HK4.out.cell_ 1 (v := .int .i64 p) rfl
    have r04 := HR4.out.cell_ 0 (v := .slice none 0 0) rfl
    have r14 := HR4.out.cell_ 1 (v := .slice none 0 0) rfl
    have fr04 := HR4.out.free 0
    have fr14 := HR4.out.free 1
    clear t03 t13 k03 k13
    try clear r03 r13 fr03 fr13
    have hfl := (List.getElem?_eq_some_iff.1 HEF.out).1
    obtain ⟨g1, c1, g2, c2, rfl, rfl, e1, e2, l1, l2, hne, a1, a2, b1, b2, m1, m2⟩ := hM4.open_ hb1' (by omega)
    have ho5 := Own.new_ w4 40 #[.slice (some ⟨g1, 0, none⟩) t.bs.length c1, .slice (some ⟨g2, 0, none⟩) t.fs.length c2]
    have hb5 : Below w4.heap.size w4 (w4.alloc (.cells #[.slice (some ⟨g1, 0, none⟩) t.bs.length c1, .slice (some ⟨g2, 0, none⟩) t.fs.length c2] 40)) := bA bR
    generalize hW5 : w4.alloc (.cells #[.slice (some ⟨g1, 0, none⟩) t.bs.length c1, .slice (some ⟨g2, 0, none⟩) t.fs.length c2] 40) = w5 at ho5 hb5
    have M1 := Hd (m1.below hb5)
    have M2 := Hd (m2.below hb5)
    have HT5 := Hd (HT4.out.below hb5)
    have HK5 := Hd (HK4.out.below hb5)
    have HR5 := Hd (HR4.out.below hb5)
    have HB5 := Hd (bT HB4.out hb5)
    clear hb5
    have t05 := HT5.out.cell_ 0 rfl
    have t15 := HT5.out.cell_ 1 rfl
    have k05 := HK5.out.cell_ 0 (v := .int .i64 s) rfl
    have k15 := HK5.out.cell_ 1 (v := .int .i64 p) rfl
    have r05 := HR5.out.cell_ 0 (v := .slice none 0 0) rfl
    have r15 := HR5.out.cell_ 1 (v := .slice none 0 0) rfl
    have fr05 := HR5.out.free 0
    have fr15 := HR5.out.free 1
    clear t04 t14 k04 k14
    try clear r04 r14 fr04 fr14
    have o50 := ho5.cell_ 0 (v := .slice (some ⟨g1, 0, none⟩) t.bs.length c1) rfl
    have o51 := ho5.cell_ 1 (v := .slice (some ⟨g2, 0, none⟩) t.fs.length c2) rfl
    have HO5 := Hd ho5
    clear hM4 ho5 m1 m2
    go_wp2_with fail
    refine (find_any vb vf t s p _ (HTR.out.now HB5.out)).mono ?_
    rintro e w6 ⟨rfl, hb6⟩
    rw [HN.out]
    have O6 := Hd (HO5.out.below hb6)
    have M16 := Hd (M1.out.below hb6)
    have M26 := Hd (M2.out.below hb6)
    have HT6 := Hd (HT5.out.below hb6)
    have HK6 := Hd (HK5.out.below hb6)
    have HR6 := Hd (HR5.out.below hb6)
    have HB6 := Hd (bT HB5.out hb6)
    clear hb6
    have t06 := HT6.out.cell_ 0 rfl
    have t16 := HT6.out.cell_ 1 rfl
    have k06 := HK6.out.cell_ 0 (v := .int .i64 s) rfl
    have k16 := HK6.out.cell_ 1 (v := .int .i64 p) rfl
    have r06 := HR6.out.cell_ 0 (v := .slice none 0 0) rfl
    have r16 := HR6.out.cell_ 1 (v := .slice none 0 0) rfl
    have fr06 := HR6.out.free 0
    have fr16 := HR6.out.free 1
    clear t05 t15 k05 k15
    try clear r05 r15 fr05 fr15
    obtain ⟨Ab, cb, rfl, hbc, hbm, hB⟩ := HTR.out.b
    obtain ⟨Af, cf, rfl, hfc, hfm, hF⟩ := HTR.out.f
    obtain ⟨b4, o4, rfl, hb4, d0, d1, d2, d3, d4⟩ := (hF.now (Nat.le_refl _) HB6.out).fr HEF.out
    clear d0 d1 d2 d3
    go_wp2_with fail
    refine (hash_any s p t.bs.length _ h2 ⟨by omega, by omega⟩).mono ?_
    rintro e w7 ⟨rfl, hb7⟩
    have O7 := O6.out.below hb7
    have o70 := O7.cell_ 0 (v := .slice (some ⟨g1, 0, none⟩) t.bs.length c1) rfl
    have o71 := O7.cell_ 1 (v := .slice (some ⟨g2, 0, none⟩) t.fs.length c2) rfl
    have M17 := Hd (M16.out.below hb7)
    have M27 := Hd (M26.out.below hb7)
    have HO7 := Hd O7
    have HT7 := Hd (HT6.out.below hb7)
    have HK7 := Hd (HK6.out.below hb7)
    have HR7 := Hd (HR6.out.below hb7)
    have HB7 := Hd (bT HB6.out hb7)
    clear hb7
    have t07 := HT7.out.cell_ 0 rfl
    have t17 := HT7.out.cell_ 1 rfl
    have k07 := HK7.out.cell_ 0 (v := .int .i64 s) rfl
    have k17 := HK7.out.cell_ 1 (v := .int .i64 p) rfl
    have r07 := HR7.out.cell_ 0 (v := .slice none 0 0) rfl
    have r17 := HR7.out.cell_ 1 (v := .slice none 0 0) rfl
    have fr07 := HR7.out.free 0
    have fr17 := HR7.out.free 1
    clear t06 t16 k06 k16
    try clear r06 r16 fr06 fr16
    obtain ⟨hbk, heq⟩ := bkt_in h2 hb1'
    rw [heq]
    have HBK := Hd hbk
    generalize hbb : bkt t s p = b at *
    obtain ⟨n0, en0⟩ : ∃ n0, t.bs[b]? = some n0 := ⟨_, List.getElem?_eq_getElem hbk⟩
    obtain ⟨bq, oq, eq1, _, z0⟩ := M17.out.is.i1 en0
    injection eq1 with eq1
    injection eq1 with eq1 eq2
    subst eq1 eq2
    rw [Nat.zero_add] at z0
    have hpos := HF.out.lt
    have hsz3 := HB3.out.size
    have hsz4 := HM4S.out
    have hg1 : 0 < g1 := by omega
    have hg2 : 0 < g2 := by omega
    obtain ⟨_, cs1, u1, _, Q1, _⟩ := M17.out.own (by omega)
    injection u1 with u1
    injection u1 with u1
    subst u1
    have z1 := Q1.free b
    have hut : unmT t s p = if n0 = (k : Int) then ⟨t.bs.set b f.n, t.fs.set k frz⟩ else ⟨t.bs, (t.fs.map (relink k f.n)).set k frz⟩ := by
     unfold unmT
     simp only [HN.out, Int.toNat_natCast, List.getD_eq_getElem?_getD, HEF.out, Option.getD_some]
     rw [hbb, en0]
     rfl
    have HUT := Hd hut
    clear Q1 hut en0 d4
    have HRO := HR7.out
    have hr1 : w.heap.size + 1 + 1 ≠ g1 := by have := HR3.out.lt; omega
    have hr2 : w.heap.size + 1 + 1 ≠ g2 := by have := HR3.out.lt; omega
    have hr3 : g1 ≠ w.heap.size + 1 + 1 := fun h => hr1 h.symm
    have hr4 : g2 ≠ w.heap.size + 1 + 1 := fun h => hr2 h.symm
    have hne' : g2 ≠ g1 := fun h => hne h.symm
    obtain ⟨_, cs2, u2, _, Q2, _⟩ := M27.out.own (by omega)
    injection u2 with u2
    injection u2 with u2
    subst u2
    have ho1 : w4.heap.size ≠ g2 := HO7.out.ne Q2 (by decide)
    have ho2 : g2 ≠ w4.heap.size := fun h => ho1 h.symm
    obtain ⟨_, cs1, u1, _, Q1, _⟩ := M17.out.own (by omega)
    injection u1 with u1
    injection u1 with u1
    subst u1
    have ho3 : w4.heap.size ≠ g1 := HO7.out.ne Q1 (by decide)
    have ho4 : g1 ≠ w4.heap.size := fun h => ho3 h.symm
    clear Q1 Q2 HRO
    by_cases hbe : n0 = (k : Int)
    ·subst hbe
     clear o70 o71
     have o70 := HO7.out.cell_ 0 (v := .slice (some ⟨g1, 0, none⟩) t.bs.length c1) rfl
     have nb := M17.out.wint hbk f.n
     have nf := M27.out.other (p := ⟨g1, b, none⟩) (u := .int .i64 f.n) hne
     have hr8 := HR7.out.far (p := ⟨g1, b, none⟩) (u := .int .i64 f.n) hr1
     have ho8 := HO7.out.far (p := ⟨g1, b, none⟩) (u := .int .i64 f.n) ho3
     have hb8 : Below w.heap.size w (w7.setCell ⟨g1, b, none⟩ (.int .i64 f.n)) := bS HB7.out (by show w.heap.size ≤ g1; omega)
     have hf8 := HF.out.now hb8
     generalize hW8 : w7.setCell ⟨g1, b, none⟩ (.int .i64 f.n) = w8 at nb nf hr8 ho8 hf8 hb8
     have NB8 := Hd nb
     have NF8 := Hd nf
     have HR8 := Hd hr8
     have HO8 := Hd ho8
     have HF8 := Hd hf8
     have HB8 := Hd hb8
     have HLEN : Hid ((t.fs)[k]? = some f) := HEF.out
     have hut : unmT t s p = ⟨t.bs.set b f.n, t.fs.set k frz⟩ := by rw [HUT.out, if_pos rfl]
     clear nb nf hr8 ho8 hf8 hb8 r07 r17 fr07 fr17
     have o80 := HO8.out.cell_ 0 (v := .slice (some ⟨g1, 0, none⟩) t.bs.length c1) rfl
     have o81 := HO8.out.cell_ 1 (v := .slice (some ⟨g2, 0, none⟩) t.fs.length c2) rfl
     have y0 := HF8.out.c0
     have y1 := HF8.out.c1
     have y2 := HF8.out.c2
     have y3 := HF8.out.c3
     have y4 := HF8.out.c4
     obtain ⟨_, cs9, u9, _, Q9, _⟩ := NF8.out.own (by have := (List.getElem?_eq_some_iff.1 HLEN.out).1; omega)
     injection u9 with u9
     injection u9 with u9
     subst u9
     have z2 := Q9.free (k * 5)
     have z3 := Q9.free (k * 5 + 1)
     have z4 := Q9.free (k * 5 + 2)
     have z5 := Q9.free (k * 5 + 3)
     have z6 := Q9.free (k * 5 + 4)
     obtain ⟨bq, oq, eq1, _, v0, v1, v2, v3, v4⟩ := NF8.out.is.fr HLEN.out
     injection eq1 with eq1
     injection eq1 with eq1 eq2
     subst eq1 eq2
     rw [Nat.zero_add] at v0 v1 v2 v3 v4
     have r08 := HR8.out.cell_ 0 (v := .slice none 0 0) rfl
     have r18 := HR8.out.cell_ 1 (v := .slice none 0 0) rfl
     have fr08 := HR8.out.free 0
     have fr18 := HR8.out.free 1
     have hrl := HR8.out.lt
     have hol := HO8.out.lt
     have hkf := (List.getElem?_eq_some_iff.1 HLEN.out).1
     clear Q9
     go_wp2
     have nf2 := NF8.out.wfr hkf frz
     have nb2 := ((((NB8.out.other (p := ⟨g2, k * 5, none⟩) (u := .bool false) hne').other (p := ⟨g2, k * 5 + 1, none⟩) (u := .int .i64 0) hne').other (p := ⟨g2, k * 5 + 2, none⟩) (u := .int .i64 0) hne').other (p := ⟨g2, k * 5 + 3, none⟩) (u := .int .i64 0) hne').other (p := ⟨g2, k * 5 + 4, none⟩) (u := .int .i64 (-1)) hne'
     have hr2 := ((((HR8.out.far (p := ⟨g2, k * 5, none⟩) (u := .bool false) hr2).far (p := ⟨g2, k * 5 + 1, none⟩) (u := .int .i64 0) hr2).far (p := ⟨g2, k * 5 + 2, none⟩) (u := .int .i64 0) hr2).far (p := ⟨g2, k * 5 + 3, none⟩) (u := .int .i64 0) hr2).far (p := ⟨g2, k * 5 + 4, none⟩) (u := .int .i64 (-1)) hr2
     have o3 := (hr2.set_ 0 (.slice (some ⟨g1, 0, none⟩) t.bs.length c1)).set_ 1 (.slice (some ⟨g2, 0, none⟩) t.fs.length c2)
     have e0 := o3.cell_ 0 (v := .slice (some ⟨g1, 0, none⟩) t.bs.length c1) rfl
     have e1 := o3.cell_ 1 (v := .slice (some ⟨g2, 0, none⟩) t.fs.length c2) rfl
     have hlt3 := HR3.out.lt
     have Q3 := (nf2.far (p := ⟨w.heap.size + 1 + 1, 0, none⟩) (u := .slice (some ⟨g1, 0, none⟩) t.bs.length c1) hlt3).far (p := ⟨w.heap.size + 1 + 1, 1, none⟩) (u := .slice (some ⟨g2, 0, none⟩) t.fs.length c2) hlt3
     have Q4 := (nb2.far (p := ⟨w.heap.size + 1 + 1, 0, none⟩) (u := .slice (some ⟨g1, 0, none⟩) t.bs.length c1) hlt3).far (p := ⟨w.heap.size + 1 + 1, 1, none⟩) (u := .slice (some ⟨g2, 0, none⟩) t.fs.length c2) hlt3
     refine bodyPost_ret (v := .tuple #[.agg #[.slice (some ⟨g1, 0, none⟩) t.bs.length c1, .slice (some ⟨g2, 0, none⟩) t.fs.length c2], .bool true]) (by simp [results, Tryz.results105, go_sem, e0, e1]) rfl ⟨_, rfl, _, _, by rw [HA.out], ?_, ?_⟩
     ·rw [HV.out, hut]
      exact ⟨slm_of (by simp) (by simpa using a1) a2 (Q4.mono hsz3), slm_of (by simp) (by simpa using b1) b2 (Q3.mono hsz3)⟩
     ·repeat (refine bS ?_ (by simp <;> omega))
      exact HB8.out
    ·have hne1 : (n0 == (k : Int)) = false := by rw [beq_eq_false_iff_ne]; exact hbe
     have hut : unmT t s p = ⟨t.bs, (t.fs.map (relink k f.n)).set k frz⟩ := by rw [HUT.out, if_neg hbe]
     clear r07 r17 fr07 fr17
     go_wp2
     go_loopw [57] (fun u wr => ∃ i : Nat, i ≤ t.fs.length ∧ u = .int .i64 i ∧ MineE intE 3 w3.heap.size wr (some ⟨g1, 0, none⟩) t.bs ∧ MineE frE 66 w3.heap.size wr (some ⟨g2, 0, none⟩) (rl t.fs k f.n i) ∧ Own wr (w.heap.size + 1 + 1) 40 #[.slice none 0 0, .slice none 0 0] ∧ Own wr w4.heap.size 40 #[.slice (some ⟨g1, 0, none⟩) t.bs.length c1, .slice (some ⟨g2, 0, none⟩) t.fs.length c2] ∧ Below w.heap.size w wr) (fun u _ => t.fs.length - (intOf u).toNat)
     case atStart => exact ⟨0, by omega, rfl, M17.out, by rw [rl_zero]; exact M27.out, HR7.out, HO7.out, HB7.out⟩
     case round =>
      obtain ⟨i, hi, rfl, hnb, hnf, hhr, hho, hhb⟩ := hrel
      have NB8 := Hd hnb
      have NF8 := Hd hnf
      have HR8 := Hd hhr
      have HO8 := Hd hho
      have HB8 := Hd hhb
      clear hnb hnf hhr hho hhb o70 o71 z0 z1
      by_cases hlt : i < t.fs.length
      ·obtain ⟨fi, ei⟩ : ∃ fi, t.fs[i]? = some fi := ⟨_, List.getElem?_eq_getElem hlt⟩
       have hat := rl_at (a := (k : Int)) (n := f.n) ei
       have hll := rl_len t.fs (k : Int) f.n i
       obtain ⟨bq, oq, eq1, _, v0, v1, v2, v3, v4⟩ := NF8.out.is.fr hat
       injection eq1 with eq1
       injection eq1 with eq1 eq2
       subst eq1 eq2
       rw [Nat.zero_add] at v0 v1 v2 v3 v4
       obtain ⟨_, cs9, u9, _, Q9, _⟩ := NF8.out.own (by omega)
       injection u9 with u9
       injection u9 with u9
       subst u9
       have z6 := Q9.free (i * 5 + 4)
       have o81 := HO8.out.cell_ 1 (v := .slice (some ⟨g2, 0, none⟩) t.fs.length c2) rfl
       have hol := HO8.out.lt
       have HST := Hd (rl_step (a := (k : Int)) (n := f.n) ei)
       have HAT := Hd hat
       clear Q9 v1 v2 v3 ei hat
       by_cases hre : fi.used = true ∧ fi.n = (k : Int)
       ·have HRE : Hid (relink k f.n fi = { fi with n := f.n }) := if_pos hre
        have hu := hre.1
        have hn := hre.2
        rw [hu] at v0
        rw [hn] at v4
        have nf9 := NF8.out.wnext HAT.out f.n
        have nb9 := NB8.out.other (p := ⟨g2, i * 5 + 4, none⟩) (u := .int .i64 f.n) hne'
        have hr9 := HR8.out.far (p := ⟨g2, i * 5 + 4, none⟩) (u := .int .i64 f.n) hr2
        have ho9 := HO8.out.far (p := ⟨g2, i * 5 + 4, none⟩) (u := .int .i64 f.n) ho1
        have NF9 := Hd nf9
        have NB9 := Hd nb9
        have HR9 := Hd hr9
        have HO9 := Hd ho9
        clear nf9 nb9 hr9 ho9 hre hu hn
        go_wp2
        go_roundw
        case rel => exact ⟨i + 1, by omega, by go_num, NB9.out, by rw [HST.out, HRE.out]; exact NF9.out, HR9.out, HO9.out, bS HB8.out (by show w.heap.size ≤ g2; omega)⟩
        case measure => simp [intOf]; omega
       ·have HRE : Hid (relink k f.n fi = fi) := if_neg hre
        have HSM : Hid (rl t.fs k f.n (i + 1) = rl t.fs k f.n i) := by
         show _ = _
         rw [HST.out, HRE.out]
         exact List.ext_getElem? fun j => by
          rw [List.getElem?_set]
          split
          ·rename_i hij
           subst hij
           rw [HAT.out, if_pos (by omega)]
          ·rfl
        cases hu : fi.used with
        | false =>
         rw [hu] at v0
         clear v4 z6 hre hu
         go_wp2
         go_roundw
         case rel => exact ⟨i + 1, by omega, by go_num, NB8.out, by rw [HSM.out]; exact NF8.out, HR8.out, HO8.out, HB8.out⟩
         case measure => simp [intOf]; omega
        | true =>
         rw [hu] at v0
         have hn2 : (fi.n == (k : Int)) = false := by rw [beq_eq_false_iff_ne]; exact fun h => hre ⟨hu, h⟩
         clear z6 hre hu
         go_wp2
         go_roundw
         case rel => exact ⟨i + 1, by omega, by go_num, NB8.out, by rw [HSM.out]; exact NF8.out, HR8.out, HO8.out, HB8.out⟩
         case measure => simp [intOf]; omega
      ·obtain rfl : i = t.fs.length := by omega
       have HF8 := Hd (HF.out.now HB8.out)
       have hra := rl_all t.fs k f.n
       rw [hra] at NF8
       have HLEN : Hid ((t.fs.map (relink k f.n))[k]? = some (relink k f.n f)) := by show _ = _; rw [List.getElem?_map, HEF.out]; rfl
       have hll : (t.fs.map (relink k f.n)).length = t.fs.length := List.length_map ..
       have o80 := HO8.out.cell_ 0 (v := .slice (some ⟨g1, 0, none⟩) t.bs.length c1) rfl
       have o81 := HO8.out.cell_ 1 (v := .slice (some ⟨g2, 0, none⟩) t.fs.length c2) rfl
       have y0 := HF8.out.c0
       have y1 := HF8.out.c1
       have y2 := HF8.out.c2
       have y3 := HF8.out.c3
       have y4 := HF8.out.c4
       obtain ⟨_, cs9, u9, _, Q9, _⟩ := NF8.out.own (by have := (List.getElem?_eq_some_iff.1 HLEN.out).1; omega)
       injection u9 with u9
       injection u9 with u9
       subst u9
       have z2 := Q9.free (k * 5)
       have z3 := Q9.free (k * 5 + 1)
       have z4 := Q9.free (k * 5 + 2)
       have z5 := Q9.free (k * 5 + 3)
       have z6 := Q9.free (k * 5 + 4)
       obtain ⟨bq, oq, eq1, _, v0, v1, v2, v3, v4⟩ := NF8.out.is.fr HLEN.out
       injection eq1 with eq1
       injection eq1 with eq1 eq2
       subst eq1 eq2
       rw [Nat.zero_add] at v0 v1 v2 v3 v4
       have r08 := HR8.out.cell_ 0 (v := .slice none 0 0) rfl
       have r18 := HR8.out.cell_ 1 (v := .slice none 0 0) rfl
       have fr08 := HR8.out.free 0
       have fr18 := HR8.out.free 1
       have hrl := HR8.out.lt
       have hol := HO8.out.lt
       have hkf := (List.getElem?_eq_some_iff.1 HLEN.out).1
       clear Q9
       go_wp2
       have nf2 := NF8.out.wfr hkf frz
       have nb2 := ((((NB8.out.other (p := ⟨g2, k * 5, none⟩) (u := .bool false) hne').other (p := ⟨g2, k * 5 + 1, none⟩) (u := .int .i64 0) hne').other (p := ⟨g2, k * 5 + 2, none⟩) (u := .int .i64 0) hne').other (p := ⟨g2, k * 5 + 3, none⟩) (u := .int .i64 0) hne').other (p := ⟨g2, k * 5 + 4, none⟩) (u := .int .i64 (-1)) hne'
       have hr2 := ((((HR8.out.far (p := ⟨g2, k * 5, none⟩) (u := .bool false) hr2).far (p := ⟨g2, k * 5 + 1, none⟩) (u := .int .i64 0) hr2).far (p := ⟨g2, k * 5 + 2, none⟩) (u := .int .i64 0) hr2).far (p := ⟨g2, k * 5 + 3, none⟩) (u := .int .i64 0) hr2).far (p := ⟨g2, k * 5 + 4, none⟩) (u := .int .i64 (-1)) hr2
       have o3 := (hr2.set_ 0 (.slice (some ⟨g1, 0, none⟩) t.bs.length c1)).set_ 1 (.slice (some ⟨g2, 0, none⟩) t.fs.length c2)
       have e0 := o3.cell_ 0 (v := .slice (some ⟨g1, 0, none⟩) t.bs.length c1) rfl
       have e1 := o3.cell_ 1 (v := .slice (some ⟨g2, 0, none⟩) t.fs.length c2) rfl
       have hlt3 := HR3.out.lt
       have Q3 := (nf2.far (p := ⟨w.heap.size + 1 + 1, 0, none⟩) (u := .slice (some ⟨g1, 0, none⟩) t.bs.length c1) hlt3).far (p := ⟨w.heap.size + 1 + 1, 1, none⟩) (u := .slice (some ⟨g2, 0, none⟩) t.fs.length c2) hlt3
       have Q4 := (nb2.far (p := ⟨w.heap.size + 1 + 1, 0, none⟩) (u := .slice (some ⟨g1, 0, none⟩) t.bs.length c1) hlt3).far (p := ⟨w.heap.size + 1 + 1, 1, none⟩) (u := .slice (some ⟨g2, 0, none⟩) t.fs.length c2) hlt3
       refine bodyPost_ret (v := .tuple #[.agg #[.slice (some ⟨g1, 0, none⟩) t.bs.length c1, .slice (some ⟨g2, 0, none⟩) t.fs.length c2], .bool true]) (by simp [results, Tryz.results105, go_sem, e0, e1]) rfl ⟨_, rfl, _, _, by rw [HA.out], ?_, ?_⟩
       ·rw [HV.out, hut]
        exact ⟨slm_of (by simp) (by simpa using a1) a2 (Q4.mono hsz3), slm_of (by simp) (by simpa using b1) b2 (Q3.mono hsz3)⟩
       ·repeat (refine bS ?_ (by simp <;> omega))
        exact HB8.out
set_option maxHeartbeats 4000000 in
theorem TakePage_any (vb vf vl vo : Value) (m : Ma) (s p  : Int) (w : World) (hM : MaR w vb vf vl vo m) (hfree : Free w) :
  Calls Tryz.prog 40 #[.agg #[vb, vf, vl, .int .i64 m.c.hand, .int .i64 m.g.count, .int .i64 m.g.next, .int .i64 m.g.round, vo, .int .i64 m.sp], .agg #[.int .i64 s, .int .i64 p]] w (Post2 fun v w' => ∃ v1 v2 v3 v4, v = .tuple #[.agg #[v1, v2, v3, .int .i64 (takV m s p).c.hand, .int .i64 (takV m s p).g.count, .int .i64 (takV m s p).g.next, .int .i64 (takV m s p).g.round, v4, .int .i64 (takV m s p).sp], .bool (takO m s p)] ∧ MaM w.heap.size w' v1 v2 v3 v4 (takV m s p) ∧ Below w.heap.size w w') := by
 obtain ⟨W0, hW, hbx, hbk, hbo, hb0, hs0⟩ := box3 w #[vb, vf, vl, .int .i64 m.c.hand, .int .i64 m.g.count, .int .i64 m.g.next, .int .i64 m.g.round, vo, .int .i64 m.sp] 48 #[.int .i64 s, .int .i64 p] 61 #[.slice none 0 0, .slice none 0 0, .slice none 0 0, .int .i64 0, .int .i64 0, .int .i64 0, .int .i64 0, .slice none 0 0, .int .i64 0] 48
 have HX0 := Hd hbx
 have HK0 := Hd hbk
 have HR0 := Hd hbo
 have HB0 := Hd hb0
 have HS0 : Hid (w.heap.size + 3 ≤ W0.heap.size) := Nat.le_of_eq hs0.symm
 clear hbx hbk hbo hb0
 have HM := Hd hM
 have HF := Hd hfree
 clear hM hfree
 obtain ⟨m00, m10, m20, m30, m40, m50, m60, m70, m80⟩ := cells9 HX0.out
 go_enter Tryz.func40, Tryz.ntmps40
 go_wp2_with fail
 refine (MachineValid_any vb vf vl vo m _ (HM.out.now HB0.out) (HF.out.now HB0.out)).mono ?_
 rintro e w1 ⟨rfl, hb1⟩
 have HX1 := Hd (HX0.out.below hb1)
 have HK1 := Hd (HK0.out.below hb1)
 have HR1 := Hd (HR0.out.below hb1)
 have HB1 := Hd (bT HB0.out hb1)
 have HS1 := Hd (Nat.le_trans HS0.out hb1.size)
 clear hb1
 clear m00 m10 m20 m30 m40 m50 m60 m70 m80
 cases h1 : mav m with
 | false =>
  have HA : Hid (takO m s p = false) := by show _ = _; unfold takO; rw [h1]; rfl
  have HV := Hd (takO_false HA.out)
  obtain ⟨r0x, r1x, r2x, r3x, r4x, r5x, r6x, r7x, r8x⟩ := cells9 HR1.out
  obtain ⟨z0x, z1x, z2x, z3x, z4x, z5x, z6x, z7x, z8x⟩ := free9 HR1.out
  go_wp2
  obtain ⟨t0, t1, t2, t3, t4, t5, t6, t7, t8⟩ := cells9 (set9z HR1.out)
  refine bodyPost_ret (v := .tuple #[.agg #[.slice none 0 0, .slice none 0 0, .slice none 0 0, .int .i64 0, .int .i64 0, .int .i64 0, .int .i64 0, .slice none 0 0, .int .i64 0], .bool false]) (by simp [results, Tryz.results40, go_sem, t0, t1, t2, t3, t4, t5, t6, t7, t8]) rfl ⟨_, rfl, _, _, _, _, by rw [HA.out, HV.out]; rfl, by rw [HV.out]; exact mam_z, ?_⟩
  repeat (refine bS ?_ (by simp <;> omega))
  exact HB1.out
 | true =>
  obtain ⟨a1, a2, a3, a4⟩ := mav_len h1
  obtain ⟨m01, m11, m21, m31, m41, m51, m61, m71, m81⟩ := cells9 HX1.out
  have k01 := HK1.out.cell_ 0 (v := .int .i64 s) rfl
  have k11 := HK1.out.cell_ 1 (v := .int .i64 p) rfl
  go_wp2_with fail
  refine (UnmapPage_any vb vf m.t s p _ (HM.out.t.now HB1.out) (HF.out.now HB1.out)).mono ?_
  rintro e w2 ⟨_, rfl, v1, v2, rfl, hT2, hb2⟩
  obtain ⟨A1, c1, rfl, _⟩ := hT2.b
  obtain ⟨A2, c2, rfl, _⟩ := hT2.f
  have hs1 := HS1.out
  have HX2 := Hd (HX1.out.below hb2)
  have HK2 := Hd (HK1.out.below hb2)
  have HR2 := Hd (HR1.out.below hb2)
  have HB2 := Hd (bT HB1.out hb2)
  have HS2 := Hd (Nat.le_trans HS1.out hb2.size)
  clear hb2
  clear m01 m11 m21 m31 m41 m51 m61 m71 m81
  clear k01 k11
  have ho5 := Own.new_ w2 40 #[.slice A1 (unmV m.t s p).bs.length c1, .slice A2 (unmV m.t s p).fs.length c2]
  have hb5 : Below w2.heap.size w2 (w2.alloc (.cells #[.slice A1 (unmV m.t s p).bs.length c1, .slice A2 (unmV m.t s p).fs.length c2] 40)) := bA bR
  generalize hW5 : w2.alloc (.cells #[.slice A1 (unmV m.t s p).bs.length c1, .slice A2 (unmV m.t s p).fs.length c2] 40) = w5 at ho5 hb5
  have HT5 := Hd ((hT2.now hb5).mono hs1)
  clear hT2
  have HX5 := Hd (HX2.out.below hb5)
  have HK5 := Hd (HK2.out.below hb5)
  have HR5 := Hd (HR2.out.below hb5)
  have HB5 := Hd (bT HB2.out hb5)
  have HS5 := Hd (Nat.le_trans HS2.out hb5.size)
  clear hb5
  cases h3 : fOK m.t s p with
  | false =>
   have HA : Hid (takO m s p = false) := by show _ = _; unfold takO; rw [h3, Bool.and_false]
   have HV := Hd (takO_false HA.out)
   clear ho5
   obtain ⟨r0x, r1x, r2x, r3x, r4x, r5x, r6x, r7x, r8x⟩ := cells9 HR5.out
   obtain ⟨z0x, z1x, z2x, z3x, z4x, z5x, z6x, z7x, z8x⟩ := free9 HR5.out
   go_wp2
   obtain ⟨t0, t1, t2, t3, t4, t5, t6, t7, t8⟩ := cells9 (set9z HR5.out)
   refine bodyPost_ret (v := .tuple #[.agg #[.slice none 0 0, .slice none 0 0, .slice none 0 0, .int .i64 0, .int .i64 0, .int .i64 0, .int .i64 0, .slice none 0 0, .int .i64 0], .bool false]) (by simp [results, Tryz.results40, go_sem, t0, t1, t2, t3, t4, t5, t6, t7, t8]) rfl ⟨_, rfl, _, _, _, _, by rw [HA.out, HV.out]; rfl, by rw [HV.out]; exact mam_z, ?_⟩
   repeat (refine bS ?_ (by simp <;> omega))
   exact HB5.out
  | true =>
   have HA : Hid (takO m s p = true) := by show _ = _; unfold takO; rw [h1, h3]; rfl
   have HV : Hid (takV m s p = drpM m (unmV m.t s p) s p) := by show _ = _; unfold takV; rw [HA.out]; rfl
   obtain ⟨m05, m15, m25, m35, m45, m55, m65, m75, m85⟩ := cells9 HX5.out
   have k05 := HK5.out.cell_ 0 (v := .int .i64 s) rfl
   have k15 := HK5.out.cell_ 1 (v := .int .i64 p) rfl
   have u0 := ho5.cell_ 0 (v := .slice A1 (unmV m.t s p).bs.length c1) rfl
   have u1 := ho5.cell_ 1 (v := .slice A2 (unmV m.t s p).fs.length c2) rfl
   have hs5 := HS5.out
   clear ho5
   go_wp2_with fail
   refine (dropped_any vb vf vl vo _ _ m (unmV m.t s p) s p (w.heap.size + 3) _ (HM.out.now HB5.out) hs5 HT5.out a1 a2 a3 a4).mono ?_
   rintro e w3 ⟨_, rfl, q1, q2, q3, q4, rfl, hM3, hb3⟩
   have HX3 := Hd (HX5.out.below hb3)
   have HK3 := Hd (HK5.out.below hb3)
   have HR3 := Hd (HR5.out.below hb3)
   have HB3 := Hd (bT HB5.out hb3)
   have HS3 := Hd (Nat.le_trans HS5.out hb3.size)
   clear hb3
   clear m05 m15 m25 m35 m45 m55 m65 m75 m85
   clear k05 k15 u0 u1
   obtain ⟨r0x, r1x, r2x, r3x, r4x, r5x, r6x, r7x, r8x⟩ := cells9 HR3.out
   obtain ⟨z0x, z1x, z2x, z3x, z4x, z5x, z6x, z7x, z8x⟩ := free9 HR3.out
   have HM3 := Hd hM3
   obtain ⟨B1, d1, rfl, _⟩ := hM3.t.b
   obtain ⟨B2, d2, rfl, _⟩ := hM3.t.f
   obtain ⟨B3, d3, rfl, _⟩ := hM3.l
   obtain ⟨B4, d4, rfl, _⟩ := hM3.o
   clear hM3
   have hl3 := HR3.out.lt
   go_wp2
   have o3 := HR3.out.set9 (.slice B1 (drpM m (unmV m.t s p) s p).t.bs.length d1) (.slice B2 (drpM m (unmV m.t s p) s p).t.fs.length d2) (.slice B3 (drpM m (unmV m.t s p) s p).c.ls.length d3) (.int .i64 (drpM m (unmV m.t s p) s p).c.hand) (.int .i64 (drpM m (unmV m.t s p) s p).g.count) (.int .i64 (drpM m (unmV m.t s p) s p).g.next) (.int .i64 (drpM m (unmV m.t s p) s p).g.round) (.slice B4 (drpM m (unmV m.t s p) s p).g.os.length d4) (.int .i64 (drpM m (unmV m.t s p) s p).sp)
   obtain ⟨p0t, p1t, p2t, p3t, p4t, p5t, p6t, p7t, p8t⟩ := cells9 o3
   refine bodyPost_ret (v := .tuple #[.agg #[.slice B1 (drpM m (unmV m.t s p) s p).t.bs.length d1, .slice B2 (drpM m (unmV m.t s p) s p).t.fs.length d2, .slice B3 (drpM m (unmV m.t s p) s p).c.ls.length d3, .int .i64 (drpM m (unmV m.t s p) s p).c.hand, .int .i64 (drpM m (unmV m.t s p) s p).g.count, .int .i64 (drpM m (unmV m.t s p) s p).g.next, .int .i64 (drpM m (unmV m.t s p) s p).g.round, .slice B4 (drpM m (unmV m.t s p) s p).g.os.length d4, .int .i64 (drpM m (unmV m.t s p) s p).sp], .bool true]) (by simp [results, Tryz.results40, go_sem, p0t, p1t, p2t, p3t, p4t, p5t, p6t, p7t, p8t]) rfl ⟨_, rfl, _, _, _, _, by rw [HA.out, HV.out], ?_, ?_⟩
   ·rw [HV.out]
    exact (HM3.out.far9 HR3.out _ _ _ _ _ _ _ _ _).mono (by omega)
   ·repeat (refine bS ?_ (by simp <;> omega))
    exact HB3.out
end Go.Proofs.YtibpnlojlfcpmaaGreatDoor
