/- A part of the proofs of this seat: EndP, KyP, Plr, PrT, TchP, TchS. -/
import Derived.Test.YtfbnokjdkhcgoaaGreatDoorVFilS
set_option linter.unusedVariables false
set_option linter.unusedSimpArgs false
set_option maxRecDepth 1000000
namespace Go.Proofs.YtfbnokjdkhcgoaaGreatDoor
open Go.RowKit
theorem tlast_top {os : List (Int × Int)} {n : Int} : ∀ {k : Nat}, tok os n k = true → ∀ (j : Nat) (q : Int × Int), j < k → os[j]? = some q → q.2 ≤ tlast os k
  | 0, _, j, q, hj, _ => absurd hj (by omega)
  | k + 1, h, j, q, hj, e => by
    obtain ⟨o, eo, _, _, _, h1, _⟩ := tok_at h (Nat.lt_succ_self k)
    have h2 : tok os n k = true := by unfold tok at h; rw [Bool.and_eq_true] at h; exact h.1
    rw [tlast_of eo]
    rcases Nat.lt_or_ge j k with hlt | hge
    · have := tlast_top h2 j q hlt e
      omega
    · obtain rfl : j = k := by omega
      rw [eo] at e
      injection e with e
      rw [e]; exact Int.le_refl _
theorem tok_pre {os : List (Int × Int)} {n : Int} {m : Nat} : ∀ {k : Nat}, k ≤ m → tok os n m = true → tok os n k = true := by
 induction m with
 | zero =>
  intro k hk h
  obtain rfl : k = 0 := by omega
  rfl
 | succ m ih =>
  intro k hk h
  rcases Nat.lt_or_ge k (m + 1) with hlt | hge
  ·exact ih (by omega) (by unfold tok at h; rw [Bool.and_eq_true] at h; exact h.1)
  ·obtain rfl : k = m + 1 := by omega
   exact h
theorem spc_own {g : Tg} (hg : tgv g = true) {k : Nat} {o : Int × Int} (eo : g.os[k]? = some o) : spc g.os o.2 = some k := by
 obtain ⟨_, ht⟩ := tgv_parts hg
 have hk := (List.getElem?_eq_some_iff.1 eo).1
 refine spc_at eo (fun j q hj e hq => ?_) rfl
 obtain ⟨o', eo', _, _, _, h1, _⟩ := tok_at ht hk
 rw [eo] at eo'
 injection eo' with eo'
 have := tlast_top (tok_pre (Nat.le_of_lt hk) ht) j q hj e
 rw [eo'] at hq
 omega
def tln (m : Ma) (p fr : Int) : Ln := ⟨true, tagT m m.sp p, p, fr, (m.t.fs.getD fr.toNat frz).r, false⟩
theorem MV.tag {m : Ma} (M : MV m) (p : Int) : ((128 ≤ p) ↔ tagT m m.sp p = -1) ∧ (∀ x : Ln, x.p = p → x.t = tagT m m.sp p → ∃ s, lnSp m x = some s ∧ keyI s p = keyI m.sp p) := by
 obtain ⟨k, o, hk, eo, ho⟩ := ownI_lt M.o
 obtain ⟨b1, b2⟩ := tgO_yes M.g hk eo
 obtain ⟨_, ht⟩ := tgv_parts M.g
 obtain ⟨o', eo', _, q1, q2, _⟩ := tok_at ht (List.getElem?_eq_some_iff.1 eo).1
 rw [eo] at eo'
 injection eo' with eo'
 subst eo'
 by_cases h : 128 ≤ p
 ·have e1 : tagT m m.sp p = -1 := if_pos h
  refine ⟨⟨fun _ => e1, fun _ => h⟩, fun x hx _ => ⟨0, lnSp_sh (by rw [hx]; exact h), ?_⟩⟩
  unfold keyI
  rw [if_pos h, if_pos h]
 ·have e1 : tagT m m.sp p = o.2 := by unfold tagT; rw [if_neg h, b2]
  refine ⟨⟨fun h' => absurd h' h, fun h' => by rw [e1] at h'; omega⟩, fun x hx hxt => ⟨m.sp, ?_, rfl⟩⟩
  unfold lnSp
  rw [if_neg (by rw [hx]; exact h), hxt, e1, spc_own M.g eo]
  simp only
  rw [List.getD_eq_getElem?_getD, eo]
  simp only [Option.getD_some]
  rw [ho]
theorem MV.fill {m : Ma} (M : MV m) {p : Int} (hp : inR p 256 = true) (hmiss : ¬ 0 ≤ plcI m.c.ls (tagT m m.sp p) p) {k : Nat} (hf : fnd m.t.fs (keyI m.sp p) p = some k) :
  filOK m.c (tln m p k) = true ∧ mav { m with c := filC m.c (tln m p k) } = true := by
 obtain ⟨f, ef, hu, hfk⟩ := fnd_some hf
 obtain ⟨htag, hsp⟩ := M.tag p
 have hkl := (List.getElem?_eq_some_iff.1 ef).1
 have hr : (m.t.fs.getD (k : Int).toNat frz).r = f.r := by rw [Int.toNat_natCast, getD_at ef]
 have hfr := M.t.ok k f ef
 unfold frok at hfr
 rw [hu, if_pos rfl, Bool.and_eq_true] at hfr
 have hl : lnok (tln m p k) = true := by
  unfold lnok tln
  simp only [if_true, Bool.and_eq_true]
  refine ⟨⟨⟨tagT_ok M.g _ _, hp⟩, inR_iff.2 ⟨by omega, ?_⟩⟩, by rw [hr]; exact hfr.2⟩
  have := M.t.sz
  omega
 have hcl : ∀ (i : Nat) (y : Ln), m.c.ls[i]? = some y → clash (tln m p k) y = false := by
  intro i y e
  refine bool_ff fun h => ?_
  unfold clash tln at h
  simp only [Bool.and_eq_true, Bool.or_eq_true, decide_eq_true_eq] at h
  obtain ⟨⟨⟨_, hv⟩, hyp⟩, ht⟩ := h
  have hfit : fits (tagT m m.sp p) p y = true := by
   refine fits_iff.2 ⟨hv, hyp.symm, ?_⟩
   rcases ht with (ht | ht) | ht
   ·exact .inl ht.symm
   ·obtain ⟨_, _, _, _, _, _, h5, _⟩ := lnM_some hv (M.l i y e)
    exact .inr (h5.1 (by rw [← hyp]; exact htag.2 ht))
   ·exact .inr ht
  rw [plcI_none hmiss e] at hfit
  cases hfit
 have hcv := M.c.fill hl rfl hcl
 refine ⟨?_, ?_⟩
 ·unfold filOK
  rw [cav_CV.2 M.c, hl, cav_CV.2 hcv, show (tln m p k).t = tagT m m.sp p from rfl, show (tln m p k).p = p from rfl, decide_eq_false hmiss]
  rfl
 ·refine mav_MV.2 ⟨M.t, hcv, M.g, M.o, M.f, fun i x hi => ?_⟩
  simp only [filC] at hi
  rw [List.getElem?_set] at hi
  have hvi := vic_in M.c
  split at hi
  ·injection hi with hi
   rw [← hi]
   obtain ⟨s, hs1, hs2⟩ := hsp (tln m p k) rfl rfl
   exact lnM_mk (m := { m with c := filC m.c (tln m p k) }) (s := s) (i := k) hs1 (by show fnd m.t.fs (keyI s p) p = some k; rw [hs2]; exact hf) rfl (by show (m.t.fs.getD k frz).r = (m.t.fs.getD (k : Int).toNat frz).r; rw [Int.toNat_natCast]) htag (fun h => by cases h)
  ·exact M.l i x hi
def tchO (m : Ma) (p n : Int) : Bool := mav m && inR p 256 && inR n 8
def tchH (m : Ma) (p : Int) : Int := plcI m.c.ls (tagT m m.sp p) p
def tchK (m : Ma) (p : Int) : Int := fndI m.t.fs (keyI m.sp p) p
def tchFr (m : Ma) (p : Int) : Int := if 0 ≤ tchH m p then (m.c.ls.getD (tchH m p).toNat lnz).f else if 0 ≤ tchK m p then tchK m p else 0
def tchV (m : Ma) (p n : Int) : Ma := if tchO m p n = true then (if 0 ≤ tchH m p then m else if 0 ≤ tchK m p then { m with c := filC m.c (tln m p (tchK m p)) } else m) else maz
def tchF (m : Ma) (p n : Int) : Int := if tchO m p n = true then tchFr m p else 0
def tchA (m : Ma) (p n : Int) : Bool := alw (m.t.fs.getD (tchFr m p).toNat frz).r n
def tchR (m : Ma) (p n : Int) : Int := if tchO m p n = true then (if 0 ≤ tchH m p then (if tchA m p n = true then 1 else 4) else if 0 ≤ tchK m p then (if tchA m p n = true then 2 else 4) else 3) else 0
theorem tchO_no {m : Ma} {p n : Int} (h : tchO m p n = false) : tchV m p n = maz ∧ tchF m p n = 0 ∧ tchR m p n = 0 := by
 unfold tchV tchF tchR
 rw [h]
 exact ⟨rfl, rfl, rfl⟩
theorem fndI_fnd {fs : List Fr} {s p : Int} (h : 0 ≤ fndI fs s p) : ∃ k : Nat, fndI fs s p = (k : Int) ∧ fnd fs s p = some k := by
 unfold fndI at h ⊢
 cases e : fnd fs s p with
 | none => rw [e] at h; simp at h
 | some i => exact ⟨i, rfl, rfl⟩
theorem tchO_parts {m : Ma} {p n : Int} (h : tchO m p n = true) : MV m ∧ inR p 256 = true ∧ inR n 8 = true := by
 unfold tchO at h
 simp only [Bool.and_eq_true] at h
 exact ⟨mav_MV.1 h.1.1, h.1.2, h.2⟩
theorem mav_tch {m : Ma} {p n : Int} (h : tchO m p n = true) : mav (tchV m p n) = true := by
 obtain ⟨M, hp, hn⟩ := tchO_parts h
 unfold tchV
 rw [if_pos h]
 split
 ·exact mav_MV.2 M
 ·rename_i h1
  split
  ·rename_i h2
   obtain ⟨k, hk, hf⟩ := fndI_fnd (show 0 ≤ fndI m.t.fs (keyI m.sp p) p from h2)
   have := (M.fill hp h1 hf).2
   rw [show tchK m p = (k : Int) from hk]
   exact this
  ·exact mav_MV.2 M
theorem MV.hit {m : Ma} (M : MV m) {p : Int} (h : 0 ≤ tchH m p) : ∃ (k i : Nat) (x : Ln) (f : Fr), tchH m p = (k : Int) ∧ m.c.ls[k]? = some x ∧ x.f = (i : Int) ∧ m.t.fs[i]? = some f ∧ f.used = true ∧ f.r = x.r ∧ tchFr m p = (i : Int) ∧ fnd m.t.fs (keyI m.sp p) p = some i := by
 obtain ⟨k, x, hk, ex, hx⟩ := plcI_lt (show 0 ≤ plcI m.c.ls (tagT m m.sp p) p from h)
 obtain ⟨h1, h2, h3⟩ := fits_iff.1 hx
 obtain ⟨s, i, a1, a2, a3, a4, a5, a6⟩ := lnM_some h1 (M.l k x ex)
 obtain ⟨f, ef, hu, hfk⟩ := fnd_some a2
 rw [getD_at ef] at a4
 have hkk : tchH m p = (k : Int) := hk
 refine ⟨k, i, x, f, hkk, ex, a3.symm, ef, hu, a4, ?_, ?_⟩
 ·unfold tchFr
  rw [if_pos h, hkk, Int.toNat_natCast, List.getD_eq_getElem?_getD, ex]
  exact a3.symm
 ·rw [← h2]
  have hks : keyI s x.p = keyI m.sp x.p := by
   by_cases h128 : 128 ≤ x.p
   ·unfold keyI; rw [if_pos h128, if_pos h128]
   ·rcases h3 with h3 | h3
    ·obtain ⟨s', hs1, hs2⟩ := (M.tag p).2 x h2 h3
     rw [a1] at hs1
     injection hs1 with hs1
     rw [hs1, h2]; exact hs2
    ·exact absurd (a5.2 h3) h128
  rw [← hks]; exact a2
theorem fOK_iff {t : Tab} {s p : Int} : fOK t s p = true ↔ tv t = true ∧ kval (s, p) = true ∧ 0 ≤ fndI t.fs s p := by
 unfold fOK
 simp only [Bool.and_eq_true, decide_eq_true_eq, and_assoc]
theorem takO_iff {m : Ma} {s p : Int} : takO m s p = true ↔ mav m = true ∧ fOK m.t s p = true := by
 unfold takO
 simp only [Bool.and_eq_true]
def kb (a b : Key) : Bool := decide (a.1 < b.1) || (decide (a.1 = b.1) && decide (a.2 < b.2))
def keysL (fs : List Fr) : List Key := fs.filterMap (fun y => if y.used = true then some (y.s, y.p) else none)
theorem keysL_mem {fs : List Fr} {x : Key} : x ∈ keysL fs ↔ ∃ (i : Nat) (y : Fr), fs[i]? = some y ∧ y.used = true ∧ (y.s, y.p) = x := by
 unfold keysL
 rw [List.mem_filterMap]
 constructor
 ·rintro ⟨y, hy, h⟩
  obtain ⟨i, hi⟩ := List.mem_iff_getElem?.1 hy
  cases hu : y.used with
  | true => exact ⟨i, y, hi, hu, by simpa [hu] using h⟩
  | false => simp [hu] at h
 ·rintro ⟨i, y, hi, hu, h⟩
  exact ⟨y, List.mem_of_getElem? hi, by simp [hu, h]⟩
theorem takV_c {m : Ma} {s p : Int} (h : takO m s p = true) : (takV m s p).c = drpC m s p ∧ (takV m s p).g = m.g ∧ (takV m s p).sp = m.sp := by
 unfold takV
 rw [if_pos h]
 exact ⟨rfl, rfl, rfl⟩
theorem fndI_some {fs : List Fr} {s p : Int} {i : Nat} (h : fnd fs s p = some i) : fndI fs s p = (i : Int) := by unfold fndI; rw [h]
theorem TV.bk1 {t : Tab} (T : TV t) {b i : Nat} {ch : List Nat} {f : Fr} (hb : b < t.bs.length) (e : bch t b = some ch) (hi : i ∈ ch) (ef : t.fs[i]? = some f) (hk : kval (f.s, f.p) = true) : b = bkt t f.s f.p := by
 obtain ⟨ch2, e2, hc2⟩ := T.ch b hb
 rw [e] at e2
 injection e2 with e2
 subst e2
 obtain ⟨g, eg, hh⟩ := hok_parts (hc2 i hi)
 rw [ef] at eg
 injection eg with eg
 subst eg
 obtain ⟨_, he⟩ := bkt_in hk T.sz.2.2.1
 omega
theorem TV.bk {t : Tab} (T : TV t) {i : Nat} {f : Fr} (ef : t.fs[i]? = some f) (hu : f.used = true) (hk : kval (f.s, f.p) = true) : ∃ ch, bch t (bkt t f.s f.p) = some ch ∧ i ∈ ch := by
 obtain ⟨b, ch, hb, e, hi⟩ := T.cov i f ef hu
 have := T.bk1 hb e hi ef hk
 subst this
 exact ⟨ch, e, hi⟩
theorem takV_at {m : Ma} {s p : Int} (h : takO m s p = true) : takV m s p = drpM m (unmT m.t s p) s p := by
 unfold takV unmV
 rw [if_pos h, if_pos (takO_iff.1 h).2]
theorem unm_len {t : Tab} {s p : Int} : (unmT t s p).fs.length = t.fs.length := by
 unfold unmT
 simp only
 split <;> simp
theorem keys_takO {m : Ma} (hm : mav m = true) {s p : Int} (h : (s, p) ∈ keysL m.t.fs) : takO m s p = true := by
 have M := mav_MV.1 hm
 obtain ⟨i, y, e1, e2, e3⟩ := keysL_mem.1 h
 have htv := (mav_parts hm).1
 refine takO_iff.2 ⟨hm, fOK_iff.2 ⟨htv, ?_, by rw [fndI_some (M.t.fnd e1 e2 e3)]; omega⟩⟩
 have h1 := M.t.ok i y e1
 unfold frok at h1
 rw [if_pos e2, Bool.and_eq_true, e3] at h1
 exact h1.1
set_option maxHeartbeats 4000000 in
theorem l6Fill_any (vb vf vl vo : Value) (m : Ma) (p : Int) (k : Nat) (w : World) (hM : MaR w vb vf vl vo m) (hm : mav m = true) (hk : k < m.t.fs.length) (hok : filOK m.c (tln m p k) = true) :
  Calls Tryz.prog 100 #[.agg #[vb, vf, vl, .int .i64 m.c.hand, .int .i64 m.g.count, .int .i64 m.g.next, .int .i64 m.g.round, vo, .int .i64 m.sp], .int .i64 p, .int .i64 k, .int .i64 (tagT m m.sp p)] w (Post2 fun v w' => ∃ v1 v2 v3 v4, v = .tuple #[.agg #[v1, v2, v3, .int .i64 ({ m with c := filC m.c (tln m p k) } : Ma).c.hand, .int .i64 ({ m with c := filC m.c (tln m p k) } : Ma).g.count, .int .i64 ({ m with c := filC m.c (tln m p k) } : Ma).g.next, .int .i64 ({ m with c := filC m.c (tln m p k) } : Ma).g.round, v4, .int .i64 ({ m with c := filC m.c (tln m p k) } : Ma).sp], .int .i64 (vic m.c)] ∧ MaM w.heap.size w' v1 v2 v3 v4 { m with c := filC m.c (tln m p k) } ∧ Below w.heap.size w w') := by
 obtain ⟨a1, a2, a3, a4⟩ := mav_len hm
 obtain ⟨W0, hW, hbx, hbo, hb0, hs0⟩ := box2 w #[vb, vf, vl, .int .i64 m.c.hand, .int .i64 m.g.count, .int .i64 m.g.next, .int .i64 m.g.round, vo, .int .i64 m.sp] 34 #[.slice none 0 0, .slice none 0 0, .slice none 0 0, .int .i64 0, .int .i64 0, .int .i64 0, .int .i64 0, .slice none 0 0, .int .i64 0] 34
 obtain ⟨m0q, m1q, m2q, m3q, m4q, m5q, m6q, m7q, m8q⟩ := cells9 hbx
 have HX0 := Hd hbx
 have HO0 := Hd hbo
 have HB0 := Hd hb0
 have HM := Hd hM
 clear hbx hbo hb0 hM
 clear m0q m1q m2q m3q m4q m5q m6q m7q m8q
 go_enter Tryz.func100, Tryz.ntmps100
 obtain ⟨m00, m10, m20, m30, m40, m50, m60, m70, m80⟩ := cells9 HX0.out
 go_wp2_with fail
 refine (l6Copy_any vb vf vl vo m _ (HM.out.now HB0.out) a1 a2 a3 a4).mono ?_
 rintro e w3 ⟨_, rfl, q1, q2, q3, q4, rfl, hM3, hb3⟩
 have hM3' := hM3.mono (B' := w.heap.size + 2) (Nat.le_of_eq hs0.symm)
 have hs3 : w.heap.size + 2 ≤ w3.heap.size := Nat.le_trans (Nat.le_of_eq hs0.symm) hb3.size
 obtain ⟨B1, d1, rfl, _⟩ := hM3.t.b
 obtain ⟨B2, d2, rfl, _⟩ := hM3.t.f
 obtain ⟨B3, d3, rfl, _⟩ := hM3.l
 obtain ⟨B4, d4, rfl, _⟩ := hM3.o
 have HX3 := Hd (HX0.out.below hb3)
 have HR3 := Hd (HO0.out.below hb3)
 have HB3 := Hd (bT HB0.out hb3)
 clear m00 m10 m20 m30 m40 m50 m60 m70 m80
 have ho4 := Own.new_ w3 34 #[.slice B1 m.t.bs.length d1, .slice B2 m.t.fs.length d2, .slice B3 m.c.ls.length d3, .int .i64 m.c.hand, .int .i64 m.g.count, .int .i64 m.g.next, .int .i64 m.g.round, .slice B4 m.g.os.length d4, .int .i64 m.sp]
 have hb4 : Below w3.heap.size w3 (w3.alloc (.cells #[.slice B1 m.t.bs.length d1, .slice B2 m.t.fs.length d2, .slice B3 m.c.ls.length d3, .int .i64 m.c.hand, .int .i64 m.g.count, .int .i64 m.g.next, .int .i64 m.g.round, .slice B4 m.g.os.length d4, .int .i64 m.sp] 34)) := bA bR
 generalize hW4 : w3.alloc (.cells #[.slice B1 m.t.bs.length d1, .slice B2 m.t.fs.length d2, .slice B3 m.c.ls.length d3, .int .i64 m.c.hand, .int .i64 m.g.count, .int .i64 m.g.next, .int .i64 m.g.round, .slice B4 m.g.os.length d4, .int .i64 m.sp] 34) = w4 at ho4 hb4
 have HM4 := Hd (hM3'.now hb4)
 have HO4 := Hd ho4
 have HX4 := Hd (HX3.out.below hb4)
 have HR4 := Hd (HR3.out.below hb4)
 have HB4 := Hd (bT HB3.out hb4)
 have hs4 := hb4.size
 clear hM3 hM3' ho4 hb3 hb4
 obtain ⟨f, ef⟩ : ∃ f, m.t.fs[k]? = some f := ⟨_, List.getElem?_eq_getElem hk⟩
 have HTL : Hid (tln m p k = ⟨true, tagT m m.sp p, p, k, f.r, false⟩) := by show _ = _; unfold tln; rw [Int.toNat_natCast, getD_at ef]
 obtain ⟨Af, cf, rfl, hfc, hfm, hF⟩ := HM.out.t.f
 obtain ⟨bf, of, rfl, hbf, y0, y1, y2, y3, y4⟩ := (hF.now (Nat.le_refl _) HB4.out).fr ef
 have m04 := HX4.out.cell_ 0 (v := vb) rfl
 have m14 := HX4.out.cell_ 1 (v := .slice (some ⟨bf, of, none⟩) m.t.fs.length cf) rfl
 have m24 := HX4.out.cell_ 2 (v := vl) rfl
 have m34 := HX4.out.cell_ 3 (v := .int .i64 m.c.hand) rfl
 have hlx := HX4.out.lt
 have hlo := HO4.out.lt
 clear y0 y1 y2 y4 ef hF
 go_wp2_with fail
 have hox := Own.new_ w4 50 #[.bool true, .int .i64 (tagT m m.sp p), .int .i64 p, .int .i64 k, .int .i64 f.r, .bool false]
 have hb5 : Below w4.heap.size w4 (w4.alloc (.cells #[.bool true, .int .i64 (tagT m m.sp p), .int .i64 p, .int .i64 k, .int .i64 f.r, .bool false] 50)) := bA bR
 generalize hW5 : w4.alloc (.cells #[.bool true, .int .i64 (tagT m m.sp p), .int .i64 p, .int .i64 k, .int .i64 f.r, .bool false] 50) = w5 at hox hb5 ⊢
 have HM5 := Hd (HM4.out.now hb5)
 have HO5 := Hd (HO4.out.below hb5)
 have HX5 := Hd (HX4.out.below hb5)
 have HR5 := Hd (HR4.out.below hb5)
 have HB5 := Hd (bT HB4.out hb5)
 have hs5 := hb5.size
 have HFL := Hd (sFillLine_any vl m.c (tln m p k) w5 (HM.out.l.now HB5.out))
 rw [filOK_true hok, hok, show filA m.c (tln m p k) = vic m.c by unfold filA; rw [hok, if_pos rfl]] at HFL
 clear hb5 hox
 have HFL2 := HFL.out
 rw [show lnV (tln m p k) = .agg #[.bool true, .int .i64 (tagT m m.sp p), .int .i64 p, .int .i64 k, .int .i64 f.r, .bool false] by unfold lnV; rw [HTL.out]] at HFL2
 have HFL := Hd HFL2
 clear HFL2
 generalize hVC : filC m.c (tln m p k) = V at *
 refine HFL.out.mono ?_
 rintro e w6 ⟨_, rfl, v1, rfl, hL6, hb6⟩
 obtain ⟨B5, d5, rfl, hx5, hy5, hz5⟩ := hL6
 have ho7 := Own.new_ w6 29 #[.slice B5 V.ls.length d5, .int .i64 V.hand]
 have hb7 : Below w6.heap.size w6 (w6.alloc (.cells #[.slice B5 V.ls.length d5, .int .i64 V.hand] 29)) := bA bR
 have HL6 : Hid (SlM lnE 50 w5.heap.size w6 (.slice B5 V.ls.length d5) V.ls) := ⟨B5, d5, rfl, hx5, hy5, hz5⟩
 generalize hW7 : w6.alloc (.cells #[.slice B5 V.ls.length d5, .int .i64 V.hand] 29) = w7 at ho7 hb7
 have HM7 := Hd (HM5.out.now (bT hb6 hb7))
 have HO7 := Hd (HO5.out.below (bT hb6 hb7))
 have HR7 := Hd (HR5.out.below (bT hb6 hb7))
 have HB7 := Hd (bT HB5.out (bT hb6 hb7))
 have HL7 := Hd ((HL6.out.now hb7).mono (show w.heap.size + 2 ≤ w5.heap.size by omega))
 have HC7 := Hd ho7
 clear ho7 HL6 hb6 hb7 m04 m14 m24 m34 y3 HFL
 have c0 := HC7.out.cell_ 0 (v := .slice B5 V.ls.length d5) rfl
 have c1 := HC7.out.cell_ 1 (v := .int .i64 V.hand) rfl
 have hlc := HC7.out.lt
 obtain ⟨r0x, r1x, r2x, r3x, r4x, r5x, r6x, r7x, r8x⟩ := cells9 HR7.out
 obtain ⟨z0x, z1x, z2x, z3x, z4x, z5x, z6x, z7x, z8x⟩ := free9 HR7.out
 obtain ⟨p0o, p1o, p2o, p3o, p4o, p5o, p6o, p7o, p8o⟩ := cells9 HO7.out
 have g2 := HO7.out.free 2
 have g3 := HO7.out.free 3
 have hlr := HR7.out.lt
 have hlo7 := HO7.out.lt
 have hrn : w.heap.size + 1 ≠ w3.heap.size := by omega
 have hrm : w3.heap.size ≠ w.heap.size + 1 := by omega
 have hcn : w6.heap.size ≠ w3.heap.size := HC7.out.ne HO7.out (by decide)
 have hcm : w3.heap.size ≠ w6.heap.size := fun h => hcn h.symm
 go_wp2
 have g1 := (HR7.out.far (p := ⟨w3.heap.size, 2, none⟩) (u := .slice B5 V.ls.length d5) hrn).far (p := ⟨w3.heap.size, 3, none⟩) (u := .int .i64 V.hand) hrn
 have hmm : MaM (w.heap.size + 2) w7 (.slice B1 m.t.bs.length d1) (.slice B2 m.t.fs.length d2) (.slice B5 V.ls.length d5) (.slice B4 m.g.os.length d4) { m with c := V } := ⟨HM7.out.t, HL7.out, HM7.out.o⟩
 have hmm2 := (hmm.farT (u := .slice B5 V.ls.length d5) (i := 2) HO7.out).farT (u := .int .i64 V.hand) (i := 3) (HO7.out.set_ 2 (.slice B5 V.ls.length d5))
 have o3 := g1.set9 (.slice B1 m.t.bs.length d1) (.slice B2 m.t.fs.length d2) (.slice B5 V.ls.length d5) (.int .i64 V.hand) (.int .i64 m.g.count) (.int .i64 m.g.next) (.int .i64 m.g.round) (.slice B4 m.g.os.length d4) (.int .i64 m.sp)
 obtain ⟨p0t, p1t, p2t, p3t, p4t, p5t, p6t, p7t, p8t⟩ := cells9 o3
 refine bodyPost_ret (v := .tuple #[.agg #[.slice B1 m.t.bs.length d1, .slice B2 m.t.fs.length d2, .slice B5 V.ls.length d5, .int .i64 ({ m with c := V } : Ma).c.hand, .int .i64 ({ m with c := V } : Ma).g.count, .int .i64 ({ m with c := V } : Ma).g.next, .int .i64 ({ m with c := V } : Ma).g.round, .slice B4 m.g.os.length d4, .int .i64 ({ m with c := V } : Ma).sp], .int .i64 (vic m.c)]) (by simp [results, Tryz.results100, go_sem, p0t, p1t, p2t, p3t, p4t, p5t, p6t, p7t, p8t]) rfl ⟨_, rfl, _, _, _, _, by rw [hVC], ?_, ?_⟩
 ·rw [hVC]
  exact (hmm2.far9 g1 _ _ _ _ _ _ _ _ _).mono (by omega)
 ·repeat (refine bS ?_ (by simp <;> omega))
  exact HB7.out
end Go.Proofs.YtfbnokjdkhcgoaaGreatDoor
