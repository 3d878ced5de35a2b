/- A part of the proofs of this seat: TchP, TchS, TpS, RelC, RgB, RelD, VicI, WthI, FilI, TpI, Split, Plr, Plb, Fb. -/
import Derived.Test.YtnaagdmaggdbmaaGreatDoorKH
import Derived.Test.YtnaagdmaggdbmaaGreatDoorZFgS
import Derived.Test.YtnaagdmaggdbmaaGreatDoorKC
import Derived.Deep.RegionHeldLaw
import Derived.Test.YtnaagdmaggdbmaaGreatDoorKD
import Derived.Test.YtnaagdmaggdbmaaGreatDoorKB
import Derived.Test.YtnaagdmaggdbmaaGreatDoorKA
set_option linter.unusedVariables false
set_option linter.unusedSimpArgs false
namespace Go.Proofs.YtnaagdmaggdbmaaGreatDoor
open Go.RowKit
/-! ### touching a page -/
theorem tlast_top {os : List (Int × Int)} {n : Int} : ∀ {k : Nat}, tok os n k = true → ∀ (j : Nat) (q : Int × Int), j < k → os[j]? = some q → q.2 ≤ tlast os k
  | 0, _, j, q, hj, _ => absurd hj (by omega)
  | k + 1, h, j, q, hj, e => by
    obtain ⟨o, eo, _, _, _, h1, _⟩ := tok_at h (Nat.lt_succ_self k)
    have h2 : tok os n k = true := by unfold tok at h; rw [Bool.and_eq_true] at h; exact h.1
    rw [tlast_of eo]
    rcases Nat.lt_or_ge j k with hlt | hge
    · have := tlast_top h2 j q hlt e
      omega
    · obtain rfl : j = k := by omega
      rw [eo] at e
      injection e with e
      rw [e]; exact Int.le_refl _
theorem tok_pre {os : List (Int × Int)} {n : Int} {m : Nat} : ∀ {k : Nat}, k ≤ m → tok os n m = true → tok os n k = true := by
  induction m with
  | zero =>
    intro k hk h
    obtain rfl : k = 0 := by omega
    rfl
  | succ m ih =>
    intro k hk h
    rcases Nat.lt_or_ge k (m + 1) with hlt | hge
    · exact ih (by omega) (by unfold tok at h; rw [Bool.and_eq_true] at h; exact h.1)
    · obtain rfl : k = m + 1 := by omega
      exact h
/-- the tag of a space leads back to the space -/
theorem spc_own {g : Tg} (hg : tgv g = true) {k : Nat} {o : Int × Int} (eo : g.os[k]? = some o) : spc g.os o.2 = some k := by
  obtain ⟨_, ht⟩ := tgv_parts hg
  have hk := (List.getElem?_eq_some_iff.1 eo).1
  refine spc_at eo (fun j q hj e hq => ?_) rfl
  obtain ⟨o', eo', _, _, _, h1, _⟩ := tok_at ht hk
  rw [eo] at eo'
  injection eo' with eo'
  have := tlast_top (tok_pre (Nat.le_of_lt hk) ht) j q hj e
  rw [eo'] at hq
  omega
/-- the line of a page that is brought -/
def tln (m : Ma) (p fr : Int) : Ln := ⟨true, tagT m m.sp p, p, fr, (m.t.fs.getD fr.toNat frz).r, false⟩
theorem MV.tag {m : Ma} (M : MV m) (p : Int) : ((128 ≤ p) ↔ tagT m m.sp p = -1) ∧ (∀ x : Ln, x.p = p → x.t = tagT m m.sp p → ∃ s, lnSp m x = some s ∧ keyI s p = keyI m.sp p) := by
  obtain ⟨k, o, hk, eo, ho⟩ := ownI_lt M.o
  obtain ⟨b1, b2⟩ := tgO_yes M.g hk eo
  obtain ⟨_, ht⟩ := tgv_parts M.g
  obtain ⟨o', eo', _, q1, q2, _⟩ := tok_at ht (List.getElem?_eq_some_iff.1 eo).1
  rw [eo] at eo'
  injection eo' with eo'
  subst eo'
  by_cases h : 128 ≤ p
  · have e1 : tagT m m.sp p = -1 := if_pos h
    refine ⟨⟨fun _ => e1, fun _ => h⟩, fun x hx _ => ⟨0, lnSp_sh (by rw [hx]; exact h), ?_⟩⟩
    unfold keyI
    rw [if_pos h, if_pos h]
  · have e1 : tagT m m.sp p = o.2 := by unfold tagT; rw [if_neg h, b2]
    refine ⟨⟨fun h' => absurd h' h, fun h' => by rw [e1] at h'; omega⟩, fun x hx hxt => ⟨m.sp, ?_, rfl⟩⟩
    unfold lnSp
    rw [if_neg (by rw [hx]; exact h), hxt, e1, spc_own M.g eo]
    simp only
    rw [List.getD_eq_getElem?_getD, eo]
    simp only [Option.getD_some]
    rw [ho]
theorem MV.fill {m : Ma} (M : MV m) {p : Int} (hp : inR p 256 = true) (hmiss : ¬ 0 ≤ plcI m.c.ls (tagT m m.sp p) p) {k : Nat} (hf : fnd m.t.fs (keyI m.sp p) p = some k) :
    filOK m.c (tln m p k) = true ∧ mav { m with c := filC m.c (tln m p k) } = true := by
  obtain ⟨f, ef, hu, hfk⟩ := fnd_some hf
  obtain ⟨htag, hsp⟩ := M.tag p
  have hkl := (List.getElem?_eq_some_iff.1 ef).1
  have hr : (m.t.fs.getD (k : Int).toNat frz).r = f.r := by rw [Int.toNat_natCast, getD_at ef]
  have hfr := M.t.ok k f ef
  unfold frok at hfr
  rw [hu, if_pos rfl, Bool.and_eq_true] at hfr
  have hl : lnok (tln m p k) = true := by
    unfold lnok tln
    simp only [if_true, Bool.and_eq_true]
    refine ⟨⟨⟨tagT_ok M.g _ _, hp⟩, inR_iff.2 ⟨by omega, ?_⟩⟩, by rw [hr]; exact hfr.2⟩
    have := M.t.sz
    omega
  have hcl : ∀ (i : Nat) (y : Ln), m.c.ls[i]? = some y → clash (tln m p k) y = false := by
    intro i y e
    refine bool_ff fun h => ?_
    unfold clash tln at h
    simp only [Bool.and_eq_true, Bool.or_eq_true, decide_eq_true_eq] at h
    obtain ⟨⟨⟨_, hv⟩, hyp⟩, ht⟩ := h
    have hfit : fits (tagT m m.sp p) p y = true := by
      refine fits_iff.2 ⟨hv, hyp.symm, ?_⟩
      rcases ht with (ht | ht) | ht
      · exact .inl ht.symm
      · obtain ⟨_, _, _, _, _, _, h5, _⟩ := lnM_some hv (M.l i y e)
        exact .inr (h5.1 (by rw [← hyp]; exact htag.2 ht))
      · exact .inr ht
    rw [plcI_none hmiss e] at hfit
    cases hfit
  have hcv := M.c.fill hl rfl hcl
  refine ⟨?_, ?_⟩
  · unfold filOK
    rw [cav_CV.2 M.c, hl, cav_CV.2 hcv, show (tln m p k).t = tagT m m.sp p from rfl, show (tln m p k).p = p from rfl, decide_eq_false hmiss]
    rfl
  · refine mav_MV.2 ⟨M.t, hcv, M.g, M.o, M.f, fun i x hi => ?_⟩
    simp only [filC] at hi
    rw [List.getElem?_set] at hi
    have hvi := vic_in M.c
    split at hi
    · injection hi with hi
      rw [← hi]
      obtain ⟨s, hs1, hs2⟩ := hsp (tln m p k) rfl rfl
      exact lnM_mk (m := { m with c := filC m.c (tln m p k) }) (s := s) (i := k) hs1 (by show fnd m.t.fs (keyI s p) p = some k; rw [hs2]; exact hf) rfl (by show (m.t.fs.getD k frz).r = (m.t.fs.getD (k : Int).toNat frz).r; rw [Int.toNat_natCast]) htag (fun h => by cases h)
    · exact M.l i x hi
def tchO (m : Ma) (p n : Int) : Bool := mav m && inR p 256 && inR n 8
def tchH (m : Ma) (p : Int) : Int := plcI m.c.ls (tagT m m.sp p) p
def tchK (m : Ma) (p : Int) : Int := fndI m.t.fs (keyI m.sp p) p
/-- the frame of a touched page -/
def tchFr (m : Ma) (p : Int) : Int := if 0 ≤ tchH m p then (m.c.ls.getD (tchH m p).toNat lnz).f else if 0 ≤ tchK m p then tchK m p else 0
def tchV (m : Ma) (p n : Int) : Ma := if tchO m p n = true then (if 0 ≤ tchH m p then m else if 0 ≤ tchK m p then { m with c := filC m.c (tln m p (tchK m p)) } else m) else maz
def tchF (m : Ma) (p n : Int) : Int := if tchO m p n = true then tchFr m p else 0
def tchA (m : Ma) (p n : Int) : Bool := alw (m.t.fs.getD (tchFr m p).toNat frz).r n
def tchR (m : Ma) (p n : Int) : Int := if tchO m p n = true then (if 0 ≤ tchH m p then (if tchA m p n = true then 1 else 4) else if 0 ≤ tchK m p then (if tchA m p n = true then 2 else 4) else 3) else 0
theorem tchO_no {m : Ma} {p n : Int} (h : tchO m p n = false) : tchV m p n = maz ∧ tchF m p n = 0 ∧ tchR m p n = 0 := by
  unfold tchV tchF tchR
  rw [h]
  exact ⟨rfl, rfl, rfl⟩
theorem fndI_fnd {fs : List Fr} {s p : Int} (h : 0 ≤ fndI fs s p) : ∃ k : Nat, fndI fs s p = (k : Int) ∧ fnd fs s p = some k := by
  unfold fndI at h ⊢
  cases e : fnd fs s p with
  | none => rw [e] at h; simp at h
  | some i => exact ⟨i, rfl, rfl⟩
theorem tchO_parts {m : Ma} {p n : Int} (h : tchO m p n = true) : MV m ∧ inR p 256 = true ∧ inR n 8 = true := by
  unfold tchO at h
  simp only [Bool.and_eq_true] at h
  exact ⟨mav_MV.1 h.1.1, h.1.2, h.2⟩
/-- touching keeps a machine valid -/
theorem mav_tch {m : Ma} {p n : Int} (h : tchO m p n = true) : mav (tchV m p n) = true := by
  obtain ⟨M, hp, hn⟩ := tchO_parts h
  unfold tchV
  rw [if_pos h]
  split
  · exact mav_MV.2 M
  · rename_i h1
    split
    · rename_i h2
      obtain ⟨k, hk, hf⟩ := fndI_fnd (show 0 ≤ fndI m.t.fs (keyI m.sp p) p from h2)
      have := (M.fill hp h1 hf).2
      rw [show tchK m p = (k : Int) from hk]
      exact this
    · exact mav_MV.2 M
/-- what a line says: its frame lies in the table, with its rights -/
theorem MV.hit {m : Ma} (M : MV m) {p : Int} (h : 0 ≤ tchH m p) : ∃ (k i : Nat) (x : Ln) (f : Fr), tchH m p = (k : Int) ∧ m.c.ls[k]? = some x ∧ x.f = (i : Int) ∧ m.t.fs[i]? = some f ∧ f.used = true ∧ f.r = x.r ∧ tchFr m p = (i : Int) ∧ fnd m.t.fs (keyI m.sp p) p = some i := by
  obtain ⟨k, x, hk, ex, hx⟩ := plcI_lt (show 0 ≤ plcI m.c.ls (tagT m m.sp p) p from h)
  obtain ⟨h1, h2, h3⟩ := fits_iff.1 hx
  obtain ⟨s, i, a1, a2, a3, a4, a5, a6⟩ := lnM_some h1 (M.l k x ex)
  obtain ⟨f, ef, hu, hfk⟩ := fnd_some a2
  rw [getD_at ef] at a4
  have hkk : tchH m p = (k : Int) := hk
  refine ⟨k, i, x, f, hkk, ex, a3.symm, ef, hu, a4, ?_, ?_⟩
  · unfold tchFr
    rw [if_pos h, hkk, Int.toNat_natCast, List.getD_eq_getElem?_getD, ex]
    exact a3.symm
  · rw [← h2]
    have hks : keyI s x.p = keyI m.sp x.p := by
      by_cases h128 : 128 ≤ x.p
      · unfold keyI; rw [if_pos h128, if_pos h128]
      · rcases h3 with h3 | h3
        · obtain ⟨s', hs1, hs2⟩ := (M.tag p).2 x h2 h3
          rw [a1] at hs1
          injection hs1 with hs1
          rw [hs1, h2]; exact hs2
        · exact absurd (a5.2 h3) h128
    rw [← hks]; exact a2
end Go.Proofs.YtnaagdmaggdbmaaGreatDoor
namespace Go.Proofs.YtnaagdmaggdbmaaGreatDoor
open Go.RowKit
set_option maxRecDepth 1000000
set_option maxHeartbeats 4000000 in
theorem l6Fill_any (vb vf vl vo : Value) (m : Ma) (p : Int) (k : Nat) (w : World) (hM : MaR w vb vf vl vo m) (hm : mav m = true) (hk : k < m.t.fs.length) (hok : filOK m.c (tln m p k) = true) :
    Calls Tryz.prog 145 #[.agg #[vb, vf, vl, .int .i64 m.c.hand, .int .i64 m.g.count, .int .i64 m.g.next, .int .i64 m.g.round, vo, .int .i64 m.sp], .int .i64 p, .int .i64 k, .int .i64 (tagT m m.sp p)] w (Post2 fun v w' => ∃ v1 v2 v3 v4, v = .tuple #[.agg #[v1, v2, v3, .int .i64 ({ m with c := filC m.c (tln m p k) } : Ma).c.hand, .int .i64 ({ m with c := filC m.c (tln m p k) } : Ma).g.count, .int .i64 ({ m with c := filC m.c (tln m p k) } : Ma).g.next, .int .i64 ({ m with c := filC m.c (tln m p k) } : Ma).g.round, v4, .int .i64 ({ m with c := filC m.c (tln m p k) } : Ma).sp], .int .i64 (vic m.c)] ∧ MaM w.heap.size w' v1 v2 v3 v4 { m with c := filC m.c (tln m p k) } ∧ Below w.heap.size w w') := by
  obtain ⟨a1, a2, a3, a4⟩ := mav_len hm
  have hbx := (Own.new_ w 34 #[vb, vf, vl, .int .i64 m.c.hand, .int .i64 m.g.count, .int .i64 m.g.next, .int .i64 m.g.round, vo, .int .i64 m.sp]).alloc (o := .cells #[.slice none 0 0, .slice none 0 0, .slice none 0 0, .int .i64 0, .int .i64 0, .int .i64 0, .int .i64 0, .slice none 0 0, .int .i64 0] 34)
  have hbo := ownAt (W := w.alloc (.cells #[vb, vf, vl, .int .i64 m.c.hand, .int .i64 m.g.count, .int .i64 m.g.next, .int .i64 m.g.round, vo, .int .i64 m.sp] 34)) (g := w.heap.size + 1) (t := 34) (cs := #[.slice none 0 0, .slice none 0 0, .slice none 0 0, .int .i64 0, .int .i64 0, .int .i64 0, .int .i64 0, .slice none 0 0, .int .i64 0]) (by simp)
  have hb0 : Below w.heap.size w ((w.alloc (.cells #[vb, vf, vl, .int .i64 m.c.hand, .int .i64 m.g.count, .int .i64 m.g.next, .int .i64 m.g.round, vo, .int .i64 m.sp] 34)).alloc (.cells #[.slice none 0 0, .slice none 0 0, .slice none 0 0, .int .i64 0, .int .i64 0, .int .i64 0, .int .i64 0, .slice none 0 0, .int .i64 0] 34)) := bA (bA bR)
  have hs0 : ((w.alloc (.cells #[vb, vf, vl, .int .i64 m.c.hand, .int .i64 m.g.count, .int .i64 m.g.next, .int .i64 m.g.round, vo, .int .i64 m.sp] 34)).alloc (.cells #[.slice none 0 0, .slice none 0 0, .slice none 0 0, .int .i64 0, .int .i64 0, .int .i64 0, .int .i64 0, .slice none 0 0, .int .i64 0] 34)).heap.size = w.heap.size + 2 := by simp
  generalize hW : (w.alloc (.cells #[vb, vf, vl, .int .i64 m.c.hand, .int .i64 m.g.count, .int .i64 m.g.next, .int .i64 m.g.round, vo, .int .i64 m.sp] 34)).alloc (.cells #[.slice none 0 0, .slice none 0 0, .slice none 0 0, .int .i64 0, .int .i64 0, .int .i64 0, .int .i64 0, .slice none 0 0, .int .i64 0] 34) = W0 at hbx hbo hb0 hs0
  have m0q := hbx.cell_ 0 (v := vb) rfl
  have m1q := hbx.cell_ 1 (v := vf) rfl
  have m2q := hbx.cell_ 2 (v := vl) rfl
  have m3q := hbx.cell_ 3 (v := .int .i64 m.c.hand) rfl
  have m4q := hbx.cell_ 4 (v := .int .i64 m.g.count) rfl
  have m5q := hbx.cell_ 5 (v := .int .i64 m.g.next) rfl
  have m6q := hbx.cell_ 6 (v := .int .i64 m.g.round) rfl
  have m7q := hbx.cell_ 7 (v := vo) rfl
  have m8q := hbx.cell_ 8 (v := .int .i64 m.sp) rfl
  have HX0 := Lib.hid hbx
  have HO0 := Lib.hid hbo
  have HB0 := Lib.hid hb0
  have HM := Lib.hid hM
  clear hbx hbo hb0 hM
  clear m0q m1q m2q m3q m4q m5q m6q m7q m8q
  go_enter Tryz.func145, Tryz.ntmps145
  have m00 := HX0.out.cell_ 0 (v := vb) rfl
  have m10 := HX0.out.cell_ 1 (v := vf) rfl
  have m20 := HX0.out.cell_ 2 (v := vl) rfl
  have m30 := HX0.out.cell_ 3 (v := .int .i64 m.c.hand) rfl
  have m40 := HX0.out.cell_ 4 (v := .int .i64 m.g.count) rfl
  have m50 := HX0.out.cell_ 5 (v := .int .i64 m.g.next) rfl
  have m60 := HX0.out.cell_ 6 (v := .int .i64 m.g.round) rfl
  have m70 := HX0.out.cell_ 7 (v := vo) rfl
  have m80 := HX0.out.cell_ 8 (v := .int .i64 m.sp) rfl
  go_wp2_with fail
  refine (l6Copy_any vb vf vl vo m _ (HM.out.now HB0.out) a1 a2 a3 a4).mono ?_
  rintro e w3 ⟨_, rfl, q1, q2, q3, q4, rfl, hM3, hb3⟩
  have hM3' := hM3.mono (B' := w.heap.size + 2) (Nat.le_of_eq hs0.symm)
  have hs3 : w.heap.size + 2 ≤ w3.heap.size := Nat.le_trans (Nat.le_of_eq hs0.symm) hb3.size
  obtain ⟨B1, d1, rfl, _⟩ := hM3.t.b
  obtain ⟨B2, d2, rfl, _⟩ := hM3.t.f
  obtain ⟨B3, d3, rfl, _⟩ := hM3.l
  obtain ⟨B4, d4, rfl, _⟩ := hM3.o
  have HX3 := Lib.hid (HX0.out.below hb3)
  have HR3 := Lib.hid (HO0.out.below hb3)
  have HB3 := Lib.hid (bT HB0.out hb3)
  clear m00 m10 m20 m30 m40 m50 m60 m70 m80
  have ho4 := Own.new_ w3 34 #[.slice B1 m.t.bs.length d1, .slice B2 m.t.fs.length d2, .slice B3 m.c.ls.length d3, .int .i64 m.c.hand, .int .i64 m.g.count, .int .i64 m.g.next, .int .i64 m.g.round, .slice B4 m.g.os.length d4, .int .i64 m.sp]
  have hb4 : Below w3.heap.size w3 (w3.alloc (.cells #[.slice B1 m.t.bs.length d1, .slice B2 m.t.fs.length d2, .slice B3 m.c.ls.length d3, .int .i64 m.c.hand, .int .i64 m.g.count, .int .i64 m.g.next, .int .i64 m.g.round, .slice B4 m.g.os.length d4, .int .i64 m.sp] 34)) := bA bR
  generalize hW4 : w3.alloc (.cells #[.slice B1 m.t.bs.length d1, .slice B2 m.t.fs.length d2, .slice B3 m.c.ls.length d3, .int .i64 m.c.hand, .int .i64 m.g.count, .int .i64 m.g.next, .int .i64 m.g.round, .slice B4 m.g.os.length d4, .int .i64 m.sp] 34) = w4 at ho4 hb4
  have HM4 := Lib.hid (hM3'.now hb4)
  have HO4 := Lib.hid ho4
  have HX4 := Lib.hid (HX3.out.below hb4)
  have HR4 := Lib.hid (HR3.out.below hb4)
  have HB4 := Lib.hid (bT HB3.out hb4)
  have hs4 := hb4.size
  clear hM3 hM3' ho4 hb3 hb4
  obtain ⟨f, ef⟩ : ∃ f, m.t.fs[k]? = some f := ⟨_, List.getElem?_eq_getElem hk⟩
  have HTL : Hid (tln m p k = ⟨true, tagT m m.sp p, p, k, f.r, false⟩) := by show _ = _; unfold tln; rw [Int.toNat_natCast, getD_at ef]
  obtain ⟨Af, cf, rfl, hfc, hfm, hF⟩ := HM.out.t.f
  obtain ⟨bf, of, rfl, hbf, y0, y1, y2, y3, y4⟩ := (hF.now (Nat.le_refl _) HB4.out).fr ef
  have m04 := HX4.out.cell_ 0 (v := vb) rfl
  have m14 := HX4.out.cell_ 1 (v := .slice (some ⟨bf, of, none⟩) m.t.fs.length cf) rfl
  have m24 := HX4.out.cell_ 2 (v := vl) rfl
  have m34 := HX4.out.cell_ 3 (v := .int .i64 m.c.hand) rfl
  have hlx := HX4.out.lt
  have hlo := HO4.out.lt
  clear y0 y1 y2 y4 ef hF
  go_wp2_with fail
  have hox := Own.new_ w4 106 #[.bool true, .int .i64 (tagT m m.sp p), .int .i64 p, .int .i64 k, .int .i64 f.r, .bool false]
  have hb5 : Below w4.heap.size w4 (w4.alloc (.cells #[.bool true, .int .i64 (tagT m m.sp p), .int .i64 p, .int .i64 k, .int .i64 f.r, .bool false] 106)) := bA bR
  generalize hW5 : w4.alloc (.cells #[.bool true, .int .i64 (tagT m m.sp p), .int .i64 p, .int .i64 k, .int .i64 f.r, .bool false] 106) = w5 at hox hb5 ⊢
  have HM5 := Lib.hid (HM4.out.now hb5)
  have HO5 := Lib.hid (HO4.out.below hb5)
  have HX5 := Lib.hid (HX4.out.below hb5)
  have HR5 := Lib.hid (HR4.out.below hb5)
  have HB5 := Lib.hid (bT HB4.out hb5)
  have hs5 := hb5.size
  have HFL := Lib.hid (sFillLine_any vl m.c (tln m p k) w5 (HM.out.l.now HB5.out))
  rw [filOK_true hok, hok, show filA m.c (tln m p k) = vic m.c by unfold filA; rw [hok, if_pos rfl]] at HFL
  clear hb5 hox
  have HFL2 := HFL.out
  rw [show lnV (tln m p k) = .agg #[.bool true, .int .i64 (tagT m m.sp p), .int .i64 p, .int .i64 k, .int .i64 f.r, .bool false] by unfold lnV; rw [HTL.out]] at HFL2
  have HFL := Lib.hid HFL2
  clear HFL2
  generalize hVC : filC m.c (tln m p k) = V at *
  refine HFL.out.mono ?_
  rintro e w6 ⟨_, rfl, v1, rfl, hL6, hb6⟩
  obtain ⟨B5, d5, rfl, hx5, hy5, hz5⟩ := hL6
  have ho7 := Own.new_ w6 29 #[.slice B5 V.ls.length d5, .int .i64 V.hand]
  have hb7 : Below w6.heap.size w6 (w6.alloc (.cells #[.slice B5 V.ls.length d5, .int .i64 V.hand] 29)) := bA bR
  have HL6 : Hid (SlM lnE 106 w5.heap.size w6 (.slice B5 V.ls.length d5) V.ls) := ⟨B5, d5, rfl, hx5, hy5, hz5⟩
  generalize hW7 : w6.alloc (.cells #[.slice B5 V.ls.length d5, .int .i64 V.hand] 29) = w7 at ho7 hb7
  have HM7 := Lib.hid (HM5.out.now (bT hb6 hb7))
  have HO7 := Lib.hid (HO5.out.below (bT hb6 hb7))
  have HR7 := Lib.hid (HR5.out.below (bT hb6 hb7))
  have HB7 := Lib.hid (bT HB5.out (bT hb6 hb7))
  have HL7 := Lib.hid ((HL6.out.now hb7).mono (show w.heap.size + 2 ≤ w5.heap.size by omega))
  have HC7 := Lib.hid ho7
  clear ho7 HL6 hb6 hb7 m04 m14 m24 m34 y3 HFL
  have c0 := HC7.out.cell_ 0 (v := .slice B5 V.ls.length d5) rfl
  have c1 := HC7.out.cell_ 1 (v := .int .i64 V.hand) rfl
  have hlc := HC7.out.lt
  have r0x := HR7.out.cell_ 0 (v := .slice none 0 0) rfl
  have r1x := HR7.out.cell_ 1 (v := .slice none 0 0) rfl
  have r2x := HR7.out.cell_ 2 (v := .slice none 0 0) rfl
  have r3x := HR7.out.cell_ 3 (v := .int .i64 0) rfl
  have r4x := HR7.out.cell_ 4 (v := .int .i64 0) rfl
  have r5x := HR7.out.cell_ 5 (v := .int .i64 0) rfl
  have r6x := HR7.out.cell_ 6 (v := .int .i64 0) rfl
  have r7x := HR7.out.cell_ 7 (v := .slice none 0 0) rfl
  have r8x := HR7.out.cell_ 8 (v := .int .i64 0) rfl
  have z0x := HR7.out.free 0
  have z1x := HR7.out.free 1
  have z2x := HR7.out.free 2
  have z3x := HR7.out.free 3
  have z4x := HR7.out.free 4
  have z5x := HR7.out.free 5
  have z6x := HR7.out.free 6
  have z7x := HR7.out.free 7
  have z8x := HR7.out.free 8
  have p0o := HO7.out.cell_ 0 (v := .slice B1 m.t.bs.length d1) rfl
  have p1o := HO7.out.cell_ 1 (v := .slice B2 m.t.fs.length d2) rfl
  have p2o := HO7.out.cell_ 2 (v := .slice B3 m.c.ls.length d3) rfl
  have p3o := HO7.out.cell_ 3 (v := .int .i64 m.c.hand) rfl
  have p4o := HO7.out.cell_ 4 (v := .int .i64 m.g.count) rfl
  have p5o := HO7.out.cell_ 5 (v := .int .i64 m.g.next) rfl
  have p6o := HO7.out.cell_ 6 (v := .int .i64 m.g.round) rfl
  have p7o := HO7.out.cell_ 7 (v := .slice B4 m.g.os.length d4) rfl
  have p8o := HO7.out.cell_ 8 (v := .int .i64 m.sp) rfl
  have g2 := HO7.out.free 2
  have g3 := HO7.out.free 3
  have hlr := HR7.out.lt
  have hlo7 := HO7.out.lt
  have hrn : w.heap.size + 1 ≠ w3.heap.size := by omega
  have hrm : w3.heap.size ≠ w.heap.size + 1 := by omega
  have hcn : w6.heap.size ≠ w3.heap.size := HC7.out.ne HO7.out (by decide)
  have hcm : w3.heap.size ≠ w6.heap.size := fun h => hcn h.symm
  go_wp2
  have g1 := (HR7.out.far (p := ⟨w3.heap.size, 2, none⟩) (u := .slice B5 V.ls.length d5) hrn).far (p := ⟨w3.heap.size, 3, none⟩) (u := .int .i64 V.hand) hrn
  have hmm : MaM (w.heap.size + 2) w7 (.slice B1 m.t.bs.length d1) (.slice B2 m.t.fs.length d2) (.slice B5 V.ls.length d5) (.slice B4 m.g.os.length d4) { m with c := V } := ⟨HM7.out.t, HL7.out, HM7.out.o⟩
  have hmm2 := (hmm.farT (u := .slice B5 V.ls.length d5) (i := 2) HO7.out).farT (u := .int .i64 V.hand) (i := 3) (HO7.out.set_ 2 (.slice B5 V.ls.length d5))
  have o3 := g1.set9 (.slice B1 m.t.bs.length d1) (.slice B2 m.t.fs.length d2) (.slice B5 V.ls.length d5) (.int .i64 V.hand) (.int .i64 m.g.count) (.int .i64 m.g.next) (.int .i64 m.g.round) (.slice B4 m.g.os.length d4) (.int .i64 m.sp)
  have p0t := o3.cell_ 0 (v := .slice B1 m.t.bs.length d1) rfl
  have p1t := o3.cell_ 1 (v := .slice B2 m.t.fs.length d2) rfl
  have p2t := o3.cell_ 2 (v := .slice B5 V.ls.length d5) rfl
  have p3t := o3.cell_ 3 (v := .int .i64 ({ m with c := V } : Ma).c.hand) rfl
  have p4t := o3.cell_ 4 (v := .int .i64 ({ m with c := V } : Ma).g.count) rfl
  have p5t := o3.cell_ 5 (v := .int .i64 ({ m with c := V } : Ma).g.next) rfl
  have p6t := o3.cell_ 6 (v := .int .i64 ({ m with c := V } : Ma).g.round) rfl
  have p7t := o3.cell_ 7 (v := .slice B4 m.g.os.length d4) rfl
  have p8t := o3.cell_ 8 (v := .int .i64 ({ m with c := V } : Ma).sp) rfl
  refine bodyPost_ret (v := .tuple #[.agg #[.slice B1 m.t.bs.length d1, .slice B2 m.t.fs.length d2, .slice B5 V.ls.length d5, .int .i64 ({ m with c := V } : Ma).c.hand, .int .i64 ({ m with c := V } : Ma).g.count, .int .i64 ({ m with c := V } : Ma).g.next, .int .i64 ({ m with c := V } : Ma).g.round, .slice B4 m.g.os.length d4, .int .i64 ({ m with c := V } : Ma).sp], .int .i64 (vic m.c)]) (by simp [results, Tryz.results145, go_sem, p0t, p1t, p2t, p3t, p4t, p5t, p6t, p7t, p8t]) rfl ⟨_, rfl, _, _, _, _, by rw [hVC], ?_, ?_⟩
  · rw [hVC]
    exact (hmm2.far9 g1 _ _ _ _ _ _ _ _ _).mono (by omega)
  · repeat (refine bS ?_ (by simp <;> omega))
    exact HB7.out
end Go.Proofs.YtnaagdmaggdbmaaGreatDoor
namespace Go.Proofs.YtnaagdmaggdbmaaGreatDoor
open Go.RowKit
set_option maxRecDepth 1000000
/-- the end: out's box (owned HO, at o, in world wn) goes to the result -/
def tchRet (w : World) (V : Ma) (f r : Int) (v : Value) (w' : World) : Prop := ∃ v1 v2 v3 v4, v = .tuple #[.agg #[v1, v2, v3, .int .i64 V.c.hand, .int .i64 V.g.count, .int .i64 V.g.next, .int .i64 V.g.round, v4, .int .i64 V.sp], .int .i64 f, .int .i64 r, .bool true] ∧ MaM w.heap.size w' v1 v2 v3 v4 V ∧ Below w.heap.size w w'
set_option maxHeartbeats 4000000 in
theorem sTouchPage_any (vb vf vl vo : Value) (m : Ma) (p n : Int) (w : World) (hM : MaR w vb vf vl vo m) :
    Calls Tryz.prog 78 #[.agg #[vb, vf, vl, .int .i64 m.c.hand, .int .i64 m.g.count, .int .i64 m.g.next, .int .i64 m.g.round, vo, .int .i64 m.sp], .int .i64 p, .int .i64 n] w (Post2 fun v w' => ∃ v1 v2 v3 v4, v = .tuple #[.agg #[v1, v2, v3, .int .i64 (tchV m p n).c.hand, .int .i64 (tchV m p n).g.count, .int .i64 (tchV m p n).g.next, .int .i64 (tchV m p n).g.round, v4, .int .i64 (tchV m p n).sp], .int .i64 (tchF m p n), .int .i64 (tchR m p n), .bool (tchO m p n)] ∧ MaM w.heap.size w' v1 v2 v3 v4 (tchV m p n) ∧ Below w.heap.size w w') := by
  have hbx := (Own.new_ w 34 #[vb, vf, vl, .int .i64 m.c.hand, .int .i64 m.g.count, .int .i64 m.g.next, .int .i64 m.g.round, vo, .int .i64 m.sp]).alloc (o := .cells #[.slice none 0 0, .slice none 0 0, .slice none 0 0, .int .i64 0, .int .i64 0, .int .i64 0, .int .i64 0, .slice none 0 0, .int .i64 0] 34)
  have hbo := ownAt (W := w.alloc (.cells #[vb, vf, vl, .int .i64 m.c.hand, .int .i64 m.g.count, .int .i64 m.g.next, .int .i64 m.g.round, vo, .int .i64 m.sp] 34)) (g := w.heap.size + 1) (t := 34) (cs := #[.slice none 0 0, .slice none 0 0, .slice none 0 0, .int .i64 0, .int .i64 0, .int .i64 0, .int .i64 0, .slice none 0 0, .int .i64 0]) (by simp)
  have hb0 : Below w.heap.size w ((w.alloc (.cells #[vb, vf, vl, .int .i64 m.c.hand, .int .i64 m.g.count, .int .i64 m.g.next, .int .i64 m.g.round, vo, .int .i64 m.sp] 34)).alloc (.cells #[.slice none 0 0, .slice none 0 0, .slice none 0 0, .int .i64 0, .int .i64 0, .int .i64 0, .int .i64 0, .slice none 0 0, .int .i64 0] 34)) := bA (bA bR)
  have hs0 : ((w.alloc (.cells #[vb, vf, vl, .int .i64 m.c.hand, .int .i64 m.g.count, .int .i64 m.g.next, .int .i64 m.g.round, vo, .int .i64 m.sp] 34)).alloc (.cells #[.slice none 0 0, .slice none 0 0, .slice none 0 0, .int .i64 0, .int .i64 0, .int .i64 0, .int .i64 0, .slice none 0 0, .int .i64 0] 34)).heap.size = w.heap.size + 2 := by simp
  generalize hW : (w.alloc (.cells #[vb, vf, vl, .int .i64 m.c.hand, .int .i64 m.g.count, .int .i64 m.g.next, .int .i64 m.g.round, vo, .int .i64 m.sp] 34)).alloc (.cells #[.slice none 0 0, .slice none 0 0, .slice none 0 0, .int .i64 0, .int .i64 0, .int .i64 0, .int .i64 0, .slice none 0 0, .int .i64 0] 34) = W0 at hbx hbo hb0 hs0
  have m0q := hbx.cell_ 0 (v := vb) rfl
  have m1q := hbx.cell_ 1 (v := vf) rfl
  have m2q := hbx.cell_ 2 (v := vl) rfl
  have m3q := hbx.cell_ 3 (v := .int .i64 m.c.hand) rfl
  have m4q := hbx.cell_ 4 (v := .int .i64 m.g.count) rfl
  have m5q := hbx.cell_ 5 (v := .int .i64 m.g.next) rfl
  have m6q := hbx.cell_ 6 (v := .int .i64 m.g.round) rfl
  have m7q := hbx.cell_ 7 (v := vo) rfl
  have m8q := hbx.cell_ 8 (v := .int .i64 m.sp) rfl
  have HX0 := Lib.hid hbx
  have HO0 := Lib.hid hbo
  have HB0 := Lib.hid hb0
  have HM := Lib.hid hM
  clear hbx hbo hb0 hM
  clear m0q m1q m2q m3q m4q m5q m6q m7q m8q
  have HS0 : Hid (w.heap.size + 2 ≤ W0.heap.size) := Nat.le_of_eq hs0.symm
  have m00 := HX0.out.cell_ 0 (v := vb) rfl
  have m10 := HX0.out.cell_ 1 (v := vf) rfl
  have m20 := HX0.out.cell_ 2 (v := vl) rfl
  have m30 := HX0.out.cell_ 3 (v := .int .i64 m.c.hand) rfl
  have m40 := HX0.out.cell_ 4 (v := .int .i64 m.g.count) rfl
  have m50 := HX0.out.cell_ 5 (v := .int .i64 m.g.next) rfl
  have m60 := HX0.out.cell_ 6 (v := .int .i64 m.g.round) rfl
  have m70 := HX0.out.cell_ 7 (v := vo) rfl
  have m80 := HX0.out.cell_ 8 (v := .int .i64 m.sp) rfl
  go_enter Tryz.func78, Tryz.ntmps78
  go_wp2_with fail
  refine (sMachineValid_any vb vf vl vo m _ (HM.out.now HB0.out)).mono ?_
  rintro e w1 ⟨rfl, hb1⟩
  have HX1 := Lib.hid (HX0.out.below hb1)
  have HO1 := Lib.hid (HO0.out.below hb1)
  have HB1 := Lib.hid (bT HB0.out hb1)
  have HS1 := Lib.hid (Nat.le_trans HS0.out hb1.size)
  clear hb1
  clear m00 m10 m20 m30 m40 m50 m60 m70 m80
  cases h1 : mav m with
  | false =>
    have HNO : Hid (tchO m p n = false) := by show _ = _; unfold tchO; rw [h1]; rfl
    have HV := Lib.hid (tchO_no HNO.out).1
    have HF := Lib.hid (tchO_no HNO.out).2.1
    have HR := Lib.hid (tchO_no HNO.out).2.2
    have r0x := HO1.out.cell_ 0 (v := .slice none 0 0) rfl
    have r1x := HO1.out.cell_ 1 (v := .slice none 0 0) rfl
    have r2x := HO1.out.cell_ 2 (v := .slice none 0 0) rfl
    have r3x := HO1.out.cell_ 3 (v := .int .i64 0) rfl
    have r4x := HO1.out.cell_ 4 (v := .int .i64 0) rfl
    have r5x := HO1.out.cell_ 5 (v := .int .i64 0) rfl
    have r6x := HO1.out.cell_ 6 (v := .int .i64 0) rfl
    have r7x := HO1.out.cell_ 7 (v := .slice none 0 0) rfl
    have r8x := HO1.out.cell_ 8 (v := .int .i64 0) rfl
    have z0x := HO1.out.free 0
    have z1x := HO1.out.free 1
    have z2x := HO1.out.free 2
    have z3x := HO1.out.free 3
    have z4x := HO1.out.free 4
    have z5x := HO1.out.free 5
    have z6x := HO1.out.free 6
    have z7x := HO1.out.free 7
    have z8x := HO1.out.free 8
    have hlr := HO1.out.lt
    go_wp2
    have o3 := HO1.out.set9 (.slice none 0 0) (.slice none 0 0) (.slice none 0 0) (.int .i64 0) (.int .i64 0) (.int .i64 0) (.int .i64 0) (.slice none 0 0) (.int .i64 0)
    have p0t := o3.cell_ 0 (v := .slice none 0 0) rfl
    have p1t := o3.cell_ 1 (v := .slice none 0 0) rfl
    have p2t := o3.cell_ 2 (v := .slice none 0 0) rfl
    have p3t := o3.cell_ 3 (v := .int .i64 maz.c.hand) rfl
    have p4t := o3.cell_ 4 (v := .int .i64 maz.g.count) rfl
    have p5t := o3.cell_ 5 (v := .int .i64 maz.g.next) rfl
    have p6t := o3.cell_ 6 (v := .int .i64 maz.g.round) rfl
    have p7t := o3.cell_ 7 (v := .slice none 0 0) rfl
    have p8t := o3.cell_ 8 (v := .int .i64 maz.sp) rfl
    refine bodyPost_ret (v := .tuple #[.agg #[.slice none 0 0, .slice none 0 0, .slice none 0 0, .int .i64 0, .int .i64 0, .int .i64 0, .int .i64 0, .slice none 0 0, .int .i64 0], .int .i64 0, .int .i64 0, .bool false]) (by simp [results, Tryz.results78, go_sem, p0t, p1t, p2t, p3t, p4t, p5t, p6t, p7t, p8t, maz, caz, tgz]) rfl ⟨_, rfl, _, _, _, _, by rw [HV.out, HF.out, HR.out, HNO.out]; rfl, by rw [HV.out]; exact mam_z, ?_⟩
    repeat (refine bS ?_ (by simp <;> omega))
    exact HB1.out
  | true =>
  cases h2 : inR p 256 with
  | false =>
    have HNO : Hid (tchO m p n = false) := by show _ = _; unfold tchO; rw [h2]; simp
    go_wp2_with fail
    refine (l1Page_any _ _).mono ?_
    rintro e w' ⟨rfl, rfl⟩
    rw [h2]
    have HV := Lib.hid (tchO_no HNO.out).1
    have HF := Lib.hid (tchO_no HNO.out).2.1
    have HR := Lib.hid (tchO_no HNO.out).2.2
    have r0x := HO1.out.cell_ 0 (v := .slice none 0 0) rfl
    have r1x := HO1.out.cell_ 1 (v := .slice none 0 0) rfl
    have r2x := HO1.out.cell_ 2 (v := .slice none 0 0) rfl
    have r3x := HO1.out.cell_ 3 (v := .int .i64 0) rfl
    have r4x := HO1.out.cell_ 4 (v := .int .i64 0) rfl
    have r5x := HO1.out.cell_ 5 (v := .int .i64 0) rfl
    have r6x := HO1.out.cell_ 6 (v := .int .i64 0) rfl
    have r7x := HO1.out.cell_ 7 (v := .slice none 0 0) rfl
    have r8x := HO1.out.cell_ 8 (v := .int .i64 0) rfl
    have z0x := HO1.out.free 0
    have z1x := HO1.out.free 1
    have z2x := HO1.out.free 2
    have z3x := HO1.out.free 3
    have z4x := HO1.out.free 4
    have z5x := HO1.out.free 5
    have z6x := HO1.out.free 6
    have z7x := HO1.out.free 7
    have z8x := HO1.out.free 8
    have hlr := HO1.out.lt
    go_wp2
    have o3 := HO1.out.set9 (.slice none 0 0) (.slice none 0 0) (.slice none 0 0) (.int .i64 0) (.int .i64 0) (.int .i64 0) (.int .i64 0) (.slice none 0 0) (.int .i64 0)
    have p0t := o3.cell_ 0 (v := .slice none 0 0) rfl
    have p1t := o3.cell_ 1 (v := .slice none 0 0) rfl
    have p2t := o3.cell_ 2 (v := .slice none 0 0) rfl
    have p3t := o3.cell_ 3 (v := .int .i64 maz.c.hand) rfl
    have p4t := o3.cell_ 4 (v := .int .i64 maz.g.count) rfl
    have p5t := o3.cell_ 5 (v := .int .i64 maz.g.next) rfl
    have p6t := o3.cell_ 6 (v := .int .i64 maz.g.round) rfl
    have p7t := o3.cell_ 7 (v := .slice none 0 0) rfl
    have p8t := o3.cell_ 8 (v := .int .i64 maz.sp) rfl
    refine bodyPost_ret (v := .tuple #[.agg #[.slice none 0 0, .slice none 0 0, .slice none 0 0, .int .i64 0, .int .i64 0, .int .i64 0, .int .i64 0, .slice none 0 0, .int .i64 0], .int .i64 0, .int .i64 0, .bool false]) (by simp [results, Tryz.results78, go_sem, p0t, p1t, p2t, p3t, p4t, p5t, p6t, p7t, p8t, maz, caz, tgz]) rfl ⟨_, rfl, _, _, _, _, by rw [HV.out, HF.out, HR.out, HNO.out]; rfl, by rw [HV.out]; exact mam_z, ?_⟩
    repeat (refine bS ?_ (by simp <;> omega))
    exact HB1.out
  | true =>
  cases h3 : inR n 8 with
  | false =>
    have HNO : Hid (tchO m p n = false) := by show _ = _; unfold tchO; rw [h3]; simp
    go_wp2_with fail
    refine (l1Page_any _ _).mono ?_
    rintro e w' ⟨rfl, rfl⟩
    rw [h2]
    go_wp2_with fail
    refine (sRightsValid_any _ _).mono ?_
    rintro e w' ⟨rfl, rfl⟩
    rw [h3]
    have HV := Lib.hid (tchO_no HNO.out).1
    have HF := Lib.hid (tchO_no HNO.out).2.1
    have HR := Lib.hid (tchO_no HNO.out).2.2
    have r0x := HO1.out.cell_ 0 (v := .slice none 0 0) rfl
    have r1x := HO1.out.cell_ 1 (v := .slice none 0 0) rfl
    have r2x := HO1.out.cell_ 2 (v := .slice none 0 0) rfl
    have r3x := HO1.out.cell_ 3 (v := .int .i64 0) rfl
    have r4x := HO1.out.cell_ 4 (v := .int .i64 0) rfl
    have r5x := HO1.out.cell_ 5 (v := .int .i64 0) rfl
    have r6x := HO1.out.cell_ 6 (v := .int .i64 0) rfl
    have r7x := HO1.out.cell_ 7 (v := .slice none 0 0) rfl
    have r8x := HO1.out.cell_ 8 (v := .int .i64 0) rfl
    have z0x := HO1.out.free 0
    have z1x := HO1.out.free 1
    have z2x := HO1.out.free 2
    have z3x := HO1.out.free 3
    have z4x := HO1.out.free 4
    have z5x := HO1.out.free 5
    have z6x := HO1.out.free 6
    have z7x := HO1.out.free 7
    have z8x := HO1.out.free 8
    have hlr := HO1.out.lt
    go_wp2
    have o3 := HO1.out.set9 (.slice none 0 0) (.slice none 0 0) (.slice none 0 0) (.int .i64 0) (.int .i64 0) (.int .i64 0) (.int .i64 0) (.slice none 0 0) (.int .i64 0)
    have p0t := o3.cell_ 0 (v := .slice none 0 0) rfl
    have p1t := o3.cell_ 1 (v := .slice none 0 0) rfl
    have p2t := o3.cell_ 2 (v := .slice none 0 0) rfl
    have p3t := o3.cell_ 3 (v := .int .i64 maz.c.hand) rfl
    have p4t := o3.cell_ 4 (v := .int .i64 maz.g.count) rfl
    have p5t := o3.cell_ 5 (v := .int .i64 maz.g.next) rfl
    have p6t := o3.cell_ 6 (v := .int .i64 maz.g.round) rfl
    have p7t := o3.cell_ 7 (v := .slice none 0 0) rfl
    have p8t := o3.cell_ 8 (v := .int .i64 maz.sp) rfl
    refine bodyPost_ret (v := .tuple #[.agg #[.slice none 0 0, .slice none 0 0, .slice none 0 0, .int .i64 0, .int .i64 0, .int .i64 0, .int .i64 0, .slice none 0 0, .int .i64 0], .int .i64 0, .int .i64 0, .bool false]) (by simp [results, Tryz.results78, go_sem, p0t, p1t, p2t, p3t, p4t, p5t, p6t, p7t, p8t, maz, caz, tgz]) rfl ⟨_, rfl, _, _, _, _, by rw [HV.out, HF.out, HR.out, HNO.out]; rfl, by rw [HV.out]; exact mam_z, ?_⟩
    repeat (refine bS ?_ (by simp <;> omega))
    exact HB1.out
  | true =>
  have HOK : Hid (tchO m p n = true) := by show _ = _; unfold tchO; rw [h1, h2, h3]; rfl
  obtain ⟨a1, a2, a3, a4⟩ := mav_len h1
  have MM := mav_MV.1 h1
  go_wp2_with fail
  refine (l1Page_any _ _).mono ?_
  rintro e w' ⟨rfl, rfl⟩
  rw [h2]
  go_wp2_with fail
  refine (sRightsValid_any _ _).mono ?_
  rintro e w' ⟨rfl, rfl⟩
  rw [h3]
  have m01 := HX1.out.cell_ 0 (v := vb) rfl
  have m11 := HX1.out.cell_ 1 (v := vf) rfl
  have m21 := HX1.out.cell_ 2 (v := vl) rfl
  have m31 := HX1.out.cell_ 3 (v := .int .i64 m.c.hand) rfl
  have m41 := HX1.out.cell_ 4 (v := .int .i64 m.g.count) rfl
  have m51 := HX1.out.cell_ 5 (v := .int .i64 m.g.next) rfl
  have m61 := HX1.out.cell_ 6 (v := .int .i64 m.g.round) rfl
  have m71 := HX1.out.cell_ 7 (v := vo) rfl
  have m81 := HX1.out.cell_ 8 (v := .int .i64 m.sp) rfl
  go_wp2_with fail
  refine (l6Tag_any vb vf vl vo m m.sp p _ (HM.out.now HB1.out) MM.g).mono ?_
  rintro e w2 ⟨rfl, hb2⟩
  have HX2 := Lib.hid (HX1.out.below hb2)
  have HO2 := Lib.hid (HO1.out.below hb2)
  have HB2 := Lib.hid (bT HB1.out hb2)
  have HS2 := Lib.hid (Nat.le_trans HS1.out hb2.size)
  clear hb2
  clear m01 m11 m21 m31 m41 m51 m61 m71 m81
  have m02 := HX2.out.cell_ 0 (v := vb) rfl
  have m12 := HX2.out.cell_ 1 (v := vf) rfl
  have m22 := HX2.out.cell_ 2 (v := vl) rfl
  have m32 := HX2.out.cell_ 3 (v := .int .i64 m.c.hand) rfl
  have m42 := HX2.out.cell_ 4 (v := .int .i64 m.g.count) rfl
  have m52 := HX2.out.cell_ 5 (v := .int .i64 m.g.next) rfl
  have m62 := HX2.out.cell_ 6 (v := .int .i64 m.g.round) rfl
  have m72 := HX2.out.cell_ 7 (v := vo) rfl
  have m82 := HX2.out.cell_ 8 (v := .int .i64 m.sp) rfl
  go_wp2_with fail
  refine (l6Copy_any vb vf vl vo m _ (HM.out.now HB2.out) a1 a2 a3 a4).mono ?_
  rintro e w3 ⟨_, rfl, q1, q2, q3, q4, rfl, hM3, hb3⟩
  have hs2 := HS2.out
  have hM3' := hM3.mono hs2
  obtain ⟨B1, d1, rfl, _⟩ := hM3.t.b
  obtain ⟨B2, d2, rfl, _⟩ := hM3.t.f
  obtain ⟨B3, d3, rfl, _⟩ := hM3.l
  obtain ⟨B4, d4, rfl, _⟩ := hM3.o
  have HX3 := Lib.hid (HX2.out.below hb3)
  have HO3 := Lib.hid (HO2.out.below hb3)
  have HB3 := Lib.hid (bT HB2.out hb3)
  have HS3 := Lib.hid (Nat.le_trans HS2.out hb3.size)
  clear hb3
  clear m02 m12 m22 m32 m42 m52 m62 m72 m82
  have hs3 := HS3.out
  have ho4 := Own.new_ w3 34 #[.slice B1 m.t.bs.length d1, .slice B2 m.t.fs.length d2, .slice B3 m.c.ls.length d3, .int .i64 m.c.hand, .int .i64 m.g.count, .int .i64 m.g.next, .int .i64 m.g.round, .slice B4 m.g.os.length d4, .int .i64 m.sp]
  have hb4 : Below w3.heap.size w3 (w3.alloc (.cells #[.slice B1 m.t.bs.length d1, .slice B2 m.t.fs.length d2, .slice B3 m.c.ls.length d3, .int .i64 m.c.hand, .int .i64 m.g.count, .int .i64 m.g.next, .int .i64 m.g.round, .slice B4 m.g.os.length d4, .int .i64 m.sp] 34)) := bA bR
  generalize hW4 : w3.alloc (.cells #[.slice B1 m.t.bs.length d1, .slice B2 m.t.fs.length d2, .slice B3 m.c.ls.length d3, .int .i64 m.c.hand, .int .i64 m.g.count, .int .i64 m.g.next, .int .i64 m.g.round, .slice B4 m.g.os.length d4, .int .i64 m.sp] 34) = w4 at ho4 hb4
  have HM4 := Lib.hid (hM3'.now hb4)
  have HU4 := Lib.hid ho4
  have HX4 := Lib.hid (HX3.out.below hb4)
  have HO4 := Lib.hid (HO3.out.below hb4)
  have HB4 := Lib.hid (bT HB3.out hb4)
  have HS4 := Lib.hid (Nat.le_trans HS3.out hb4.size)
  clear hb4
  clear hM3 hM3' ho4
  have m04 := HX4.out.cell_ 0 (v := vb) rfl
  have m14 := HX4.out.cell_ 1 (v := vf) rfl
  have m24 := HX4.out.cell_ 2 (v := vl) rfl
  have m34 := HX4.out.cell_ 3 (v := .int .i64 m.c.hand) rfl
  have m44 := HX4.out.cell_ 4 (v := .int .i64 m.g.count) rfl
  have m54 := HX4.out.cell_ 5 (v := .int .i64 m.g.next) rfl
  have m64 := HX4.out.cell_ 6 (v := .int .i64 m.g.round) rfl
  have m74 := HX4.out.cell_ 7 (v := vo) rfl
  have m84 := HX4.out.cell_ 8 (v := .int .i64 m.sp) rfl
  go_wp2_with fail
  refine (l4Find_any vl m.c (tagT m m.sp p) p _ (HM.out.l.now HB4.out)).mono ?_
  rintro e w5 ⟨rfl, hb5⟩
  have HM5 := Lib.hid (HM4.out.now hb5)
  have HU5 := Lib.hid (HU4.out.below hb5)
  have HX5 := Lib.hid (HX4.out.below hb5)
  have HO5 := Lib.hid (HO4.out.below hb5)
  have HB5 := Lib.hid (bT HB4.out hb5)
  have HS5 := Lib.hid (Nat.le_trans HS4.out hb5.size)
  clear hb5
  clear m04 m14 m24 m34 m44 m54 m64 m74 m84
  clear hW4
  rw [show plcI m.c.ls (tagT m m.sp p) p = tchH m p from rfl]
  by_cases hh : 0 ≤ tchH m p
  case pos =>
    obtain ⟨k, i, x, f, hk, ex, hxf, ef, hu, hfr, hti, _⟩ := MM.hit hh
    rw [hk]
    have HVV : Hid (tchV m p n = m) := by show _ = _; unfold tchV; rw [HOK.out, if_pos rfl, if_pos hh]
    have HFF : Hid (tchF m p n = (i : Int)) := by show _ = _; unfold tchF; rw [HOK.out, if_pos rfl, hti]
    have HAA : Hid (tchA m p n = alw f.r n) := by show _ = _; unfold tchA; rw [hti, Int.toNat_natCast, getD_at ef]
    have HRR : Hid (tchR m p n = if alw f.r n = true then 1 else 4) := by show _ = _; unfold tchR; rw [HOK.out, if_pos rfl, if_pos hh, HAA.out]
    obtain ⟨Al, cl, rfl, hlc, hlm, hL⟩ := HM.out.l
    obtain ⟨Af, cf, rfl, hfc, hfm, hF⟩ := HM.out.t.f
    obtain ⟨bl, ol, rfl, hbl, x0, x1, x2, x3, x4, x5⟩ := (hL.now (Nat.le_refl _) HB5.out).ln ex
    obtain ⟨bf, of, rfl, hbf, y0, y1, y2, y3, y4⟩ := (hF.now (Nat.le_refl _) HB5.out).fr ef
    rw [hxf] at x3
    have hkl := (List.getElem?_eq_some_iff.1 ex).1
    have hil := (List.getElem?_eq_some_iff.1 ef).1
    have m15 := HX5.out.cell_ 1 (v := .slice (some ⟨bf, of, none⟩) m.t.fs.length cf) rfl
    have m25 := HX5.out.cell_ 2 (v := .slice (some ⟨bl, ol, none⟩) m.c.ls.length cl) rfl
    clear x0 x1 x2 x4 x5 y0 y1 y2 y4 hL hF ex ef hh hk hti hxf hfr hu
    go_wp2_with fail
    refine (sAllows_any _ _ _).mono ?_
    rintro e w' ⟨rfl, rfl⟩
    cases hal : alw f.r n with
    | true =>
      rw [hal] at HRR
      have r0x := HO5.out.cell_ 0 (v := .slice none 0 0) rfl
      have r1x := HO5.out.cell_ 1 (v := .slice none 0 0) rfl
      have r2x := HO5.out.cell_ 2 (v := .slice none 0 0) rfl
      have r3x := HO5.out.cell_ 3 (v := .int .i64 0) rfl
      have r4x := HO5.out.cell_ 4 (v := .int .i64 0) rfl
      have r5x := HO5.out.cell_ 5 (v := .int .i64 0) rfl
      have r6x := HO5.out.cell_ 6 (v := .int .i64 0) rfl
      have r7x := HO5.out.cell_ 7 (v := .slice none 0 0) rfl
      have r8x := HO5.out.cell_ 8 (v := .int .i64 0) rfl
      have z0x := HO5.out.free 0
      have z1x := HO5.out.free 1
      have z2x := HO5.out.free 2
      have z3x := HO5.out.free 3
      have z4x := HO5.out.free 4
      have z5x := HO5.out.free 5
      have z6x := HO5.out.free 6
      have z7x := HO5.out.free 7
      have z8x := HO5.out.free 8
      have p0o := HU5.out.cell_ 0 (v := .slice B1 m.t.bs.length d1) rfl
      have p1o := HU5.out.cell_ 1 (v := .slice B2 m.t.fs.length d2) rfl
      have p2o := HU5.out.cell_ 2 (v := .slice B3 m.c.ls.length d3) rfl
      have p3o := HU5.out.cell_ 3 (v := .int .i64 m.c.hand) rfl
      have p4o := HU5.out.cell_ 4 (v := .int .i64 m.g.count) rfl
      have p5o := HU5.out.cell_ 5 (v := .int .i64 m.g.next) rfl
      have p6o := HU5.out.cell_ 6 (v := .int .i64 m.g.round) rfl
      have p7o := HU5.out.cell_ 7 (v := .slice B4 m.g.os.length d4) rfl
      have p8o := HU5.out.cell_ 8 (v := .int .i64 m.sp) rfl
      have hlr := HO5.out.lt
      have hlu := HU5.out.lt
      go_wp2
      have o3 := HO5.out.set9 (.slice B1 m.t.bs.length d1) (.slice B2 m.t.fs.length d2) (.slice B3 m.c.ls.length d3) (.int .i64 (m).c.hand) (.int .i64 (m).g.count) (.int .i64 (m).g.next) (.int .i64 (m).g.round) (.slice B4 m.g.os.length d4) (.int .i64 (m).sp)
      have p0t := o3.cell_ 0 (v := .slice B1 m.t.bs.length d1) rfl
      have p1t := o3.cell_ 1 (v := .slice B2 m.t.fs.length d2) rfl
      have p2t := o3.cell_ 2 (v := .slice B3 m.c.ls.length d3) rfl
      have p3t := o3.cell_ 3 (v := .int .i64 m.c.hand) rfl
      have p4t := o3.cell_ 4 (v := .int .i64 m.g.count) rfl
      have p5t := o3.cell_ 5 (v := .int .i64 m.g.next) rfl
      have p6t := o3.cell_ 6 (v := .int .i64 m.g.round) rfl
      have p7t := o3.cell_ 7 (v := .slice B4 m.g.os.length d4) rfl
      have p8t := o3.cell_ 8 (v := .int .i64 m.sp) rfl
      refine bodyPost_ret (v := .tuple #[.agg #[.slice B1 m.t.bs.length d1, .slice B2 m.t.fs.length d2, .slice B3 m.c.ls.length d3, .int .i64 m.c.hand, .int .i64 m.g.count, .int .i64 m.g.next, .int .i64 m.g.round, .slice B4 m.g.os.length d4, .int .i64 m.sp], .int .i64 (i), .int .i64 (1), .bool true]) (by simp [results, Tryz.results78, go_sem, p0t, p1t, p2t, p3t, p4t, p5t, p6t, p7t, p8t]) rfl ⟨_, rfl, _, _, _, _, by (rw [HVV.out, HFF.out, HRR.out, HOK.out]) <;> rfl, ?_, ?_⟩
      · rw [HVV.out]
        exact (HM5.out.far9 HO5.out _ _ _ _ _ _ _ _ _).mono (by omega)
      · repeat (refine bS ?_ (by simp <;> omega))
        exact HB5.out
    | false =>
      rw [hal] at HRR
      have r0x := HO5.out.cell_ 0 (v := .slice none 0 0) rfl
      have r1x := HO5.out.cell_ 1 (v := .slice none 0 0) rfl
      have r2x := HO5.out.cell_ 2 (v := .slice none 0 0) rfl
      have r3x := HO5.out.cell_ 3 (v := .int .i64 0) rfl
      have r4x := HO5.out.cell_ 4 (v := .int .i64 0) rfl
      have r5x := HO5.out.cell_ 5 (v := .int .i64 0) rfl
      have r6x := HO5.out.cell_ 6 (v := .int .i64 0) rfl
      have r7x := HO5.out.cell_ 7 (v := .slice none 0 0) rfl
      have r8x := HO5.out.cell_ 8 (v := .int .i64 0) rfl
      have z0x := HO5.out.free 0
      have z1x := HO5.out.free 1
      have z2x := HO5.out.free 2
      have z3x := HO5.out.free 3
      have z4x := HO5.out.free 4
      have z5x := HO5.out.free 5
      have z6x := HO5.out.free 6
      have z7x := HO5.out.free 7
      have z8x := HO5.out.free 8
      have p0o := HU5.out.cell_ 0 (v := .slice B1 m.t.bs.length d1) rfl
      have p1o := HU5.out.cell_ 1 (v := .slice B2 m.t.fs.length d2) rfl
      have p2o := HU5.out.cell_ 2 (v := .slice B3 m.c.ls.length d3) rfl
      have p3o := HU5.out.cell_ 3 (v := .int .i64 m.c.hand) rfl
      have p4o := HU5.out.cell_ 4 (v := .int .i64 m.g.count) rfl
      have p5o := HU5.out.cell_ 5 (v := .int .i64 m.g.next) rfl
      have p6o := HU5.out.cell_ 6 (v := .int .i64 m.g.round) rfl
      have p7o := HU5.out.cell_ 7 (v := .slice B4 m.g.os.length d4) rfl
      have p8o := HU5.out.cell_ 8 (v := .int .i64 m.sp) rfl
      have hlr := HO5.out.lt
      have hlu := HU5.out.lt
      go_wp2
      have o3 := HO5.out.set9 (.slice B1 m.t.bs.length d1) (.slice B2 m.t.fs.length d2) (.slice B3 m.c.ls.length d3) (.int .i64 (m).c.hand) (.int .i64 (m).g.count) (.int .i64 (m).g.next) (.int .i64 (m).g.round) (.slice B4 m.g.os.length d4) (.int .i64 (m).sp)
      have p0t := o3.cell_ 0 (v := .slice B1 m.t.bs.length d1) rfl
      have p1t := o3.cell_ 1 (v := .slice B2 m.t.fs.length d2) rfl
      have p2t := o3.cell_ 2 (v := .slice B3 m.c.ls.length d3) rfl
      have p3t := o3.cell_ 3 (v := .int .i64 m.c.hand) rfl
      have p4t := o3.cell_ 4 (v := .int .i64 m.g.count) rfl
      have p5t := o3.cell_ 5 (v := .int .i64 m.g.next) rfl
      have p6t := o3.cell_ 6 (v := .int .i64 m.g.round) rfl
      have p7t := o3.cell_ 7 (v := .slice B4 m.g.os.length d4) rfl
      have p8t := o3.cell_ 8 (v := .int .i64 m.sp) rfl
      refine bodyPost_ret (v := .tuple #[.agg #[.slice B1 m.t.bs.length d1, .slice B2 m.t.fs.length d2, .slice B3 m.c.ls.length d3, .int .i64 m.c.hand, .int .i64 m.g.count, .int .i64 m.g.next, .int .i64 m.g.round, .slice B4 m.g.os.length d4, .int .i64 m.sp], .int .i64 (i), .int .i64 (4), .bool true]) (by simp [results, Tryz.results78, go_sem, p0t, p1t, p2t, p3t, p4t, p5t, p6t, p7t, p8t]) rfl ⟨_, rfl, _, _, _, _, by (rw [HVV.out, HFF.out, HRR.out, HOK.out]) <;> rfl, ?_, ?_⟩
      · rw [HVV.out]
        exact (HM5.out.far9 HO5.out _ _ _ _ _ _ _ _ _).mono (by omega)
      · repeat (refine bS ?_ (by simp <;> omega))
        exact HB5.out
  case neg =>
    have HNH : Hid (¬ 0 ≤ tchH m p) := hh
    have HK := Lib.hid (sKeyFor_any m.sp p)
    have hkv : kval (keyI m.sp p, p) = true := by
      obtain ⟨kk, o, hk, eo, ho⟩ := ownI_lt MM.o
      obtain ⟨_, ht⟩ := tgv_parts MM.g
      obtain ⟨o', eo', q1, _⟩ := tok_at ht (List.getElem?_eq_some_iff.1 eo).1
      rw [eo] at eo'
      injection eo' with eo'
      rw [← eo', ho] at q1
      unfold kval keyI
      simp only [h2, Bool.and_true]
      split
      · rfl
      · exact q1
    have htv : tv m.t = true := tv_TV.2 MM.t
    have HFN := Lib.hid (fun W (h : TaR W vb vf m.t) => l3Find_any vb vf m.t (keyI m.sp p) p W h htv hkv)
    rw [show fndI m.t.fs (keyI m.sp p) p = tchK m p from rfl] at HFN
    have m05 := HX5.out.cell_ 0 (v := vb) rfl
    have m15 := HX5.out.cell_ 1 (v := vf) rfl
    have m85 := HX5.out.cell_ 8 (v := .int .i64 m.sp) rfl
    go_wp2
    go_region_held_law (fun w' => w'.cell? ⟨w.heap.size, 0, none⟩ = some vb ∧ w'.cell? ⟨w.heap.size, 1, none⟩ = some vf ∧ w'.cell? ⟨w.heap.size, 8, none⟩ = some (.int .i64 m.sp)) (go_keep) (first
      | (go_at_call 49
         refine (HK.out _).mono ?_
         rintro _ w6 ⟨rfl, hb6⟩
         have HM6 := Lib.hid (HM5.out.now (bT (bD bR) hb6))
         have HU6 := Lib.hid (HU5.out.drew.below hb6)
         have HX6 := Lib.hid (HX5.out.drew.below hb6)
         have HO6 := Lib.hid (HO5.out.drew.below hb6)
         have HB6 := Lib.hid (bT (bD HB5.out) hb6)
         have d0 := HX6.out.cell_ 0 (v := vb) rfl
         have d1 := HX6.out.cell_ 1 (v := vf) rfl
         have d2 := HX6.out.cell_ 8 (v := .int .i64 m.sp) rfl
         clear hb6)
      | (go_at_call 144
         refine (HFN.out _ (HM.out.t.now HB6.out)).mono ?_
         rintro _ w7 ⟨stp, rfl, hb7⟩
         have HM7 := Lib.hid (HM6.out.now hb7)
         have HU7 := Lib.hid (HU6.out.below hb7)
         have HX7 := Lib.hid (HX6.out.below hb7)
         have HO7 := Lib.hid (HO6.out.below hb7)
         have HB7 := Lib.hid (bT HB6.out hb7)
         have e0 := HX7.out.cell_ 0 (v := vb) rfl
         have e1 := HX7.out.cell_ 1 (v := vf) rfl
         have e2 := HX7.out.cell_ 8 (v := .int .i64 m.sp) rfl
         clear hb7 d0 d1 d2))
    all_goals
      clear m05 m15 m85 e0 e1 e2
      have hnh : ¬ 0 ≤ tchH m p := by have := HNH.out; omega
      by_cases hf : 0 ≤ tchK m p
      case neg =>
        have HVV : Hid (tchV m p n = m) := by show _ = _; unfold tchV; rw [HOK.out, if_pos rfl, if_neg hnh, if_neg hf]
        have HFF : Hid (tchF m p n = 0) := by show _ = _; unfold tchF tchFr; rw [HOK.out, if_pos rfl, if_neg hnh, if_neg hf]
        have HRR : Hid (tchR m p n = 3) := by show _ = _; unfold tchR; rw [HOK.out, if_pos rfl, if_neg hnh, if_neg hf]
        have hfb : tchK m p < 0 := by omega
        have r0x := HO7.out.cell_ 0 (v := .slice none 0 0) rfl
        have r1x := HO7.out.cell_ 1 (v := .slice none 0 0) rfl
        have r2x := HO7.out.cell_ 2 (v := .slice none 0 0) rfl
        have r3x := HO7.out.cell_ 3 (v := .int .i64 0) rfl
        have r4x := HO7.out.cell_ 4 (v := .int .i64 0) rfl
        have r5x := HO7.out.cell_ 5 (v := .int .i64 0) rfl
        have r6x := HO7.out.cell_ 6 (v := .int .i64 0) rfl
        have r7x := HO7.out.cell_ 7 (v := .slice none 0 0) rfl
        have r8x := HO7.out.cell_ 8 (v := .int .i64 0) rfl
        have z0x := HO7.out.free 0
        have z1x := HO7.out.free 1
        have z2x := HO7.out.free 2
        have z3x := HO7.out.free 3
        have z4x := HO7.out.free 4
        have z5x := HO7.out.free 5
        have z6x := HO7.out.free 6
        have z7x := HO7.out.free 7
        have z8x := HO7.out.free 8
        have p0o := HU7.out.cell_ 0 (v := .slice B1 m.t.bs.length d1) rfl
        have p1o := HU7.out.cell_ 1 (v := .slice B2 m.t.fs.length d2) rfl
        have p2o := HU7.out.cell_ 2 (v := .slice B3 m.c.ls.length d3) rfl
        have p3o := HU7.out.cell_ 3 (v := .int .i64 m.c.hand) rfl
        have p4o := HU7.out.cell_ 4 (v := .int .i64 m.g.count) rfl
        have p5o := HU7.out.cell_ 5 (v := .int .i64 m.g.next) rfl
        have p6o := HU7.out.cell_ 6 (v := .int .i64 m.g.round) rfl
        have p7o := HU7.out.cell_ 7 (v := .slice B4 m.g.os.length d4) rfl
        have p8o := HU7.out.cell_ 8 (v := .int .i64 m.sp) rfl
        have hlr := HO7.out.lt
        have hlu := HU7.out.lt
        go_wp2
        have o3 := HO7.out.set9 (.slice B1 m.t.bs.length d1) (.slice B2 m.t.fs.length d2) (.slice B3 m.c.ls.length d3) (.int .i64 (m).c.hand) (.int .i64 (m).g.count) (.int .i64 (m).g.next) (.int .i64 (m).g.round) (.slice B4 m.g.os.length d4) (.int .i64 (m).sp)
        have p0t := o3.cell_ 0 (v := .slice B1 m.t.bs.length d1) rfl
        have p1t := o3.cell_ 1 (v := .slice B2 m.t.fs.length d2) rfl
        have p2t := o3.cell_ 2 (v := .slice B3 m.c.ls.length d3) rfl
        have p3t := o3.cell_ 3 (v := .int .i64 m.c.hand) rfl
        have p4t := o3.cell_ 4 (v := .int .i64 m.g.count) rfl
        have p5t := o3.cell_ 5 (v := .int .i64 m.g.next) rfl
        have p6t := o3.cell_ 6 (v := .int .i64 m.g.round) rfl
        have p7t := o3.cell_ 7 (v := .slice B4 m.g.os.length d4) rfl
        have p8t := o3.cell_ 8 (v := .int .i64 m.sp) rfl
        refine bodyPost_ret (v := .tuple #[.agg #[.slice B1 m.t.bs.length d1, .slice B2 m.t.fs.length d2, .slice B3 m.c.ls.length d3, .int .i64 m.c.hand, .int .i64 m.g.count, .int .i64 m.g.next, .int .i64 m.g.round, .slice B4 m.g.os.length d4, .int .i64 m.sp], .int .i64 (0), .int .i64 (3), .bool true]) (by simp [results, Tryz.results78, go_sem, p0t, p1t, p2t, p3t, p4t, p5t, p6t, p7t, p8t]) rfl ⟨_, rfl, _, _, _, _, by (rw [HVV.out, HFF.out, HRR.out, HOK.out]) <;> rfl, ?_, ?_⟩
        · rw [HVV.out]
          exact (HM7.out.far9 HO7.out _ _ _ _ _ _ _ _ _).mono (by omega)
        · repeat (refine bS ?_ (by simp <;> omega))
          exact HB7.out
      case pos =>
        obtain ⟨k, hk, hfd⟩ := fndI_fnd (show 0 ≤ fndI m.t.fs (keyI m.sp p) p from hf)
        obtain ⟨f, ef, hu, _⟩ := fnd_some hfd
        have hkk : tchK m p = (k : Int) := hk
        have hok := (MM.fill h2 hnh hfd).1
        have HVV : Hid (tchV m p n = { m with c := filC m.c (tln m p k) }) := by show _ = _; unfold tchV; rw [HOK.out, if_pos rfl, if_neg hnh, if_pos hf, hkk]
        have hti : tchFr m p = (k : Int) := by unfold tchFr; rw [if_neg hnh, if_pos hf, hkk]
        have HFF : Hid (tchF m p n = (k : Int)) := by show _ = _; unfold tchF; rw [HOK.out, if_pos rfl, hti]
        have HAA : Hid (tchA m p n = alw f.r n) := by show _ = _; unfold tchA; rw [hti, Int.toNat_natCast, getD_at ef]
        have HRR : Hid (tchR m p n = if alw f.r n = true then 2 else 4) := by show _ = _; unfold tchR; rw [HOK.out, if_pos rfl, if_neg hnh, if_pos hf, HAA.out]
        have hkl := (List.getElem?_eq_some_iff.1 ef).1
        have hfb : ¬ (k : Int) < 0 := by omega
        have HC := Lib.hid (fun W (h : MaR W vb vf vl vo m) => l6Fill_any vb vf vl vo m p k W h h1 hkl hok)
        rw [hkk]
        have m07 := HX7.out.cell_ 0 (v := vb) rfl
        have m17 := HX7.out.cell_ 1 (v := vf) rfl
        have m27 := HX7.out.cell_ 2 (v := vl) rfl
        have m37 := HX7.out.cell_ 3 (v := .int .i64 m.c.hand) rfl
        have m47 := HX7.out.cell_ 4 (v := .int .i64 m.g.count) rfl
        have m57 := HX7.out.cell_ 5 (v := .int .i64 m.g.next) rfl
        have m67 := HX7.out.cell_ 6 (v := .int .i64 m.g.round) rfl
        have m77 := HX7.out.cell_ 7 (v := vo) rfl
        have m87 := HX7.out.cell_ 8 (v := .int .i64 m.sp) rfl
        have EF := Lib.hid ef
        clear hk hfd ef hu hkk hok hti hf hnh
        generalize hVC : filC m.c (tln m p k) = V at *
        go_wp2_with fail
        refine (HC.out _ (HM.out.now HB7.out)).mono ?_
        rintro e w8 ⟨_, rfl, e1, e2, e3, e4, rfl, hM8, hb8⟩
        have HM8 := Lib.hid (hM8.mono (show w.heap.size + 2 ≤ w7.heap.size by have := HU7.out.lt; omega))
        obtain ⟨E1, n1, rfl, _⟩ := hM8.t.b
        obtain ⟨E2, n2, rfl, _⟩ := hM8.t.f
        obtain ⟨E3, n3, rfl, _⟩ := hM8.l
        obtain ⟨E4, n4, rfl, _⟩ := hM8.o
        have HU8 := Lib.hid (HU7.out.below hb8)
        have HX8 := Lib.hid (HX7.out.below hb8)
        have HO8 := Lib.hid (HO7.out.below hb8)
        have HB8 := Lib.hid (bT HB7.out hb8)
        clear m07 m17 m27 m37 m47 m57 m67 m77 m87
        clear hM8 hb8 HC
        have p0u := HU8.out.cell_ 0 (v := .slice B1 m.t.bs.length d1) rfl
        have p1u := HU8.out.cell_ 1 (v := .slice B2 m.t.fs.length d2) rfl
        have p2u := HU8.out.cell_ 2 (v := .slice B3 m.c.ls.length d3) rfl
        have p3u := HU8.out.cell_ 3 (v := .int .i64 m.c.hand) rfl
        have p4u := HU8.out.cell_ 4 (v := .int .i64 m.g.count) rfl
        have p5u := HU8.out.cell_ 5 (v := .int .i64 m.g.next) rfl
        have p6u := HU8.out.cell_ 6 (v := .int .i64 m.g.round) rfl
        have p7u := HU8.out.cell_ 7 (v := .slice B4 m.g.os.length d4) rfl
        have p8u := HU8.out.cell_ 8 (v := .int .i64 m.sp) rfl
        have w0u := HU8.out.free 0
        have w1u := HU8.out.free 1
        have w2u := HU8.out.free 2
        have w3u := HU8.out.free 3
        have w4u := HU8.out.free 4
        have w5u := HU8.out.free 5
        have w6u := HU8.out.free 6
        have w7u := HU8.out.free 7
        have w8u := HU8.out.free 8
        have hu9 := HU8.out.set9 (.slice E1 m.t.bs.length n1) (.slice E2 m.t.fs.length n2) (.slice E3 V.ls.length n3) (.int .i64 V.hand) (.int .i64 m.g.count) (.int .i64 m.g.next) (.int .i64 m.g.round) (.slice E4 m.g.os.length n4) (.int .i64 m.sp)
        have hx9 := HX8.out.far9 (g := w3.heap.size) (by omega) (.slice E1 m.t.bs.length n1) (.slice E2 m.t.fs.length n2) (.slice E3 V.ls.length n3) (.int .i64 V.hand) (.int .i64 m.g.count) (.int .i64 m.g.next) (.int .i64 m.g.round) (.slice E4 m.g.os.length n4) (.int .i64 m.sp)
        have ho9 := HO8.out.far9 (g := w3.heap.size) (by omega) (.slice E1 m.t.bs.length n1) (.slice E2 m.t.fs.length n2) (.slice E3 V.ls.length n3) (.int .i64 V.hand) (.int .i64 m.g.count) (.int .i64 m.g.next) (.int .i64 m.g.round) (.slice E4 m.g.os.length n4) (.int .i64 m.sp)
        have hm9 := HM8.out.far9 HU8.out (.slice E1 m.t.bs.length n1) (.slice E2 m.t.fs.length n2) (.slice E3 V.ls.length n3) (.int .i64 V.hand) (.int .i64 m.g.count) (.int .i64 m.g.next) (.int .i64 m.g.round) (.slice E4 m.g.os.length n4) (.int .i64 m.sp)
        have hb9 : Below w.heap.size w (((((((((w8.setCell ⟨w3.heap.size, 0, none⟩ (.slice E1 m.t.bs.length n1)).setCell ⟨w3.heap.size, 1, none⟩ (.slice E2 m.t.fs.length n2)).setCell ⟨w3.heap.size, 2, none⟩ (.slice E3 V.ls.length n3)).setCell ⟨w3.heap.size, 3, none⟩ (.int .i64 V.hand)).setCell ⟨w3.heap.size, 4, none⟩ (.int .i64 m.g.count)).setCell ⟨w3.heap.size, 5, none⟩ (.int .i64 m.g.next)).setCell ⟨w3.heap.size, 6, none⟩ (.int .i64 m.g.round)).setCell ⟨w3.heap.size, 7, none⟩ (.slice E4 m.g.os.length n4)).setCell ⟨w3.heap.size, 8, none⟩ (.int .i64 m.sp)) := by
          repeat (refine bS ?_ (by simp <;> omega))
          exact HB8.out
        generalize hW9 : ((((((((w8.setCell ⟨w3.heap.size, 0, none⟩ (.slice E1 m.t.bs.length n1)).setCell ⟨w3.heap.size, 1, none⟩ (.slice E2 m.t.fs.length n2)).setCell ⟨w3.heap.size, 2, none⟩ (.slice E3 V.ls.length n3)).setCell ⟨w3.heap.size, 3, none⟩ (.int .i64 V.hand)).setCell ⟨w3.heap.size, 4, none⟩ (.int .i64 m.g.count)).setCell ⟨w3.heap.size, 5, none⟩ (.int .i64 m.g.next)).setCell ⟨w3.heap.size, 6, none⟩ (.int .i64 m.g.round)).setCell ⟨w3.heap.size, 7, none⟩ (.slice E4 m.g.os.length n4)).setCell ⟨w3.heap.size, 8, none⟩ (.int .i64 m.sp) = w9 at hu9 hx9 ho9 hm9 hb9
        have HU9 := Lib.hid hu9
        have HX9 := Lib.hid hx9
        have HO9 := Lib.hid ho9
        have HM9 := Lib.hid hm9
        have HB9 := Lib.hid hb9
        clear hu9 hx9 ho9 hm9 hb9
        obtain ⟨Af, cf, rfl, hfc, hfm, hF⟩ := HM.out.t.f
        obtain ⟨bf, of, rfl, hbf, y0, y1, y2, y3, y4⟩ := (hF.now (Nat.le_refl _) HB9.out).fr EF.out
        have m19 := HX9.out.cell_ 1 (v := .slice (some ⟨bf, of, none⟩) m.t.fs.length cf) rfl
        have hlu8 := HU8.out.lt
        clear y0 y1 y2 y4 hF
        go_wp2_with fail
        refine (sAllows_any _ _ _).mono ?_
        rintro e w' ⟨rfl, rfl⟩
        clear m19 y3 p0u p1u p2u p3u p4u p5u p6u p7u p8u w0u w1u w2u w3u w4u w5u w6u w7u w8u hW9
        cases hal : alw f.r n with
        | true =>
          rw [hal] at HRR
          have r0x := HO9.out.cell_ 0 (v := .slice none 0 0) rfl
          have r1x := HO9.out.cell_ 1 (v := .slice none 0 0) rfl
          have r2x := HO9.out.cell_ 2 (v := .slice none 0 0) rfl
          have r3x := HO9.out.cell_ 3 (v := .int .i64 0) rfl
          have r4x := HO9.out.cell_ 4 (v := .int .i64 0) rfl
          have r5x := HO9.out.cell_ 5 (v := .int .i64 0) rfl
          have r6x := HO9.out.cell_ 6 (v := .int .i64 0) rfl
          have r7x := HO9.out.cell_ 7 (v := .slice none 0 0) rfl
          have r8x := HO9.out.cell_ 8 (v := .int .i64 0) rfl
          have z0x := HO9.out.free 0
          have z1x := HO9.out.free 1
          have z2x := HO9.out.free 2
          have z3x := HO9.out.free 3
          have z4x := HO9.out.free 4
          have z5x := HO9.out.free 5
          have z6x := HO9.out.free 6
          have z7x := HO9.out.free 7
          have z8x := HO9.out.free 8
          have p0o := HU9.out.cell_ 0 (v := .slice E1 m.t.bs.length n1) rfl
          have p1o := HU9.out.cell_ 1 (v := .slice E2 m.t.fs.length n2) rfl
          have p2o := HU9.out.cell_ 2 (v := .slice E3 V.ls.length n3) rfl
          have p3o := HU9.out.cell_ 3 (v := .int .i64 ({ m with c := V } : Ma).c.hand) rfl
          have p4o := HU9.out.cell_ 4 (v := .int .i64 ({ m with c := V } : Ma).g.count) rfl
          have p5o := HU9.out.cell_ 5 (v := .int .i64 ({ m with c := V } : Ma).g.next) rfl
          have p6o := HU9.out.cell_ 6 (v := .int .i64 ({ m with c := V } : Ma).g.round) rfl
          have p7o := HU9.out.cell_ 7 (v := .slice E4 m.g.os.length n4) rfl
          have p8o := HU9.out.cell_ 8 (v := .int .i64 ({ m with c := V } : Ma).sp) rfl
          have hlr := HO9.out.lt
          have hlu := HU9.out.lt
          go_wp2
          have o3 := HO9.out.set9 (.slice E1 m.t.bs.length n1) (.slice E2 m.t.fs.length n2) (.slice E3 V.ls.length n3) (.int .i64 (({ m with c := V } : Ma)).c.hand) (.int .i64 (({ m with c := V } : Ma)).g.count) (.int .i64 (({ m with c := V } : Ma)).g.next) (.int .i64 (({ m with c := V } : Ma)).g.round) (.slice E4 m.g.os.length n4) (.int .i64 (({ m with c := V } : Ma)).sp)
          have p0t := o3.cell_ 0 (v := .slice E1 m.t.bs.length n1) rfl
          have p1t := o3.cell_ 1 (v := .slice E2 m.t.fs.length n2) rfl
          have p2t := o3.cell_ 2 (v := .slice E3 V.ls.length n3) rfl
          have p3t := o3.cell_ 3 (v := .int .i64 ({ m with c := V } : Ma).c.hand) rfl
          have p4t := o3.cell_ 4 (v := .int .i64 ({ m with c := V } : Ma).g.count) rfl
          have p5t := o3.cell_ 5 (v := .int .i64 ({ m with c := V } : Ma).g.next) rfl
          have p6t := o3.cell_ 6 (v := .int .i64 ({ m with c := V } : Ma).g.round) rfl
          have p7t := o3.cell_ 7 (v := .slice E4 m.g.os.length n4) rfl
          have p8t := o3.cell_ 8 (v := .int .i64 ({ m with c := V } : Ma).sp) rfl
          refine bodyPost_ret (v := .tuple #[.agg #[.slice E1 m.t.bs.length n1, .slice E2 m.t.fs.length n2, .slice E3 V.ls.length n3, .int .i64 ({ m with c := V } : Ma).c.hand, .int .i64 ({ m with c := V } : Ma).g.count, .int .i64 ({ m with c := V } : Ma).g.next, .int .i64 ({ m with c := V } : Ma).g.round, .slice E4 m.g.os.length n4, .int .i64 ({ m with c := V } : Ma).sp], .int .i64 (k), .int .i64 (2), .bool true]) (by simp [results, Tryz.results78, go_sem, p0t, p1t, p2t, p3t, p4t, p5t, p6t, p7t, p8t]) rfl ⟨_, rfl, _, _, _, _, by (rw [HVV.out, HFF.out, HRR.out, HOK.out]) <;> rfl, ?_, ?_⟩
          · rw [HVV.out]
            exact (HM9.out.far9 HO9.out _ _ _ _ _ _ _ _ _).mono (by omega)
          · repeat (refine bS ?_ (by simp <;> omega))
            exact HB9.out
        | false =>
          rw [hal] at HRR
          have r0x := HO9.out.cell_ 0 (v := .slice none 0 0) rfl
          have r1x := HO9.out.cell_ 1 (v := .slice none 0 0) rfl
          have r2x := HO9.out.cell_ 2 (v := .slice none 0 0) rfl
          have r3x := HO9.out.cell_ 3 (v := .int .i64 0) rfl
          have r4x := HO9.out.cell_ 4 (v := .int .i64 0) rfl
          have r5x := HO9.out.cell_ 5 (v := .int .i64 0) rfl
          have r6x := HO9.out.cell_ 6 (v := .int .i64 0) rfl
          have r7x := HO9.out.cell_ 7 (v := .slice none 0 0) rfl
          have r8x := HO9.out.cell_ 8 (v := .int .i64 0) rfl
          have z0x := HO9.out.free 0
          have z1x := HO9.out.free 1
          have z2x := HO9.out.free 2
          have z3x := HO9.out.free 3
          have z4x := HO9.out.free 4
          have z5x := HO9.out.free 5
          have z6x := HO9.out.free 6
          have z7x := HO9.out.free 7
          have z8x := HO9.out.free 8
          have p0o := HU9.out.cell_ 0 (v := .slice E1 m.t.bs.length n1) rfl
          have p1o := HU9.out.cell_ 1 (v := .slice E2 m.t.fs.length n2) rfl
          have p2o := HU9.out.cell_ 2 (v := .slice E3 V.ls.length n3) rfl
          have p3o := HU9.out.cell_ 3 (v := .int .i64 ({ m with c := V } : Ma).c.hand) rfl
          have p4o := HU9.out.cell_ 4 (v := .int .i64 ({ m with c := V } : Ma).g.count) rfl
          have p5o := HU9.out.cell_ 5 (v := .int .i64 ({ m with c := V } : Ma).g.next) rfl
          have p6o := HU9.out.cell_ 6 (v := .int .i64 ({ m with c := V } : Ma).g.round) rfl
          have p7o := HU9.out.cell_ 7 (v := .slice E4 m.g.os.length n4) rfl
          have p8o := HU9.out.cell_ 8 (v := .int .i64 ({ m with c := V } : Ma).sp) rfl
          have hlr := HO9.out.lt
          have hlu := HU9.out.lt
          go_wp2
          have o3 := HO9.out.set9 (.slice E1 m.t.bs.length n1) (.slice E2 m.t.fs.length n2) (.slice E3 V.ls.length n3) (.int .i64 (({ m with c := V } : Ma)).c.hand) (.int .i64 (({ m with c := V } : Ma)).g.count) (.int .i64 (({ m with c := V } : Ma)).g.next) (.int .i64 (({ m with c := V } : Ma)).g.round) (.slice E4 m.g.os.length n4) (.int .i64 (({ m with c := V } : Ma)).sp)
          have p0t := o3.cell_ 0 (v := .slice E1 m.t.bs.length n1) rfl
          have p1t := o3.cell_ 1 (v := .slice E2 m.t.fs.length n2) rfl
          have p2t := o3.cell_ 2 (v := .slice E3 V.ls.length n3) rfl
          have p3t := o3.cell_ 3 (v := .int .i64 ({ m with c := V } : Ma).c.hand) rfl
          have p4t := o3.cell_ 4 (v := .int .i64 ({ m with c := V } : Ma).g.count) rfl
          have p5t := o3.cell_ 5 (v := .int .i64 ({ m with c := V } : Ma).g.next) rfl
          have p6t := o3.cell_ 6 (v := .int .i64 ({ m with c := V } : Ma).g.round) rfl
          have p7t := o3.cell_ 7 (v := .slice E4 m.g.os.length n4) rfl
          have p8t := o3.cell_ 8 (v := .int .i64 ({ m with c := V } : Ma).sp) rfl
          refine bodyPost_ret (v := .tuple #[.agg #[.slice E1 m.t.bs.length n1, .slice E2 m.t.fs.length n2, .slice E3 V.ls.length n3, .int .i64 ({ m with c := V } : Ma).c.hand, .int .i64 ({ m with c := V } : Ma).g.count, .int .i64 ({ m with c := V } : Ma).g.next, .int .i64 ({ m with c := V } : Ma).g.round, .slice E4 m.g.os.length n4, .int .i64 ({ m with c := V } : Ma).sp], .int .i64 (k), .int .i64 (4), .bool true]) (by simp [results, Tryz.results78, go_sem, p0t, p1t, p2t, p3t, p4t, p5t, p6t, p7t, p8t]) rfl ⟨_, rfl, _, _, _, _, by (rw [HVV.out, HFF.out, HRR.out, HOK.out]) <;> rfl, ?_, ?_⟩
          · rw [HVV.out]
            exact (HM9.out.far9 HO9.out _ _ _ _ _ _ _ _ _).mono (by omega)
          · repeat (refine bS ?_ (by simp <;> omega))
            exact HB9.out
end Go.Proofs.YtnaagdmaggdbmaaGreatDoor
namespace Go.Proofs.YtnaagdmaggdbmaaGreatDoor
open Go.RowKit
set_option maxRecDepth 1000000
/-- what an operation of a drawing region leaves: calls with more results -/
inductive RL where
  | eq (u : Value)
  | ma (m : Ma)
  | tup (m : Ma) (rs : List Value)
  | box
  | boxed (m : Ma)
def RL.at_ (b si j : Nat) : RL → Value → World → Prop
  | .eq u0, u, _ => u = u0
  | .ma m, u, v => ∃ e1 e2 e3 e4, u = .agg #[e1, e2, e3, .int .i64 m.c.hand, .int .i64 m.g.count, .int .i64 m.g.next, .int .i64 m.g.round, e4, .int .i64 m.sp] ∧ MaM b v e1 e2 e3 e4 m
  | .tup m rs, u, v => ∃ e1 e2 e3 e4, u = .tuple (List.toArray (.agg #[e1, e2, e3, .int .i64 m.c.hand, .int .i64 m.g.count, .int .i64 m.g.next, .int .i64 m.g.round, e4, .int .i64 m.sp] :: rs)) ∧ MaM b v e1 e2 e3 e4 m
  | .box, u, v => ∃ g a0 a1 a2 a3 a4 a5 a6 a7 a8, u = .pointer (some ⟨g, 0, none⟩) ∧ b ≤ g ∧ Own v g 34 #[a0, a1, a2, a3, a4, a5, a6, a7, a8]
  | .boxed m, u, v => j = si ∧ ∃ g e1 e2 e3 e4, u = .pointer (some ⟨g, 0, none⟩) ∧ b ≤ g ∧ Own v g 34 #[e1, e2, e3, .int .i64 m.c.hand, .int .i64 m.g.count, .int .i64 m.g.next, .int .i64 m.g.round, e4, .int .i64 m.sp] ∧ MaM b v e1 e2 e3 e4 m
def rls (b si : Nat) (ks : List RL) (j : Nat) (u : Value) (v : World) : Prop := match ks[j]? with | some k => k.at_ b si j u v | none => True
theorem rls_keep {b si : Nat} {ks : List RL} {i j : Nat} {u : Value} {v v' : World} (hij : i ≠ j) (h : rls b si ks j u v) (ht : tA si i v v') : rls b si ks j u v' := by
  have ho := ht.oth
  unfold rls at h ⊢
  cases hk : ks[j]? with
  | none => trivial
  | some k =>
    rw [hk] at h
    cases k with
    | eq u0 => exact h
    | ma m => obtain ⟨e1, e2, e3, e4, h1, h2⟩ := h; exact ⟨e1, e2, e3, e4, h1, h2.othM ho⟩
    | tup m o => obtain ⟨e1, e2, e3, e4, h1, h2⟩ := h; exact ⟨e1, e2, e3, e4, h1, h2.othM ho⟩
    | box =>
      obtain ⟨g, a0, a1, a2, a3, a4, a5, a6, a7, a8, h1, h2, h3⟩ := h
      unfold tA at ht
      split at ht
      · obtain ⟨b0, b1, b2, b3, b4, b5, b6, b7, b8, h4⟩ := ht.2 g _ _ _ _ _ _ _ _ _ h3
        exact ⟨g, b0, b1, b2, b3, b4, b5, b6, b7, b8, h1, h2, h4⟩
      · exact ⟨g, a0, a1, a2, a3, a4, a5, a6, a7, a8, h1, h2, h3.below ht⟩
    | boxed m =>
      obtain ⟨hj, g, e1, e2, e3, e4, h1, h2, h3, h4⟩ := h
      unfold tA at ht
      rw [if_neg (by omega)] at ht
      exact ⟨hj, g, e1, e2, e3, e4, h1, h2, h3.below ht, h4.othM ho⟩
end Go.Proofs.YtnaagdmaggdbmaaGreatDoor
namespace Go.Proofs.YtnaagdmaggdbmaaGreatDoor
open Go.RowKit
theorem rgV_small {O : Ma → Nat → Bool} {V : Ma → Nat → Ma} (hV : ∀ m' k, O m' k = true → smallM m' → smallM (V m' k)) (m : Ma) (c : Int) : smallM (rgV O V m c) := by
  unfold rgV
  cases h : rgO O V m c with
  | none => exact smallM_z
  | some m' =>
    unfold rgO at h
    split at h
    · rename_i hv
      exact rgN_keep hV (mav_len hv.1) _ m' h
    · cases h
theorem unmV_small {t : Tab} {s p : Int} (h1 : t.bs.length ≤ 1048576) (h2 : t.fs.length ≤ 1048576) : (unmV t s p).bs.length ≤ 1048576 ∧ (unmV t s p).fs.length ≤ 1048576 := by
  unfold unmV
  split
  · unfold unmT
    simp only
    split
    · simp only [List.length_set]; exact ⟨h1, h2⟩
    · simp only [List.length_set, List.length_map]; exact ⟨h1, h2⟩
  · exact ⟨Nat.zero_le _, Nat.zero_le _⟩
theorem prV_small {t : Tab} {s p r : Int} (h1 : t.bs.length ≤ 1048576) (h2 : t.fs.length ≤ 1048576) : (prV t s p r).bs.length ≤ 1048576 ∧ (prV t s p r).fs.length ≤ 1048576 := by
  unfold prV
  split
  · unfold prT
    simp only [List.length_set]; exact ⟨h1, h2⟩
  · exact ⟨Nat.zero_le _, Nat.zero_le _⟩
theorem drpM_small {m : Ma} {t : Tab} {s p : Int} (h : smallM m) (ht : t.bs.length ≤ 1048576 ∧ t.fs.length ≤ 1048576) : smallM (drpM m t s p) :=
  ⟨ht.1, ht.2, by show (drpC m s p).ls.length ≤ _; rw [drpC_len]; exact h.2.2.1, h.2.2.2⟩
theorem grdV_small {m : Ma} {s p r : Int} (h : smallM m) : smallM (grdV m s p r) := by
  unfold grdV
  split
  · exact drpM_small h (prV_small h.1 h.2.1)
  · exact smallM_z
theorem takV_small {m : Ma} {s p : Int} (h : smallM m) : smallM (takV m s p) := by
  unfold takV
  split
  · exact drpM_small h (unmV_small h.1 h.2.1)
  · exact smallM_z
end Go.Proofs.YtnaagdmaggdbmaaGreatDoor
namespace Go.Proofs.YtnaagdmaggdbmaaGreatDoor
open Go.RowKit
set_option maxRecDepth 1000000
/-! ### kinds of what a drawing region's operations leave, for any types -/
/-- a store into variables of type ty (n cells) -/
def stS (ty : TypeId) (n : Nat) (v v' : World) : Prop := Oth (fun e => e = ty) v v' ∧ ∀ (g : Nat) (cs : Array Value), cs.size = n → Own v g ty cs → ∃ cs' : Array Value, cs'.size = n ∧ Own v' g ty cs'
structure KD (S : World → World → Prop) (si : Nat) where
  P : Nat → Value → World → Prop
  kb : ∀ (j : Nat) (u : Value) (v v' : World), P j u v → Below v.heap.size v v' → P j u v'
  ks : ∀ (j : Nat) (u : Value) (v v' : World), j ≠ si → P j u v → S v v' → P j u v'
def kds {S : World → World → Prop} {si : Nat} (ks : List (KD S si)) (j : Nat) (u : Value) (v : World) : Prop := match ks[j]? with | some k => k.P j u v | none => True
def tK (S : World → World → Prop) (si i : Nat) (v v' : World) : Prop := if i = si then S v v' else Below v.heap.size v v'
theorem kds_keep {S : World → World → Prop} {si : Nat} {ks : List (KD S si)} {i j : Nat} {u : Value} {v v' : World} (hij : i ≠ j) (h : kds ks j u v) (ht : tK S si i v v') : kds ks j u v' := by
  unfold kds at h ⊢
  cases hk : ks[j]? with
  | none => trivial
  | some k =>
    rw [hk] at h
    unfold tK at ht
    split at ht
    · rename_i hi
      exact k.ks j u v v' (by omega) h ht
    · exact k.kb j u v v' h ht
theorem tK_below {S : World → World → Prop} {si i : Nat} {v v' : World} (hi : i ≠ si) (h : Below v.heap.size v v') : tK S si i v v' := by
  unfold tK
  rw [if_neg hi]
  exact h
theorem tK_same {S : World → World → Prop} (hS : ∀ v, S v v) {si i : Nat} {v : World} : tK S si i v v := by
  unfold tK
  split
  · exact hS v
  · exact bR
theorem stS_same (ty : TypeId) (n : Nat) (v : World) : stS ty n v v := ⟨Oth.of_below bR, fun g cs h1 h2 => ⟨cs, h1, h2⟩⟩
theorem tK_store {S : World → World → Prop} {si : Nat} {v v' : World} (h : S v v') : tK S si si v v' := by
  unfold tK
  rw [if_pos rfl]
  exact h
theorem SlM.oth {α : Type} {E : Enc α} {e : TypeId} {b : Nat} {w w' : World} {v : Value} {l : List α} {p : TypeId → Prop} (h : SlM E e b w v l) (ho : Oth p w w') (he : ¬ p e) : SlM E e b w' v l :=
  let ⟨A, c, h1, h2, h3, h4⟩ := h; ⟨A, c, h1, h2, h3, h4.oth ho he⟩
section
variable {ty : TypeId} {n si : Nat}
/-- a value -/
def KD.eq (u0 : Value) : KD (stS ty n) si where
  P := fun _ u _ => u = u0
  kb := fun _ _ _ _ h _ => h
  ks := fun _ _ _ _ _ h _ => h
/-- a value that holds a row of the call's own -/
def KD.row {α : Type} (E : Enc α) (e : TypeId) (b : Nat) (l : List α) (he : e ≠ ty) (f : Value → Value) : KD (stS ty n) si where
  P := fun _ u v => ∃ v1, u = f v1 ∧ SlM E e b v v1 l
  kb := fun _ _ _ _ ⟨v1, h1, h2⟩ hb => ⟨v1, h1, h2.now hb⟩
  ks := fun _ _ _ _ _ ⟨v1, h1, h2⟩ hs => ⟨v1, h1, h2.oth hs.1 he⟩
/-- a new variable -/
def KD.box (b : Nat) : KD (stS ty n) si where
  P := fun _ u v => ∃ (g : Nat) (cs : Array Value), u = .pointer (some ⟨g, 0, none⟩) ∧ b ≤ g ∧ cs.size = n ∧ Own v g ty cs
  kb := fun _ _ _ _ ⟨g, cs, h1, h2, h3, h4⟩ hb => ⟨g, cs, h1, h2, h3, h4.below hb⟩
  ks := fun _ _ _ _ _ ⟨g, cs, h1, h2, h3, h4⟩ hs => let ⟨cs', e1, e2⟩ := hs.2 g cs h3 h4; ⟨g, cs', h1, h2, e1, e2⟩
/-- the variable, stored -/
def KD.boxed {α : Type} (E : Enc α) (e : TypeId) (b : Nat) (l : List α) (f : Value → Array Value) : KD (stS ty n) si where
  P := fun j u v => j = si ∧ ∃ (g : Nat) (v1 : Value), u = .pointer (some ⟨g, 0, none⟩) ∧ b ≤ g ∧ Own v g ty (f v1) ∧ SlM E e b v v1 l
  kb := fun _ _ _ _ ⟨hj, g, v1, h1, h2, h3, h4⟩ hb => ⟨hj, g, v1, h1, h2, h3.below hb, h4.now hb⟩
  ks := fun _ _ _ _ hne ⟨hj, _⟩ _ => absurd hj hne
end
theorem stS_set {ty : TypeId} {n : Nat} {v : World} {g i : Nat} {cs : Array Value} {u : Value} (ho : Own v g ty cs) : stS ty n v (v.setCell ⟨g, i, none⟩ u) := by
  have same : ∀ (g' : Nat) (e : TypeId) (cs' : Array Value), Own v g' e cs' → g' = g → e = ty ∧ cs' = cs := by
    rintro g' e cs' h rfl
    unfold Own at h ho
    rw [ho] at h
    injection h with h
    injection h with h1 h2
    exact ⟨h2.symm, h1.symm⟩
  refine ⟨⟨by simp, fun g' e cs' h hne => ?_⟩, fun g' cs' hn h => ?_⟩
  · by_cases hg : g' = g
    · exact absurd (same g' e cs' h hg).1 hne
    · exact h.far hg
  · by_cases hg : g' = g
    · subst hg
      obtain ⟨_, rfl⟩ := same g' ty cs' h rfl
      exact ⟨_, by simpa using hn, ho.set_ i u⟩
    · exact ⟨cs', hn, h.far hg⟩
theorem stS_trans {ty : TypeId} {n : Nat} {v v' v'' : World} (h : stS ty n v v') (k : stS ty n v' v'') : stS ty n v v'' := by
  refine ⟨⟨Nat.le_trans h.1.1 k.1.1, fun g e cs o hne => k.1.2 g e cs (h.1.2 g e cs o hne) hne⟩, fun g cs hn o => ?_⟩
  obtain ⟨cs', e1, e2⟩ := h.2 g cs hn o
  exact k.2 g cs' e1 e2
end Go.Proofs.YtnaagdmaggdbmaaGreatDoor
namespace Go.Proofs.YtnaagdmaggdbmaaGreatDoor
open Go.RowKit
set_option maxRecDepth 1000000
theorem Allows_any (r n : Int) (w : World) : Calls Tryz.prog 105 #[.int .i64 r, .int .i64 n] w fun e w' => e = .returned (.bool (alw r n)) ∧ w = w' := by
  cases h1 : inR r 8 with
  | false =>
    have H : Hid (alw r n = false) := by show _ = _; unfold alw; rw [h1]; rfl
    go_enter Tryz.func105, Tryz.ntmps105
    go_wp2_with fail
    refine (RightsValid_any _ _).mono ?_
    rintro e w' ⟨rfl, rfl⟩
    rw [h1]
    go_wp2
    go_ret
    exact ⟨by rw [H.out]; rfl, rfl⟩
  | true =>
    cases h2 : inR n 8 with
    | false =>
      have H : Hid (alw r n = false) := by show _ = _; unfold alw; rw [h2, Bool.and_false]; rfl
      go_enter Tryz.func105, Tryz.ntmps105
      go_wp2_with fail
      refine (RightsValid_any _ _).mono ?_
      rintro e w' ⟨rfl, rfl⟩
      rw [h1]
      go_wp2_with fail
      refine (RightsValid_any _ _).mono ?_
      rintro e w' ⟨rfl, rfl⟩
      rw [h2]
      go_wp2
      go_ret
      exact ⟨by rw [H.out]; rfl, rfl⟩
    | true =>
      have H : Hid (alw r n = decide (r.toNat &&& n.toNat = n.toNat)) := by show _ = _; unfold alw; rw [h1, h2]; rfl
      go_enter Tryz.func105, Tryz.ntmps105
      go_wp2_with fail
      refine (RightsValid_any _ _).mono ?_
      rintro e w' ⟨rfl, rfl⟩
      rw [h1]
      go_wp2_with fail
      refine (RightsValid_any _ _).mono ?_
      rintro e w' ⟨rfl, rfl⟩
      rw [h2]
      have HBT := Lib.hid (bits_andNot h1 h2)
      go_wp2
      go_ret
      refine ⟨?_, rfl⟩
      rw [H.out]
      show Ending.returned (.bool (bits BinOp.andNot IntKind.i64 n r == 0)) = _
      rw [HBT.out]
set_option maxHeartbeats 4000000 in
theorem VictimOf_any (vl : Value) (c : Ca) (w : World) (hT : SlR lnE w vl c.ls) :
    Calls Tryz.prog 173 #[.agg #[vl, .int .i64 c.hand]] w fun r w' => r = .returned (.tuple #[.int .i64 (if cav c = true then (vic c : Int) else 0), .bool (cav c)]) ∧ Below w.heap.size w w' := by
  have HV0 := Lib.hid hT
  obtain ⟨A, cc, rfl, hbc, hbm, hL⟩ := hT
  have HL := Lib.hid hL
  have hbx := Own.new_ w 29 #[.slice A c.ls.length cc, .int .i64 c.hand]
  have hbz : Below w.heap.size w (w.alloc (.cells #[.slice A c.ls.length cc, .int .i64 c.hand] 29)) := bA bR
  generalize hW : w.alloc (.cells #[.slice A c.ls.length cc, .int .i64 c.hand] 29) = W0 at hbx hbz
  have q0 := hbx.cell_ 0 (v := .slice A c.ls.length cc) rfl
  have q1 := hbx.cell_ 1 (v := .int .i64 c.hand) rfl
  have HBX := Lib.hid hbx
  clear hL hbx
  cases hv : cav c with
  | false =>
    go_enter Tryz.func173, Tryz.ntmps173
    go_wp2_with fail
    refine (CacheValid_any _ c _ (HV0.out.now hbz)).mono ?_
    rintro e w1 ⟨rfl, hb1⟩
    rw [hv]
    have hbw := bT hbz hb1
    go_wp2
    go_ret2
    exact ⟨rfl, hbw⟩
  | true =>
    have hcv := cav_CV.1 hv
    have hfm2 : c.ls.length ≤ 8 := hcv.sz.2
    rw [if_pos rfl]
    go_enter Tryz.func173, Tryz.ntmps173
    go_wp2_with fail
    refine (CacheValid_any _ c _ (HV0.out.now hbz)).mono ?_
    rintro e w1 ⟨rfl, hb1⟩
    rw [hv]
    have HBX1 := Lib.hid (HBX.out.below hb1)
    have HB1 := Lib.hid (bT hbz hb1)
    have HCV := Lib.hid hcv
    clear hb1 q0 q1 hbz hcv hv HV0 HBX
    have q0 := HBX1.out.cell_ 0 (v := .slice A c.ls.length cc) rfl
    have q1 := HBX1.out.cell_ 1 (v := .int .i64 c.hand) rfl
    go_wp2
    clear q0 q1
    go_loopw [13] (fun u wr => ∃ k : Nat, k ≤ c.ls.length ∧ u = .int .i64 k ∧ Hid (∀ (j : Nat) (q : Ln), j < k → c.ls[j]? = some q → q.v = true) ∧ Own wr w.heap.size 29 #[.slice A c.ls.length cc, .int .i64 c.hand] ∧ Below w.heap.size w wr) (fun u _ => c.ls.length - (intOf u).toNat)
    case atStart => exact ⟨0, by omega, rfl, (fun j q h => absurd h (by omega)), HBX1.out, HB1.out⟩
    case round =>
      obtain ⟨k, hk, rfl, hacc, hbox, hbi⟩ := hrel
      by_cases hlt : k < c.ls.length
      · obtain ⟨o, eo⟩ : ∃ o, c.ls[k]? = some o := ⟨_, List.getElem?_eq_getElem hlt⟩
        obtain ⟨b, ob, rfl, hbb, d0, d1, d2, d3, d4, d5⟩ := (HL.out.below hbi).ln eo
        have HBOX := Lib.hid hbox
        have HBI := Lib.hid hbi
        have EO := Lib.hid eo
        clear hbox eo hbi
        cases ht : o.v with
        | false =>
          rw [ht] at d0
          have H := Lib.hid (vic_free EO.out hacc.out ht)
          go_wp2
          go_ret2
          refine ⟨by rw [H.out]; rfl, ?_⟩
          repeat first | exact HBI.out | refine bA ?_ | refine bS ?_ (by simp <;> exact HBI.out.size)
        | true =>
          rw [ht] at d0
          have HACC : Hid (∀ (j : Nat) (q : Ln), j < k + 1 → c.ls[j]? = some q → q.v = true) := by
            intro j q hj e
            rcases Nat.lt_or_ge j k with h | h
            · exact hacc.out j q h e
            · obtain rfl : j = k := by omega
              have := EO.out
              rw [e] at this
              injection this with this
              rw [this]; exact ht
          go_wp2
          go_roundw
          case rel =>
            refine ⟨k + 1, by omega, by go_num, HACC, ?_, ?_⟩
            · have hl := HBOX.out.lt
              repeat first | exact HBOX.out | exact HBOX.out.alloc | refine Own.far ?_ (by show w.heap.size ≠ wr.heap.size; omega)
            · repeat first | exact HBI.out | refine bA ?_ | refine bS ?_ (by simp <;> exact HBI.out.size)
          case measure => simp [intOf]; omega
      · obtain rfl : k = c.ls.length := by omega
        have HVI := Lib.hid (vic_full hacc.out)
        have HBOX := Lib.hid hbox
        have HBI := Lib.hid hbi
        clear hacc hbi
        obtain ⟨w6, rfl⟩ : ∃ w6, w6 = wr := ⟨_, rfl⟩
        obtain ⟨hh0, hh1⟩ := inR_iff.1 HCV.out.hand
        have hhn : (c.hand.toNat : Int) = c.hand := Int.toNat_of_nonneg hh0
        have q0 := hbox.cell_ 0 (v := .slice A c.ls.length cc) rfl
        have q1 := hbox.cell_ 1 (v := .int .i64 c.hand) rfl
        go_wp2
        clear q0 q1 hbox
        go_loopg [6] (c.ls.length + 1) (fun g u wi => ∃ (j a : Nat), g = c.ls.length + 1 - j ∧ u = .int .i64 a ∧ Hid (VSt c j a) ∧ Own wi w.heap.size 29 #[.slice A c.ls.length cc, .int .i64 c.hand] ∧ Below w.heap.size w wi)
        case atStart => exact ⟨0, c.hand.toNat, by simp, by rw [hhn], vst_zero HCV.out, HBOX.out, HBI.out⟩
        case round =>
          obtain ⟨j, a, rfl, rfl, hst, hbox, hbi⟩ := hrel
          have hj := vst_lt HCV.out hst.out
          have ha := vst_in HCV.out hst.out
          obtain ⟨x, ex⟩ : ∃ x, c.ls[a]? = some x := ⟨_, List.getElem?_eq_getElem ha⟩
          obtain ⟨b, ob, rfl, hbb, d0, d1, d2, d3, d4, d5⟩ := (HL.out.below hbi).ln ex
          have q0 := hbox.cell_ 0 (v := .slice (some ⟨b, ob, none⟩) c.ls.length cc) rfl
          have HBOXI := Lib.hid hbox
          have EX := Lib.hid ex
          clear hbox d0 d1 d2 d3 d4 ex
          cases hw : x.w with
          | false =>
            rw [hw] at d5
            have H : Hid (vic c = a) := by show _ = _; rw [HVI.out]; exact vst_stop HCV.out hst.out EX.out hw
            go_wp2
            go_ret2
            exact ⟨by rw [H.out]; rfl, hbi⟩
          | true =>
            rw [hw] at d5
            have HST := Lib.hid (vst_step HCV.out hst.out EX.out hw)
            clear hst
            go_wp2
            go_roundg (c.ls.length + 1 - (j + 1))
            case measure => omega
            case rel => exact ⟨j + 1, (a + 1) % c.ls.length, rfl, by simp, HST, HBOXI.out, hbi⟩
end Go.Proofs.YtnaagdmaggdbmaaGreatDoor
namespace Go.Proofs.YtnaagdmaggdbmaaGreatDoor
open Go.RowKit
set_option maxRecDepth 1000000
set_option maxHeartbeats 4000000 in
theorem with_any (vl : Value) (c : Ca) (k : Nat) (x : Ln) (w : World) (hT : SlR lnE w vl c.ls) (hk : k < c.ls.length) (hl8 : c.ls.length ≤ 1048576) :
    Calls Tryz.prog 174 #[.agg #[vl, .int .i64 c.hand], .int .i64 k, lnV x] w (Post2 fun v w' => ∃ v1, v = .agg #[v1, .int .i64 c.hand] ∧ SlM lnE 106 w.heap.size w' v1 (c.ls.set k x) ∧ Below w.heap.size w w') := by
  unfold lnV
  have HV0 := Lib.hid hT
  obtain ⟨A, cc, rfl, hbc, hbm, hL⟩ := hT
  have hbx := ((Own.new_ w 29 #[.slice A c.ls.length cc, .int .i64 c.hand]).alloc (o := .cells #[.bool x.v, .int .i64 x.t, .int .i64 x.p, .int .i64 x.f, .int .i64 x.r, .bool x.w] 106)).alloc (o := .cells #[.slice none 0 0, .int .i64 0] 29)
  have hbl := (ownAt (W := w.alloc (.cells #[.slice A c.ls.length cc, .int .i64 c.hand] 29)) (g := w.heap.size + 1) (t := 106) (cs := #[.bool x.v, .int .i64 x.t, .int .i64 x.p, .int .i64 x.f, .int .i64 x.r, .bool x.w]) (by simp)).alloc (o := .cells #[.slice none 0 0, .int .i64 0] 29)
  have hbo := ownAt (W := (w.alloc (.cells #[.slice A c.ls.length cc, .int .i64 c.hand] 29)).alloc (.cells #[.bool x.v, .int .i64 x.t, .int .i64 x.p, .int .i64 x.f, .int .i64 x.r, .bool x.w] 106)) (g := w.heap.size + 1 + 1) (t := 29) (cs := #[.slice none 0 0, .int .i64 0]) (by simp)
  have hb0 : Below w.heap.size w (((w.alloc (.cells #[.slice A c.ls.length cc, .int .i64 c.hand] 29)).alloc (.cells #[.bool x.v, .int .i64 x.t, .int .i64 x.p, .int .i64 x.f, .int .i64 x.r, .bool x.w] 106)).alloc (.cells #[.slice none 0 0, .int .i64 0] 29)) := bA (bA (bA bR))
  have hs0 : (((w.alloc (.cells #[.slice A c.ls.length cc, .int .i64 c.hand] 29)).alloc (.cells #[.bool x.v, .int .i64 x.t, .int .i64 x.p, .int .i64 x.f, .int .i64 x.r, .bool x.w] 106)).alloc (.cells #[.slice none 0 0, .int .i64 0] 29)).heap.size = w.heap.size + 3 := by simp
  generalize hW : ((w.alloc (.cells #[.slice A c.ls.length cc, .int .i64 c.hand] 29)).alloc (.cells #[.bool x.v, .int .i64 x.t, .int .i64 x.p, .int .i64 x.f, .int .i64 x.r, .bool x.w] 106)).alloc (.cells #[.slice none 0 0, .int .i64 0] 29) = w4 at hbx hbl hbo hb0 hs0
  have HX4 := Lib.hid hbx
  have HL4 := Lib.hid hbl
  have HR4 := Lib.hid hbo
  have HB4 := Lib.hid hb0
  have HS4 : Hid (w.heap.size + 3 ≤ w4.heap.size) := Nat.le_of_eq hs0.symm
  have HLR := Lib.hid hL
  clear hbx hbl hbo hb0 hL
  go_enter Tryz.func174, Tryz.ntmps174
  go_wp2
  refine wp_region_rel1 (by kernel_rfl) [8, 9, 10, 11, 12, 13, 14, 7] [8, 9, 10, 11, 12, 13, 14, 7, 7] (fun v => Below w4.heap.size w4 v)
    (kds (S := stS 29 2) (si := 8) [KD.eq (.pointer (some ⟨w.heap.size, 0, none⟩)), KD.eq (.slice A c.ls.length cc),
      KD.row lnE 106 w4.heap.size c.ls (by decide) (fun v1 => v1), KD.row lnE 106 w4.heap.size c.ls (by decide) (fun v1 => v1),
      KD.eq (.pointer (some ⟨w.heap.size, 1, none⟩)), KD.eq (.int .i64 c.hand),
      KD.row lnE 106 w4.heap.size c.ls (by decide) (fun v1 => .agg #[v1, .int .i64 c.hand]),
      KD.box w4.heap.size, KD.boxed lnE 106 w4.heap.size c.ls (fun v1 => #[v1, .int .i64 c.hand])]) (tK (stS 29 2) 8) (by kernel_rfl) rfl (bD bR)
    (fun i j x v v' hij h ht => kds_keep hij h ht) ?_ ?_
  · intro i o ho x v hC hd K hK
    match i, ho with
    | 0, ho =>
      simp only [List.getElem?_toArray, List.getElem?_cons_zero, List.getElem?_cons_succ, Option.some.injEq] at ho
      subst ho
      simp only [fillA, Act.put, List.setIfInBounds_toArray, List.set_cons_zero, List.set_cons_succ] at hK ⊢
      go_simp
      exact hK _ _ (tK_same (stS_same _ _)) hC rfl
    | 1, ho =>
      simp only [List.getElem?_toArray, List.getElem?_cons_zero, List.getElem?_cons_succ, Option.some.injEq] at ho
      subst ho
      simp only [fillA, Act.put, List.setIfInBounds_toArray, List.set_cons_zero, List.set_cons_succ] at hK ⊢
      have d0 := hd 0 ⟨⟨0, .data⟩, by simp, rfl, rfl⟩ (by decide)
      change x 8 = .pointer (some ⟨w.heap.size, 0, none⟩) at d0
      have z0 := (HX4.out.below hC).cell_ 0 (v := .slice A c.ls.length cc) rfl
      simp only [d0] at hK ⊢
      go_simp
      exact hK _ _ (tK_same (stS_same _ _)) hC rfl
    | 2, ho =>
      simp only [List.getElem?_toArray, List.getElem?_cons_zero, List.getElem?_cons_succ, Option.some.injEq] at ho
      subst ho
      simp only [fillA, Act.put, List.setIfInBounds_toArray, List.set_cons_zero, List.set_cons_succ] at hK ⊢
      have d1 := hd 1 ⟨⟨1, .data⟩, by simp, rfl, rfl⟩ (by decide)
      change x 9 = .slice A c.ls.length cc at d1
      simp only [d1] at hK ⊢
      go_wp2_with fail
      refine (cloneLine_any _ c.ls _ (HV0.out.now (bT HB4.out hC)) hl8).mono ?_
      rintro e v' ⟨_, rfl, hM, hb⟩
      go_simp
      exact hK _ _ (tK_below (by decide) hb) (bT hC hb) ⟨_, rfl, hM.mono hC.size⟩
    | 3, ho =>
      simp only [List.getElem?_toArray, List.getElem?_cons_zero, List.getElem?_cons_succ, Option.some.injEq] at ho
      subst ho
      simp only [fillA, Act.put, List.setIfInBounds_toArray, List.set_cons_zero, List.set_cons_succ] at hK ⊢
      have d2 := hd 2 ⟨⟨2, .data⟩, by simp, rfl, rfl⟩ (by decide)
      obtain ⟨v1, d2, A1, c1, rfl, h1, h2, h3⟩ := d2
      change x 10 = .slice A1 c.ls.length c1 at d2
      simp only [d2] at hK ⊢
      go_wp2_with fail
      refine (clipLine_any A1 c.ls.length c1 _ h1).mono ?_
      rintro e v' ⟨rfl, rfl⟩
      go_simp
      exact hK _ _ (tK_same (stS_same _ _)) hC ⟨_, rfl, slm_of rfl (Nat.le_refl _) (by simp only [maxLen]; omega) h3⟩
    | 4, ho =>
      simp only [List.getElem?_toArray, List.getElem?_cons_zero, List.getElem?_cons_succ, Option.some.injEq] at ho
      subst ho
      simp only [fillA, Act.put, List.setIfInBounds_toArray, List.set_cons_zero, List.set_cons_succ] at hK ⊢
      go_simp
      exact hK _ _ (tK_same (stS_same _ _)) hC rfl
    | 5, ho =>
      simp only [List.getElem?_toArray, List.getElem?_cons_zero, List.getElem?_cons_succ, Option.some.injEq] at ho
      subst ho
      simp only [fillA, Act.put, List.setIfInBounds_toArray, List.set_cons_zero, List.set_cons_succ] at hK ⊢
      have d4 := hd 4 ⟨⟨4, .data⟩, by simp, rfl, rfl⟩ (by decide)
      change x 12 = .pointer (some ⟨w.heap.size, 1, none⟩) at d4
      have z1 := (HX4.out.below hC).cell_ 1 (v := .int .i64 c.hand) rfl
      simp only [d4] at hK ⊢
      go_simp
      exact hK _ _ (tK_same (stS_same _ _)) hC rfl
    | 6, ho =>
      simp only [List.getElem?_toArray, List.getElem?_cons_zero, List.getElem?_cons_succ, Option.some.injEq] at ho
      subst ho
      simp only [fillA, Act.put, List.setIfInBounds_toArray, List.set_cons_zero, List.set_cons_succ] at hK ⊢
      have d3 := hd 3 ⟨⟨3, .data⟩, by simp, rfl, rfl⟩ (by decide)
      obtain ⟨v1, d3, hM⟩ := d3
      change x 11 = v1 at d3
      have d5 := hd 5 ⟨⟨5, .data⟩, by simp, rfl, rfl⟩ (by decide)
      change x 13 = .int .i64 c.hand at d5
      have hM' := hM
      obtain ⟨A9, n9, rfl, _⟩ := hM'
      simp only [d3, d5] at hK ⊢
      go_simp
      exact hK _ _ (tK_same (stS_same _ _)) hC ⟨_, rfl, hM⟩
    | 7, ho =>
      simp only [List.getElem?_toArray, List.getElem?_cons_zero, List.getElem?_cons_succ, Option.some.injEq] at ho
      subst ho
      simp only [fillA, Act.put, List.setIfInBounds_toArray, List.set_cons_zero, List.set_cons_succ] at hK ⊢
      go_simp
      exact hK _ _ (tK_below (by decide) (bA bR)) (bA hC) ⟨_, _, rfl, hC.size, rfl, Own.new_ _ _ _⟩
    | 8, ho =>
      simp only [List.getElem?_toArray, List.getElem?_cons_zero, List.getElem?_cons_succ, Option.some.injEq] at ho
      subst ho
      simp only [fillA, Act.put, List.setIfInBounds_toArray, List.set_cons_zero, List.set_cons_succ] at hK ⊢
      have d10 := hd 7 ⟨⟨7, .data⟩, by simp, rfl, rfl⟩ (by decide)
      obtain ⟨g, cs, d10, hg, hcs, ho⟩ := d10
      have d8 := hd 6 ⟨⟨6, .data⟩, by simp, rfl, rfl⟩ (by decide)
      obtain ⟨v1, d8, hL⟩ := d8
      change x 7 = _ at d10
      change x 14 = _ at d8
      have hL' := hL
      obtain ⟨A9, n9, rfl, _⟩ := hL'
      obtain ⟨cs⟩ := cs
      match cs, hcs with
      | [c0, c1], _ =>
        have z0 := ho.cell_ 0 (v := c0) rfl
        have z1 := ho.cell_ 1 (v := c1) rfl
        have y0 := ho.free 0
        have y1 := ho.free 1
        simp only [d8, d10] at hK ⊢
        go_simp
        have hst := stS_trans (n := 2) (stS_set (n := 2) (i := 0) (u := .slice A9 c.ls.length n9) ho) (stS_set (n := 2) (i := 1) (u := .int .i64 c.hand) (ho.set_ 0 (.slice A9 c.ls.length n9)))
        refine hK undef _ (tK_store hst) ?_ ⟨rfl, g, _, d10, hg, (ho.set_ 0 (.slice A9 c.ls.length n9)).set_ 1 _, hL.oth hst.1 (by decide)⟩
        refine bS (bS hC ?_) ?_
        · exact hg
        · exact hg
    | _ + 9, ho => simp at ho
  intro xx w5 hC hd
  obtain ⟨_, gc, v1, dS, hgc, hoc, hLc⟩ := hd 8 (by decide)
  change xx 7 = _ at dS
  simp only [fillA, Act.put, List.setIfInBounds_toArray, List.set_cons_zero, List.set_cons_succ, dS]
  have HX5 := Lib.hid (HX4.out.below hC)
  have HL5 := Lib.hid (HL4.out.below hC)
  have HR5 := Lib.hid (HR4.out.below hC)
  have HB5 := Lib.hid (bT HB4.out hC)
  have HC5 := Lib.hid hoc
  obtain ⟨A2, c2, rfl, l2', k2, m2⟩ := hLc
  obtain ⟨g2, cs2, rfl, hg2, O2, _⟩ := m2.own (by omega)
  have M5 := Lib.hid m2
  have hne : gc ≠ g2 := HC5.out.ne O2 (by decide)
  have hne2 : g2 ≠ gc := fun h => hne h.symm
  have q3 : w.heap.size + 1 + 1 ≠ g2 := HR5.out.ne O2 (by decide)
  have q4 : g2 ≠ w.heap.size + 1 + 1 := fun h => q3 h.symm
  have q5 : w.heap.size + 1 + 1 ≠ gc := by have := HS4.out; omega
  have q6 : gc ≠ w.heap.size + 1 + 1 := fun h => q5 h.symm
  clear hd dS hoc m2 hC
  have o90 := HC5.out.cell_ 0 (v := .slice (some ⟨g2, 0, none⟩) c.ls.length c2) rfl
  have o91 := HC5.out.cell_ 1 (v := .int .i64 c.hand) rfl
  have hlo9 := HC5.out.lt
  have l0 := HL5.out.cell_ 0 (v := .bool x.v) rfl
  have l1 := HL5.out.cell_ 1 (v := .int .i64 x.t) rfl
  have l2 := HL5.out.cell_ 2 (v := .int .i64 x.p) rfl
  have l3 := HL5.out.cell_ 3 (v := .int .i64 x.f) rfl
  have l4 := HL5.out.cell_ 4 (v := .int .i64 x.r) rfl
  have l5 := HL5.out.cell_ 5 (v := .bool x.w) rfl
  have hll9 := HL5.out.lt
  have z0 := O2.free (k * 6)
  have z1 := O2.free (k * 6 + 1)
  have z2 := O2.free (k * 6 + 2)
  have z3 := O2.free (k * 6 + 3)
  have z4 := O2.free (k * 6 + 4)
  have z5 := O2.free (k * 6 + 5)
  obtain ⟨y, ey⟩ : ∃ y, c.ls[k]? = some y := ⟨_, List.getElem?_eq_getElem hk⟩
  obtain ⟨bq, oq, eq1, _, y0, y1, y2, y3, y4, y5⟩ := M5.out.is.ln ey
  injection eq1 with eq1
  injection eq1 with eq1 eq2
  subst eq1 eq2
  rw [Nat.zero_add] at y0 y1 y2 y3 y4 y5
  have m9 := M5.out.wln hk x
  have hr9 := (((((HR5.out.far (p := ⟨g2, k * 6, none⟩) (u := .bool x.v) q3).far (p := ⟨g2, k * 6 + 1, none⟩) (u := .int .i64 x.t) q3).far (p := ⟨g2, k * 6 + 2, none⟩) (u := .int .i64 x.p) q3).far (p := ⟨g2, k * 6 + 3, none⟩) (u := .int .i64 x.f) q3).far (p := ⟨g2, k * 6 + 4, none⟩) (u := .int .i64 x.r) q3).far (p := ⟨g2, k * 6 + 5, none⟩) (u := .bool x.w) q3
  have ho9 := (((((HC5.out.far (p := ⟨g2, k * 6, none⟩) (u := .bool x.v) hne).far (p := ⟨g2, k * 6 + 1, none⟩) (u := .int .i64 x.t) hne).far (p := ⟨g2, k * 6 + 2, none⟩) (u := .int .i64 x.p) hne).far (p := ⟨g2, k * 6 + 3, none⟩) (u := .int .i64 x.f) hne).far (p := ⟨g2, k * 6 + 4, none⟩) (u := .int .i64 x.r) hne).far (p := ⟨g2, k * 6 + 5, none⟩) (u := .bool x.w) hne
  have hgg : w.heap.size ≤ g2 := by have := HS4.out; omega
  have hb9 := bS (bS (bS (bS (bS (bS HB5.out (p := ⟨g2, k * 6, none⟩) hgg (u := .bool x.v)) (p := ⟨g2, k * 6 + 1, none⟩) hgg (u := .int .i64 x.t)) (p := ⟨g2, k * 6 + 2, none⟩) hgg (u := .int .i64 x.p)) (p := ⟨g2, k * 6 + 3, none⟩) hgg (u := .int .i64 x.f)) (p := ⟨g2, k * 6 + 4, none⟩) hgg (u := .int .i64 x.r)) (p := ⟨g2, k * 6 + 5, none⟩) hgg (u := .bool x.w)
  generalize hW9 : (((((w5.setCell ⟨g2, k * 6, none⟩ (.bool x.v)).setCell ⟨g2, k * 6 + 1, none⟩ (.int .i64 x.t)).setCell ⟨g2, k * 6 + 2, none⟩ (.int .i64 x.p)).setCell ⟨g2, k * 6 + 3, none⟩ (.int .i64 x.f)).setCell ⟨g2, k * 6 + 4, none⟩ (.int .i64 x.r)).setCell ⟨g2, k * 6 + 5, none⟩ (.bool x.w) = w9 at m9 hr9 ho9 hb9
  have M9 := Lib.hid m9
  have HR9 := Lib.hid hr9
  have HC9 := Lib.hid ho9
  have HB9 := Lib.hid hb9
  clear m9 hr9 ho9 hb9
  have o92 := HC9.out.cell_ 0 (v := .slice (some ⟨g2, 0, none⟩) c.ls.length c2) rfl
  have o93 := HC9.out.cell_ 1 (v := .int .i64 c.hand) rfl
  have r0 := HR9.out.cell_ 0 (v := .slice none 0 0) rfl
  have r1 := HR9.out.cell_ 1 (v := .int .i64 0) rfl
  have f0 := HR9.out.free 0
  have f1 := HR9.out.free 1
  have hl1 := HR9.out.lt
  have hl2 := HC9.out.lt
  go_wp2
  have o3 := (HR9.out.set_ 0 (.slice (some ⟨g2, 0, none⟩) c.ls.length c2)).set_ 1 (.int .i64 c.hand)
  have t0 := o3.cell_ 0 (v := .slice (some ⟨g2, 0, none⟩) c.ls.length c2) rfl
  have t1 := o3.cell_ 1 (v := .int .i64 c.hand) rfl
  have hgl : w.heap.size + 1 + 1 < w4.heap.size := by have := HS4.out; omega
  refine bodyPost_ret (v := .agg #[.slice (some ⟨g2, 0, none⟩) c.ls.length c2, .int .i64 c.hand]) (by simp [results, Tryz.results174, go_sem, t0, t1]) rfl ⟨_, rfl, _, rfl, ?_, ?_⟩
  · exact (slm_of (by simp) (by simpa using l2') k2 ((M9.out.far (p := ⟨w.heap.size + 1 + 1, 0, none⟩) (u := .slice (some ⟨g2, 0, none⟩) c.ls.length c2) hgl).far (p := ⟨w.heap.size + 1 + 1, 1, none⟩) (u := .int .i64 c.hand) hgl)).mono (by have := HS4.out; omega)
  · repeat (refine bS ?_ (by simp <;> omega))
    exact HB9.out
end Go.Proofs.YtnaagdmaggdbmaaGreatDoor
namespace Go.Proofs.YtnaagdmaggdbmaaGreatDoor
open Go.RowKit
set_option maxRecDepth 1000000
set_option maxHeartbeats 4000000 in
theorem FillLine_any (vl : Value) (c : Ca) (x : Ln) (w : World) (hT : SlR lnE w vl c.ls) :
    Calls Tryz.prog 104 #[.agg #[vl, .int .i64 c.hand], lnV x] w (Post2 fun v w' => ∃ v1, v = .tuple #[.agg #[v1, .int .i64 (filV c x).hand], .int .i64 (filA c x), .bool (filOK c x)] ∧ SlM lnE 106 w.heap.size w' v1 (filV c x).ls ∧ Below w.heap.size w w') := by
  have HLV := Lib.hid (fun W => lineValid_any x W)
  have HWT := Lib.hid (fun W k (h : SlR lnE W vl c.ls) hk hl => with_any vl c k x W h hk hl)
  unfold lnV at *
  have HV0 := Lib.hid hT
  obtain ⟨A, cc, rfl, hbc, hbm, hL⟩ := hT
  have hbx := ((Own.new_ w 29 #[.slice A c.ls.length cc, .int .i64 c.hand]).alloc (o := .cells #[.bool x.v, .int .i64 x.t, .int .i64 x.p, .int .i64 x.f, .int .i64 x.r, .bool x.w] 106)).alloc (o := .cells #[.slice none 0 0, .int .i64 0] 29)
  have hbl := (ownAt (W := w.alloc (.cells #[.slice A c.ls.length cc, .int .i64 c.hand] 29)) (g := w.heap.size + 1) (t := 106) (cs := #[.bool x.v, .int .i64 x.t, .int .i64 x.p, .int .i64 x.f, .int .i64 x.r, .bool x.w]) (by simp)).alloc (o := .cells #[.slice none 0 0, .int .i64 0] 29)
  have hbo := ownAt (W := (w.alloc (.cells #[.slice A c.ls.length cc, .int .i64 c.hand] 29)).alloc (.cells #[.bool x.v, .int .i64 x.t, .int .i64 x.p, .int .i64 x.f, .int .i64 x.r, .bool x.w] 106)) (g := w.heap.size + 1 + 1) (t := 29) (cs := #[.slice none 0 0, .int .i64 0]) (by simp)
  have hb0 : Below w.heap.size w (((w.alloc (.cells #[.slice A c.ls.length cc, .int .i64 c.hand] 29)).alloc (.cells #[.bool x.v, .int .i64 x.t, .int .i64 x.p, .int .i64 x.f, .int .i64 x.r, .bool x.w] 106)).alloc (.cells #[.slice none 0 0, .int .i64 0] 29)) := bA (bA (bA bR))
  have hs0 : (((w.alloc (.cells #[.slice A c.ls.length cc, .int .i64 c.hand] 29)).alloc (.cells #[.bool x.v, .int .i64 x.t, .int .i64 x.p, .int .i64 x.f, .int .i64 x.r, .bool x.w] 106)).alloc (.cells #[.slice none 0 0, .int .i64 0] 29)).heap.size = w.heap.size + 3 := by simp
  generalize hW : ((w.alloc (.cells #[.slice A c.ls.length cc, .int .i64 c.hand] 29)).alloc (.cells #[.bool x.v, .int .i64 x.t, .int .i64 x.p, .int .i64 x.f, .int .i64 x.r, .bool x.w] 106)).alloc (.cells #[.slice none 0 0, .int .i64 0] 29) = W0 at hbx hbl hbo hb0 hs0
  have HX0 := Lib.hid hbx
  have HL0 := Lib.hid hbl
  have HR0 := Lib.hid hbo
  have HB0 := Lib.hid hb0
  have HS0 : Hid (w.heap.size + 3 ≤ W0.heap.size) := Nat.le_of_eq hs0.symm
  have HLR := Lib.hid hL
  clear hbx hbl hbo hb0 hL
  have q0 := HX0.out.cell_ 0 (v := .slice A c.ls.length cc) rfl
  have q1 := HX0.out.cell_ 1 (v := .int .i64 c.hand) rfl
  go_enter Tryz.func104, Tryz.ntmps104
  go_wp2_with fail
  refine (VictimOf_any _ c _ (HV0.out.now HB0.out)).mono ?_
  rintro e w1 ⟨rfl, hb1⟩
  have HX1 := Lib.hid (HX0.out.below hb1)
  have HL1 := Lib.hid (HL0.out.below hb1)
  have HR1 := Lib.hid (HR0.out.below hb1)
  have HB1 := Lib.hid (bT HB0.out hb1)
  have HS1 := Lib.hid (Nat.le_trans HS0.out hb1.size)
  clear hb1
  clear q0 q1
  cases h1 : cav c with
  | false =>
    have HO : Hid (filOK c x = false) := by show _ = _; unfold filOK; rw [h1]; rfl
    have HV := Lib.hid (filOK_false HO.out)
    have HA := Lib.hid (filA_false HO.out)
    rw [if_neg (by decide)]
    have r0 := HR1.out.cell_ 0 (v := .slice none 0 0) rfl
    have r1 := HR1.out.cell_ 1 (v := .int .i64 0) rfl
    have f0 := HR1.out.free 0
    have f1 := HR1.out.free 1
    have hl1 := HR1.out.lt
    go_wp2
    have o3 := (HR1.out.set_ 0 (.slice none 0 0)).set_ 1 (.int .i64 0)
    have t0 := o3.cell_ 0 (v := .slice none 0 0) rfl
    have t1 := o3.cell_ 1 (v := .int .i64 0) rfl
    refine bodyPost_ret (v := .tuple #[.agg #[.slice none 0 0, .int .i64 0], .int .i64 0, .bool false]) (by simp [results, Tryz.results104, go_sem, t0, t1]) rfl ⟨_, rfl, _, by rw [HV.out, HA.out, HO.out]; rfl, by rw [HV.out]; exact SlM.nil_ _, ?_⟩
    repeat (refine bS ?_ (by simp <;> omega))
    exact HB1.out
  | true =>
    rw [if_pos rfl]
    cases hxv : x.v with
    | false =>
      have HO : Hid (filOK c x = false) := by show _ = _; unfold filOK; rw [hxv]; simp
      have HV := Lib.hid (filOK_false HO.out)
      have HA := Lib.hid (filA_false HO.out)
      have l0 := HL1.out.cell_ 0 (v := .bool x.v) rfl
      rw [hxv] at l0
      have r0 := HR1.out.cell_ 0 (v := .slice none 0 0) rfl
      have r1 := HR1.out.cell_ 1 (v := .int .i64 0) rfl
      have f0 := HR1.out.free 0
      have f1 := HR1.out.free 1
      have hl1 := HR1.out.lt
      go_wp2
      have o3 := (HR1.out.set_ 0 (.slice none 0 0)).set_ 1 (.int .i64 0)
      have t0 := o3.cell_ 0 (v := .slice none 0 0) rfl
      have t1 := o3.cell_ 1 (v := .int .i64 0) rfl
      refine bodyPost_ret (v := .tuple #[.agg #[.slice none 0 0, .int .i64 0], .int .i64 0, .bool false]) (by simp [results, Tryz.results104, go_sem, t0, t1]) rfl ⟨_, rfl, _, by rw [HV.out, HA.out, HO.out]; rfl, by rw [HV.out]; exact SlM.nil_ _, ?_⟩
      repeat (refine bS ?_ (by simp <;> omega))
      exact HB1.out
    | true =>
      have l0 := HL1.out.cell_ 0 (v := .bool x.v) rfl
      have l1 := HL1.out.cell_ 1 (v := .int .i64 x.t) rfl
      have l2 := HL1.out.cell_ 2 (v := .int .i64 x.p) rfl
      have l3 := HL1.out.cell_ 3 (v := .int .i64 x.f) rfl
      have l4 := HL1.out.cell_ 4 (v := .int .i64 x.r) rfl
      have l5 := HL1.out.cell_ 5 (v := .bool x.w) rfl
      rw [hxv] at l0 HLV
      go_wp2_with fail
      refine (HLV.out _).mono ?_
      rintro e w2 ⟨rfl, hb2⟩
      have HX2 := Lib.hid (HX1.out.below hb2)
      have HL2 := Lib.hid (HL1.out.below hb2)
      have HR2 := Lib.hid (HR1.out.below hb2)
      have HB2 := Lib.hid (bT HB1.out hb2)
      have HS2 := Lib.hid (Nat.le_trans HS1.out hb2.size)
      clear hb2
      clear l0 l1 l2 l3 l4 l5 HLV
      cases h3 : lnok x with
      | false =>
        have HO : Hid (filOK c x = false) := by show _ = _; unfold filOK; rw [h3]; simp
        have HV := Lib.hid (filOK_false HO.out)
        have HA := Lib.hid (filA_false HO.out)
        have r0 := HR2.out.cell_ 0 (v := .slice none 0 0) rfl
        have r1 := HR2.out.cell_ 1 (v := .int .i64 0) rfl
        have f0 := HR2.out.free 0
        have f1 := HR2.out.free 1
        have hl1 := HR2.out.lt
        go_wp2
        have o3 := (HR2.out.set_ 0 (.slice none 0 0)).set_ 1 (.int .i64 0)
        have t0 := o3.cell_ 0 (v := .slice none 0 0) rfl
        have t1 := o3.cell_ 1 (v := .int .i64 0) rfl
        refine bodyPost_ret (v := .tuple #[.agg #[.slice none 0 0, .int .i64 0], .int .i64 0, .bool false]) (by simp [results, Tryz.results104, go_sem, t0, t1]) rfl ⟨_, rfl, _, by rw [HV.out, HA.out, HO.out]; rfl, by rw [HV.out]; exact SlM.nil_ _, ?_⟩
        repeat (refine bS ?_ (by simp <;> omega))
        exact HB2.out
      | true =>
        have hcv := cav_CV.1 h1
        have q0 := HX2.out.cell_ 0 (v := .slice A c.ls.length cc) rfl
        have q1 := HX2.out.cell_ 1 (v := .int .i64 c.hand) rfl
        have l1 := HL2.out.cell_ 1 (v := .int .i64 x.t) rfl
        have l2 := HL2.out.cell_ 2 (v := .int .i64 x.p) rfl
        go_wp2_with fail
        refine (place_any _ c x.t x.p _ (HV0.out.now HB2.out)).mono ?_
        rintro e w3 ⟨rfl, hb3⟩
        have HX3 := Lib.hid (HX2.out.below hb3)
        have HL3 := Lib.hid (HL2.out.below hb3)
        have HR3 := Lib.hid (HR2.out.below hb3)
        have HB3 := Lib.hid (bT HB2.out hb3)
        have HS3 := Lib.hid (Nat.le_trans HS2.out hb3.size)
        clear hb3
        clear q0 q1 l1 l2
        by_cases h6 : 0 ≤ plcI c.ls x.t x.p
        · have HO : Hid (filOK c x = false) := by show _ = _; unfold filOK; rw [decide_eq_true h6]; simp
          have HV := Lib.hid (filOK_false HO.out)
          have HA := Lib.hid (filA_false HO.out)
          have r0 := HR3.out.cell_ 0 (v := .slice none 0 0) rfl
          have r1 := HR3.out.cell_ 1 (v := .int .i64 0) rfl
          have f0 := HR3.out.free 0
          have f1 := HR3.out.free 1
          have hl1 := HR3.out.lt
          go_wp2
          have o3 := (HR3.out.set_ 0 (.slice none 0 0)).set_ 1 (.int .i64 0)
          have t0 := o3.cell_ 0 (v := .slice none 0 0) rfl
          have t1 := o3.cell_ 1 (v := .int .i64 0) rfl
          refine bodyPost_ret (v := .tuple #[.agg #[.slice none 0 0, .int .i64 0], .int .i64 0, .bool false]) (by simp [results, Tryz.results104, go_sem, t0, t1]) rfl ⟨_, rfl, _, by rw [HV.out, HA.out, HO.out]; rfl, by rw [HV.out]; exact SlM.nil_ _, ?_⟩
          repeat (refine bS ?_ (by simp <;> omega))
          exact HB3.out
        · have hvi := vic_in hcv
          have h8 : c.ls.length ≤ 8 := hcv.sz.2
          obtain ⟨y, ey⟩ : ∃ y, c.ls[vic c]? = some y := ⟨_, List.getElem?_eq_getElem hvi⟩
          have h6b : plcI c.ls x.t x.p < 0 := by omega
          have hs3 := HS3.out
          have hlt3 := HR3.out.lt
          have q0 := HX3.out.cell_ 0 (v := .slice A c.ls.length cc) rfl
          have q1 := HX3.out.cell_ 1 (v := .int .i64 c.hand) rfl
          have l0 := HL3.out.cell_ 0 (v := .bool x.v) rfl
          have l1 := HL3.out.cell_ 1 (v := .int .i64 x.t) rfl
          have l2 := HL3.out.cell_ 2 (v := .int .i64 x.p) rfl
          have l3 := HL3.out.cell_ 3 (v := .int .i64 x.f) rfl
          have l4 := HL3.out.cell_ 4 (v := .int .i64 x.r) rfl
          have l5 := HL3.out.cell_ 5 (v := .bool x.w) rfl
          rw [hxv] at l0 HWT
          go_wp2_with fail
          refine (HWT.out _ _ (HV0.out.now HB3.out) hvi (by omega)).mono ?_
          rintro e w4 ⟨_, rfl, v1, rfl, hM4, hb4⟩
          have HX4 := Lib.hid (HX3.out.below hb4)
          have HL4 := Lib.hid (HL3.out.below hb4)
          have HR4 := Lib.hid (HR3.out.below hb4)
          have HB4 := Lib.hid (bT HB3.out hb4)
          have HS4 := Lib.hid (Nat.le_trans HS3.out hb4.size)
          clear hb4
          clear q0 q1 l0 l1 l2 l3 l4 l5
          have hM4' := hM4
          obtain ⟨A2, c2, e1, _⟩ := hM4'
          rw [List.length_set] at e1
          subst e1
          have ho5 := Own.new_ w4 29 #[.slice A2 c.ls.length c2, .int .i64 c.hand]
          have hb5 : Below w4.heap.size w4 (w4.alloc (.cells #[.slice A2 c.ls.length c2, .int .i64 c.hand] 29)) := bA bR
          have hz5 : w4.heap.size + 1 = (w4.alloc (.cells #[.slice A2 c.ls.length c2, .int .i64 c.hand] 29)).heap.size := by simp
          generalize hW5 : w4.alloc (.cells #[.slice A2 c.ls.length c2, .int .i64 c.hand] 29) = w5 at ho5 hb5 hz5
          have M5 := Lib.hid (hM4.now hb5)
          have HO5 := Lib.hid ho5
          have hc5 := HB4.out.size
          have HX5 := Lib.hid (HX4.out.below hb5)
          have HL5 := Lib.hid (HL4.out.below hb5)
          have HR5 := Lib.hid (HR4.out.below hb5)
          have HB5 := Lib.hid (bT HB4.out hb5)
          have HS5 := Lib.hid (Nat.le_trans HS4.out hb5.size)
          clear hb5
          clear ho5 hM4
          obtain ⟨b4, o4, rfl, hb4, d0, d1, d2, d3, d4, d5⟩ := (HLR.out.now (Nat.le_refl _) HB5.out).ln ey
          have q0 := HX5.out.cell_ 0 (v := .slice (some ⟨b4, o4, none⟩) c.ls.length cc) rfl
          have hlx := HX5.out.lt
          have hlo := HO5.out.lt
          have EY := Lib.hid ey
          clear d1 d2 d3 d4 d5 ey
          generalize hvv : vic c = vi at *
          cases hyv : y.v with
          | false =>
            rw [hyv] at d0
            have HH : Hid ((filC c x).hand = c.hand) := by show _ = _; simp only [filC, hvv, EY.out, hyv]; rfl
            have o90 := HO5.out.cell_ 0 (v := .slice A2 c.ls.length c2) rfl
            have o91 := HO5.out.cell_ 1 (v := .int .i64 (c.hand)) rfl
            have hlo9 := HO5.out.lt
            have HFC : Hid (filC c x = ⟨c.ls.set vi x, c.hand⟩) := by
              show _ = _
              have h1 : (filC c x).ls = c.ls.set vi x := by simp only [filC, hvv]
              have h2 := HH.out
              cases hf : filC c x with
              | mk a b =>
                rw [hf] at h1 h2
                simp only at h1 h2
                rw [h1, h2]
            go_wp2_with fail
            refine (CacheValid_any (.slice A2 c.ls.length c2) ⟨c.ls.set vi x, c.hand⟩ _ M5.out.r).mono ?_
            rintro e w10 ⟨rfl, hb10⟩
            have HR10 := Lib.hid (HR5.out.below hb10)
            have HO10 := Lib.hid (HO5.out.below hb10)
            have M10 := Lib.hid (M5.out.now hb10)
            have HB10 := Lib.hid (bT HB5.out hb10)
            clear hb10 o90 o91
            cases h5 : cav ⟨c.ls.set vi x, c.hand⟩ with
            | false =>
              have HO : Hid (filOK c x = false) := by show _ = _; unfold filOK; rw [HFC.out, h5, Bool.and_false]
              have HV := Lib.hid (filOK_false HO.out)
              have HA := Lib.hid (filA_false HO.out)
              have r0 := HR10.out.cell_ 0 (v := .slice none 0 0) rfl
              have r1 := HR10.out.cell_ 1 (v := .int .i64 0) rfl
              have f0 := HR10.out.free 0
              have f1 := HR10.out.free 1
              have hl1 := HR10.out.lt
              go_wp2
              have o3 := (HR10.out.set_ 0 (.slice none 0 0)).set_ 1 (.int .i64 0)
              have t0 := o3.cell_ 0 (v := .slice none 0 0) rfl
              have t1 := o3.cell_ 1 (v := .int .i64 0) rfl
              refine bodyPost_ret (v := .tuple #[.agg #[.slice none 0 0, .int .i64 0], .int .i64 0, .bool false]) (by simp [results, Tryz.results104, go_sem, t0, t1]) rfl ⟨_, rfl, _, by rw [HV.out, HA.out, HO.out]; rfl, by rw [HV.out]; exact SlM.nil_ _, ?_⟩
              repeat (refine bS ?_ (by simp <;> omega))
              exact HB10.out
            | true =>
              have HO : Hid (filOK c x = true) := by show _ = _; unfold filOK; rw [h1, hxv, h3, decide_eq_false (show ¬ 0 ≤ plcI c.ls x.t x.p by omega), HFC.out, h5]; rfl
              have HV : Hid (filV c x = ⟨c.ls.set vi x, c.hand⟩) := by show _ = _; rw [filOK_true HO.out]; exact HFC.out
              have HA : Hid (filA c x = vi) := by show _ = _; unfold filA; rw [HO.out, if_pos rfl, hvv]
              have o90 := HO10.out.cell_ 0 (v := .slice A2 c.ls.length c2) rfl
              have o91 := HO10.out.cell_ 1 (v := .int .i64 (c.hand)) rfl
              have hlo := HO10.out.lt
              have r0 := HR10.out.cell_ 0 (v := .slice none 0 0) rfl
              have r1 := HR10.out.cell_ 1 (v := .int .i64 0) rfl
              have f0 := HR10.out.free 0
              have f1 := HR10.out.free 1
              have hl1 := HR10.out.lt
              go_wp2
              have o3 := (HR10.out.set_ 0 (.slice A2 c.ls.length c2)).set_ 1 (.int .i64 (c.hand))
              have t0 := o3.cell_ 0 (v := .slice A2 c.ls.length c2) rfl
              have t1 := o3.cell_ 1 (v := .int .i64 (c.hand)) rfl
              refine bodyPost_ret (v := .tuple #[.agg #[.slice A2 c.ls.length c2, .int .i64 (c.hand)], .int .i64 vi, .bool true]) (by simp [results, Tryz.results104, go_sem, t0, t1]) rfl ⟨_, rfl, _, by rw [HV.out, HA.out, HO.out], ?_, ?_⟩
              · rw [HV.out]
                exact ((M10.out.far (p := ⟨w.heap.size + 1 + 1, 0, none⟩) (u := .slice A2 c.ls.length c2) hlt3).far (p := ⟨w.heap.size + 1 + 1, 1, none⟩) (u := .int .i64 (c.hand)) hlt3).mono (by have := HB3.out.size; omega)
              · repeat (refine bS ?_ (by simp <;> omega))
                exact HB10.out
          | true =>
            rw [hyv] at d0
            have HH : Hid ((filC c x).hand = ((vi : Int) + 1) % c.ls.length) := by show _ = _; simp only [filC, hvv, EY.out, hyv]; rfl
            have q9 : w.heap.size + 1 + 1 ≠ w4.heap.size := by have := HR4.out.lt; omega
            have o51 := HO5.out.cell_ 1 (v := .int .i64 c.hand) rfl
            have of1 := HO5.out.free 1
            have ho6 := HO5.out.set_ 1 (.int .i64 (((vi : Int) + 1) % c.ls.length))
            have m6 := M5.out.farT HO5.out (u := .int .i64 (((vi : Int) + 1) % c.ls.length)) (i := 1) (by decide)
            have hr6 := HR5.out.far (p := ⟨w4.heap.size, 1, none⟩) (u := .int .i64 (((vi : Int) + 1) % c.ls.length)) q9
            have hb6 : Below w.heap.size w (w5.setCell ⟨w4.heap.size, 1, none⟩ (.int .i64 (((vi : Int) + 1) % c.ls.length))) := bS HB5.out (by show w.heap.size ≤ w4.heap.size; omega)
            generalize hW6 : w5.setCell ⟨w4.heap.size, 1, none⟩ (.int .i64 (((vi : Int) + 1) % c.ls.length)) = w6 at ho6 m6 hr6 hb6
            have HO6 := Lib.hid ho6
            have M6 := Lib.hid m6
            have HR6 := Lib.hid hr6
            have HB6 := Lib.hid hb6
            clear ho6 m6 hr6 hb6
            have o90 := HO6.out.cell_ 0 (v := .slice A2 c.ls.length c2) rfl
            have o91 := HO6.out.cell_ 1 (v := .int .i64 (((vi : Int) + 1) % c.ls.length)) rfl
            have hlo9 := HO6.out.lt
            have HFC : Hid (filC c x = ⟨c.ls.set vi x, ((vi : Int) + 1) % c.ls.length⟩) := by
              show _ = _
              have h1 : (filC c x).ls = c.ls.set vi x := by simp only [filC, hvv]
              have h2 := HH.out
              cases hf : filC c x with
              | mk a b =>
                rw [hf] at h1 h2
                simp only at h1 h2
                rw [h1, h2]
            go_wp2_with fail
            refine (CacheValid_any (.slice A2 c.ls.length c2) ⟨c.ls.set vi x, ((vi : Int) + 1) % c.ls.length⟩ _ M6.out.r).mono ?_
            rintro e w10 ⟨rfl, hb10⟩
            have HR10 := Lib.hid (HR6.out.below hb10)
            have HO10 := Lib.hid (HO6.out.below hb10)
            have M10 := Lib.hid (M6.out.now hb10)
            have HB10 := Lib.hid (bT HB6.out hb10)
            clear hb10 o90 o91
            cases h5 : cav ⟨c.ls.set vi x, ((vi : Int) + 1) % c.ls.length⟩ with
            | false =>
              have HO : Hid (filOK c x = false) := by show _ = _; unfold filOK; rw [HFC.out, h5, Bool.and_false]
              have HV := Lib.hid (filOK_false HO.out)
              have HA := Lib.hid (filA_false HO.out)
              have r0 := HR10.out.cell_ 0 (v := .slice none 0 0) rfl
              have r1 := HR10.out.cell_ 1 (v := .int .i64 0) rfl
              have f0 := HR10.out.free 0
              have f1 := HR10.out.free 1
              have hl1 := HR10.out.lt
              go_wp2
              have o3 := (HR10.out.set_ 0 (.slice none 0 0)).set_ 1 (.int .i64 0)
              have t0 := o3.cell_ 0 (v := .slice none 0 0) rfl
              have t1 := o3.cell_ 1 (v := .int .i64 0) rfl
              refine bodyPost_ret (v := .tuple #[.agg #[.slice none 0 0, .int .i64 0], .int .i64 0, .bool false]) (by simp [results, Tryz.results104, go_sem, t0, t1]) rfl ⟨_, rfl, _, by rw [HV.out, HA.out, HO.out]; rfl, by rw [HV.out]; exact SlM.nil_ _, ?_⟩
              repeat (refine bS ?_ (by simp <;> omega))
              exact HB10.out
            | true =>
              have HO : Hid (filOK c x = true) := by show _ = _; unfold filOK; rw [h1, hxv, h3, decide_eq_false (show ¬ 0 ≤ plcI c.ls x.t x.p by omega), HFC.out, h5]; rfl
              have HV : Hid (filV c x = ⟨c.ls.set vi x, ((vi : Int) + 1) % c.ls.length⟩) := by show _ = _; rw [filOK_true HO.out]; exact HFC.out
              have HA : Hid (filA c x = vi) := by show _ = _; unfold filA; rw [HO.out, if_pos rfl, hvv]
              have o90 := HO10.out.cell_ 0 (v := .slice A2 c.ls.length c2) rfl
              have o91 := HO10.out.cell_ 1 (v := .int .i64 (((vi : Int) + 1) % c.ls.length)) rfl
              have hlo := HO10.out.lt
              have r0 := HR10.out.cell_ 0 (v := .slice none 0 0) rfl
              have r1 := HR10.out.cell_ 1 (v := .int .i64 0) rfl
              have f0 := HR10.out.free 0
              have f1 := HR10.out.free 1
              have hl1 := HR10.out.lt
              go_wp2
              have o3 := (HR10.out.set_ 0 (.slice A2 c.ls.length c2)).set_ 1 (.int .i64 (((vi : Int) + 1) % c.ls.length))
              have t0 := o3.cell_ 0 (v := .slice A2 c.ls.length c2) rfl
              have t1 := o3.cell_ 1 (v := .int .i64 (((vi : Int) + 1) % c.ls.length)) rfl
              refine bodyPost_ret (v := .tuple #[.agg #[.slice A2 c.ls.length c2, .int .i64 (((vi : Int) + 1) % c.ls.length)], .int .i64 vi, .bool true]) (by simp [results, Tryz.results104, go_sem, t0, t1]) rfl ⟨_, rfl, _, by rw [HV.out, HA.out, HO.out], ?_, ?_⟩
              · rw [HV.out]
                exact ((M10.out.far (p := ⟨w.heap.size + 1 + 1, 0, none⟩) (u := .slice A2 c.ls.length c2) hlt3).far (p := ⟨w.heap.size + 1 + 1, 1, none⟩) (u := .int .i64 (((vi : Int) + 1) % c.ls.length)) hlt3).mono (by have := HB3.out.size; omega)
              · repeat (refine bS ?_ (by simp <;> omega))
                exact HB10.out
end Go.Proofs.YtnaagdmaggdbmaaGreatDoor
namespace Go.Proofs.YtnaagdmaggdbmaaGreatDoor
open Go.RowKit
set_option maxRecDepth 1000000
set_option maxHeartbeats 4000000 in
theorem TouchPage_any (vb vf vl vo : Value) (m : Ma) (p n : Int) (w : World) (hM : MaR w vb vf vl vo m) (hfree : Free w) :
    Calls Tryz.prog 40 #[.agg #[vb, vf, vl, .int .i64 m.c.hand, .int .i64 m.g.count, .int .i64 m.g.next, .int .i64 m.g.round, vo, .int .i64 m.sp], .int .i64 p, .int .i64 n] w (Post2 fun v w' => ∃ v1 v2 v3 v4, v = .tuple #[.agg #[v1, v2, v3, .int .i64 (tchV m p n).c.hand, .int .i64 (tchV m p n).g.count, .int .i64 (tchV m p n).g.next, .int .i64 (tchV m p n).g.round, v4, .int .i64 (tchV m p n).sp], .int .i64 (tchF m p n), .int .i64 (tchR m p n), .bool (tchO m p n)] ∧ MaM w.heap.size w' v1 v2 v3 v4 (tchV m p n) ∧ Below w.heap.size w w') := by
  have HFR := Lib.hid hfree
  clear hfree
  have hbx := (Own.new_ w 34 #[vb, vf, vl, .int .i64 m.c.hand, .int .i64 m.g.count, .int .i64 m.g.next, .int .i64 m.g.round, vo, .int .i64 m.sp]).alloc (o := .cells #[.slice none 0 0, .slice none 0 0, .slice none 0 0, .int .i64 0, .int .i64 0, .int .i64 0, .int .i64 0, .slice none 0 0, .int .i64 0] 34)
  have hbo := ownAt (W := w.alloc (.cells #[vb, vf, vl, .int .i64 m.c.hand, .int .i64 m.g.count, .int .i64 m.g.next, .int .i64 m.g.round, vo, .int .i64 m.sp] 34)) (g := w.heap.size + 1) (t := 34) (cs := #[.slice none 0 0, .slice none 0 0, .slice none 0 0, .int .i64 0, .int .i64 0, .int .i64 0, .int .i64 0, .slice none 0 0, .int .i64 0]) (by simp)
  have hb0 : Below w.heap.size w ((w.alloc (.cells #[vb, vf, vl, .int .i64 m.c.hand, .int .i64 m.g.count, .int .i64 m.g.next, .int .i64 m.g.round, vo, .int .i64 m.sp] 34)).alloc (.cells #[.slice none 0 0, .slice none 0 0, .slice none 0 0, .int .i64 0, .int .i64 0, .int .i64 0, .int .i64 0, .slice none 0 0, .int .i64 0] 34)) := bA (bA bR)
  have hs0 : ((w.alloc (.cells #[vb, vf, vl, .int .i64 m.c.hand, .int .i64 m.g.count, .int .i64 m.g.next, .int .i64 m.g.round, vo, .int .i64 m.sp] 34)).alloc (.cells #[.slice none 0 0, .slice none 0 0, .slice none 0 0, .int .i64 0, .int .i64 0, .int .i64 0, .int .i64 0, .slice none 0 0, .int .i64 0] 34)).heap.size = w.heap.size + 2 := by simp
  generalize hW : (w.alloc (.cells #[vb, vf, vl, .int .i64 m.c.hand, .int .i64 m.g.count, .int .i64 m.g.next, .int .i64 m.g.round, vo, .int .i64 m.sp] 34)).alloc (.cells #[.slice none 0 0, .slice none 0 0, .slice none 0 0, .int .i64 0, .int .i64 0, .int .i64 0, .int .i64 0, .slice none 0 0, .int .i64 0] 34) = W0 at hbx hbo hb0 hs0
  have m0q := hbx.cell_ 0 (v := vb) rfl
  have m1q := hbx.cell_ 1 (v := vf) rfl
  have m2q := hbx.cell_ 2 (v := vl) rfl
  have m3q := hbx.cell_ 3 (v := .int .i64 m.c.hand) rfl
  have m4q := hbx.cell_ 4 (v := .int .i64 m.g.count) rfl
  have m5q := hbx.cell_ 5 (v := .int .i64 m.g.next) rfl
  have m6q := hbx.cell_ 6 (v := .int .i64 m.g.round) rfl
  have m7q := hbx.cell_ 7 (v := vo) rfl
  have m8q := hbx.cell_ 8 (v := .int .i64 m.sp) rfl
  have HX0 := Lib.hid hbx
  have HO0 := Lib.hid hbo
  have HB0 := Lib.hid hb0
  have HM := Lib.hid hM
  clear hbx hbo hb0 hM
  clear m0q m1q m2q m3q m4q m5q m6q m7q m8q
  have HS0 : Hid (w.heap.size + 2 ≤ W0.heap.size) := Nat.le_of_eq hs0.symm
  have m00 := HX0.out.cell_ 0 (v := vb) rfl
  have m10 := HX0.out.cell_ 1 (v := vf) rfl
  have m20 := HX0.out.cell_ 2 (v := vl) rfl
  have m30 := HX0.out.cell_ 3 (v := .int .i64 m.c.hand) rfl
  have m40 := HX0.out.cell_ 4 (v := .int .i64 m.g.count) rfl
  have m50 := HX0.out.cell_ 5 (v := .int .i64 m.g.next) rfl
  have m60 := HX0.out.cell_ 6 (v := .int .i64 m.g.round) rfl
  have m70 := HX0.out.cell_ 7 (v := vo) rfl
  have m80 := HX0.out.cell_ 8 (v := .int .i64 m.sp) rfl
  go_enter Tryz.func40, Tryz.ntmps40
  go_wp2_with fail
  refine (MachineValid_any vb vf vl vo m _ (HM.out.now HB0.out) (HFR.out.now HB0.out)).mono ?_
  rintro e w1 ⟨rfl, hb1⟩
  have HX1 := Lib.hid (HX0.out.below hb1)
  have HO1 := Lib.hid (HO0.out.below hb1)
  have HB1 := Lib.hid (bT HB0.out hb1)
  have HS1 := Lib.hid (Nat.le_trans HS0.out hb1.size)
  clear hb1
  clear m00 m10 m20 m30 m40 m50 m60 m70 m80
  cases h1 : mav m with
  | false =>
    have HNO : Hid (tchO m p n = false) := by show _ = _; unfold tchO; rw [h1]; rfl
    have HV := Lib.hid (tchO_no HNO.out).1
    have HF := Lib.hid (tchO_no HNO.out).2.1
    have HR := Lib.hid (tchO_no HNO.out).2.2
    have r0x := HO1.out.cell_ 0 (v := .slice none 0 0) rfl
    have r1x := HO1.out.cell_ 1 (v := .slice none 0 0) rfl
    have r2x := HO1.out.cell_ 2 (v := .slice none 0 0) rfl
    have r3x := HO1.out.cell_ 3 (v := .int .i64 0) rfl
    have r4x := HO1.out.cell_ 4 (v := .int .i64 0) rfl
    have r5x := HO1.out.cell_ 5 (v := .int .i64 0) rfl
    have r6x := HO1.out.cell_ 6 (v := .int .i64 0) rfl
    have r7x := HO1.out.cell_ 7 (v := .slice none 0 0) rfl
    have r8x := HO1.out.cell_ 8 (v := .int .i64 0) rfl
    have z0x := HO1.out.free 0
    have z1x := HO1.out.free 1
    have z2x := HO1.out.free 2
    have z3x := HO1.out.free 3
    have z4x := HO1.out.free 4
    have z5x := HO1.out.free 5
    have z6x := HO1.out.free 6
    have z7x := HO1.out.free 7
    have z8x := HO1.out.free 8
    have hlr := HO1.out.lt
    go_wp2
    have o3 := HO1.out.set9 (.slice none 0 0) (.slice none 0 0) (.slice none 0 0) (.int .i64 0) (.int .i64 0) (.int .i64 0) (.int .i64 0) (.slice none 0 0) (.int .i64 0)
    have p0t := o3.cell_ 0 (v := .slice none 0 0) rfl
    have p1t := o3.cell_ 1 (v := .slice none 0 0) rfl
    have p2t := o3.cell_ 2 (v := .slice none 0 0) rfl
    have p3t := o3.cell_ 3 (v := .int .i64 maz.c.hand) rfl
    have p4t := o3.cell_ 4 (v := .int .i64 maz.g.count) rfl
    have p5t := o3.cell_ 5 (v := .int .i64 maz.g.next) rfl
    have p6t := o3.cell_ 6 (v := .int .i64 maz.g.round) rfl
    have p7t := o3.cell_ 7 (v := .slice none 0 0) rfl
    have p8t := o3.cell_ 8 (v := .int .i64 maz.sp) rfl
    refine bodyPost_ret (v := .tuple #[.agg #[.slice none 0 0, .slice none 0 0, .slice none 0 0, .int .i64 0, .int .i64 0, .int .i64 0, .int .i64 0, .slice none 0 0, .int .i64 0], .int .i64 0, .int .i64 0, .bool false]) (by simp [results, Tryz.results40, go_sem, p0t, p1t, p2t, p3t, p4t, p5t, p6t, p7t, p8t, maz, caz, tgz]) rfl ⟨_, rfl, _, _, _, _, by rw [HV.out, HF.out, HR.out, HNO.out]; rfl, by rw [HV.out]; exact mam_z, ?_⟩
    repeat (refine bS ?_ (by simp <;> omega))
    exact HB1.out
  | true =>
  cases h2 : inR p 256 with
  | false =>
    have HNO : Hid (tchO m p n = false) := by show _ = _; unfold tchO; rw [h2]; simp
    go_wp2_with fail
    refine (within_any _ _ _).mono ?_
    rintro e w' ⟨rfl, rfl⟩
    rw [h2]
    have HV := Lib.hid (tchO_no HNO.out).1
    have HF := Lib.hid (tchO_no HNO.out).2.1
    have HR := Lib.hid (tchO_no HNO.out).2.2
    have r0x := HO1.out.cell_ 0 (v := .slice none 0 0) rfl
    have r1x := HO1.out.cell_ 1 (v := .slice none 0 0) rfl
    have r2x := HO1.out.cell_ 2 (v := .slice none 0 0) rfl
    have r3x := HO1.out.cell_ 3 (v := .int .i64 0) rfl
    have r4x := HO1.out.cell_ 4 (v := .int .i64 0) rfl
    have r5x := HO1.out.cell_ 5 (v := .int .i64 0) rfl
    have r6x := HO1.out.cell_ 6 (v := .int .i64 0) rfl
    have r7x := HO1.out.cell_ 7 (v := .slice none 0 0) rfl
    have r8x := HO1.out.cell_ 8 (v := .int .i64 0) rfl
    have z0x := HO1.out.free 0
    have z1x := HO1.out.free 1
    have z2x := HO1.out.free 2
    have z3x := HO1.out.free 3
    have z4x := HO1.out.free 4
    have z5x := HO1.out.free 5
    have z6x := HO1.out.free 6
    have z7x := HO1.out.free 7
    have z8x := HO1.out.free 8
    have hlr := HO1.out.lt
    go_wp2
    have o3 := HO1.out.set9 (.slice none 0 0) (.slice none 0 0) (.slice none 0 0) (.int .i64 0) (.int .i64 0) (.int .i64 0) (.int .i64 0) (.slice none 0 0) (.int .i64 0)
    have p0t := o3.cell_ 0 (v := .slice none 0 0) rfl
    have p1t := o3.cell_ 1 (v := .slice none 0 0) rfl
    have p2t := o3.cell_ 2 (v := .slice none 0 0) rfl
    have p3t := o3.cell_ 3 (v := .int .i64 maz.c.hand) rfl
    have p4t := o3.cell_ 4 (v := .int .i64 maz.g.count) rfl
    have p5t := o3.cell_ 5 (v := .int .i64 maz.g.next) rfl
    have p6t := o3.cell_ 6 (v := .int .i64 maz.g.round) rfl
    have p7t := o3.cell_ 7 (v := .slice none 0 0) rfl
    have p8t := o3.cell_ 8 (v := .int .i64 maz.sp) rfl
    refine bodyPost_ret (v := .tuple #[.agg #[.slice none 0 0, .slice none 0 0, .slice none 0 0, .int .i64 0, .int .i64 0, .int .i64 0, .int .i64 0, .slice none 0 0, .int .i64 0], .int .i64 0, .int .i64 0, .bool false]) (by simp [results, Tryz.results40, go_sem, p0t, p1t, p2t, p3t, p4t, p5t, p6t, p7t, p8t, maz, caz, tgz]) rfl ⟨_, rfl, _, _, _, _, by rw [HV.out, HF.out, HR.out, HNO.out]; rfl, by rw [HV.out]; exact mam_z, ?_⟩
    repeat (refine bS ?_ (by simp <;> omega))
    exact HB1.out
  | true =>
  cases h3 : inR n 8 with
  | false =>
    have HNO : Hid (tchO m p n = false) := by show _ = _; unfold tchO; rw [h3]; simp
    go_wp2_with fail
    refine (within_any _ _ _).mono ?_
    rintro e w' ⟨rfl, rfl⟩
    rw [h2]
    go_wp2_with fail
    refine (RightsValid_any _ _).mono ?_
    rintro e w' ⟨rfl, rfl⟩
    rw [h3]
    have HV := Lib.hid (tchO_no HNO.out).1
    have HF := Lib.hid (tchO_no HNO.out).2.1
    have HR := Lib.hid (tchO_no HNO.out).2.2
    have r0x := HO1.out.cell_ 0 (v := .slice none 0 0) rfl
    have r1x := HO1.out.cell_ 1 (v := .slice none 0 0) rfl
    have r2x := HO1.out.cell_ 2 (v := .slice none 0 0) rfl
    have r3x := HO1.out.cell_ 3 (v := .int .i64 0) rfl
    have r4x := HO1.out.cell_ 4 (v := .int .i64 0) rfl
    have r5x := HO1.out.cell_ 5 (v := .int .i64 0) rfl
    have r6x := HO1.out.cell_ 6 (v := .int .i64 0) rfl
    have r7x := HO1.out.cell_ 7 (v := .slice none 0 0) rfl
    have r8x := HO1.out.cell_ 8 (v := .int .i64 0) rfl
    have z0x := HO1.out.free 0
    have z1x := HO1.out.free 1
    have z2x := HO1.out.free 2
    have z3x := HO1.out.free 3
    have z4x := HO1.out.free 4
    have z5x := HO1.out.free 5
    have z6x := HO1.out.free 6
    have z7x := HO1.out.free 7
    have z8x := HO1.out.free 8
    have hlr := HO1.out.lt
    go_wp2
    have o3 := HO1.out.set9 (.slice none 0 0) (.slice none 0 0) (.slice none 0 0) (.int .i64 0) (.int .i64 0) (.int .i64 0) (.int .i64 0) (.slice none 0 0) (.int .i64 0)
    have p0t := o3.cell_ 0 (v := .slice none 0 0) rfl
    have p1t := o3.cell_ 1 (v := .slice none 0 0) rfl
    have p2t := o3.cell_ 2 (v := .slice none 0 0) rfl
    have p3t := o3.cell_ 3 (v := .int .i64 maz.c.hand) rfl
    have p4t := o3.cell_ 4 (v := .int .i64 maz.g.count) rfl
    have p5t := o3.cell_ 5 (v := .int .i64 maz.g.next) rfl
    have p6t := o3.cell_ 6 (v := .int .i64 maz.g.round) rfl
    have p7t := o3.cell_ 7 (v := .slice none 0 0) rfl
    have p8t := o3.cell_ 8 (v := .int .i64 maz.sp) rfl
    refine bodyPost_ret (v := .tuple #[.agg #[.slice none 0 0, .slice none 0 0, .slice none 0 0, .int .i64 0, .int .i64 0, .int .i64 0, .int .i64 0, .slice none 0 0, .int .i64 0], .int .i64 0, .int .i64 0, .bool false]) (by simp [results, Tryz.results40, go_sem, p0t, p1t, p2t, p3t, p4t, p5t, p6t, p7t, p8t, maz, caz, tgz]) rfl ⟨_, rfl, _, _, _, _, by rw [HV.out, HF.out, HR.out, HNO.out]; rfl, by rw [HV.out]; exact mam_z, ?_⟩
    repeat (refine bS ?_ (by simp <;> omega))
    exact HB1.out
  | true =>
  have HOK : Hid (tchO m p n = true) := by show _ = _; unfold tchO; rw [h1, h2, h3]; rfl
  obtain ⟨a1, a2, a3, a4⟩ := mav_len h1
  have MM := mav_MV.1 h1
  go_wp2_with fail
  refine (within_any _ _ _).mono ?_
  rintro e w' ⟨rfl, rfl⟩
  rw [h2]
  go_wp2_with fail
  refine (RightsValid_any _ _).mono ?_
  rintro e w' ⟨rfl, rfl⟩
  rw [h3]
  have m01 := HX1.out.cell_ 0 (v := vb) rfl
  have m11 := HX1.out.cell_ 1 (v := vf) rfl
  have m21 := HX1.out.cell_ 2 (v := vl) rfl
  have m31 := HX1.out.cell_ 3 (v := .int .i64 m.c.hand) rfl
  have m41 := HX1.out.cell_ 4 (v := .int .i64 m.g.count) rfl
  have m51 := HX1.out.cell_ 5 (v := .int .i64 m.g.next) rfl
  have m61 := HX1.out.cell_ 6 (v := .int .i64 m.g.round) rfl
  have m71 := HX1.out.cell_ 7 (v := vo) rfl
  have m81 := HX1.out.cell_ 8 (v := .int .i64 m.sp) rfl
  go_wp2_with fail
  refine (mclone_any vb vf vl vo m _ (HM.out.now HB1.out) a1 a2 a3 a4).mono ?_
  rintro e w3 ⟨_, rfl, q1, q2, q3, q4, rfl, hM3, hb3⟩
  have hs1 := HS1.out
  have hM3' := hM3.mono hs1
  obtain ⟨B1, d1, rfl, _⟩ := hM3.t.b
  obtain ⟨B2, d2, rfl, _⟩ := hM3.t.f
  obtain ⟨B3, d3, rfl, _⟩ := hM3.l
  obtain ⟨B4, d4, rfl, _⟩ := hM3.o
  have HX3 := Lib.hid (HX1.out.below hb3)
  have HO3 := Lib.hid (HO1.out.below hb3)
  have HB3 := Lib.hid (bT HB1.out hb3)
  have HS3 := Lib.hid (Nat.le_trans HS1.out hb3.size)
  clear hb3
  clear m01 m11 m21 m31 m41 m51 m61 m71 m81
  have hs3 := HS3.out
  have ho4 := Own.new_ w3 34 #[.slice B1 m.t.bs.length d1, .slice B2 m.t.fs.length d2, .slice B3 m.c.ls.length d3, .int .i64 m.c.hand, .int .i64 m.g.count, .int .i64 m.g.next, .int .i64 m.g.round, .slice B4 m.g.os.length d4, .int .i64 m.sp]
  have hb4 : Below w3.heap.size w3 (w3.alloc (.cells #[.slice B1 m.t.bs.length d1, .slice B2 m.t.fs.length d2, .slice B3 m.c.ls.length d3, .int .i64 m.c.hand, .int .i64 m.g.count, .int .i64 m.g.next, .int .i64 m.g.round, .slice B4 m.g.os.length d4, .int .i64 m.sp] 34)) := bA bR
  generalize hW4 : w3.alloc (.cells #[.slice B1 m.t.bs.length d1, .slice B2 m.t.fs.length d2, .slice B3 m.c.ls.length d3, .int .i64 m.c.hand, .int .i64 m.g.count, .int .i64 m.g.next, .int .i64 m.g.round, .slice B4 m.g.os.length d4, .int .i64 m.sp] 34) = w4 at ho4 hb4
  have HM4 := Lib.hid (hM3'.now hb4)
  have HU4 := Lib.hid ho4
  have HX4 := Lib.hid (HX3.out.below hb4)
  have HO4 := Lib.hid (HO3.out.below hb4)
  have HB4 := Lib.hid (bT HB3.out hb4)
  have HS4 := Lib.hid (Nat.le_trans HS3.out hb4.size)
  clear hb4
  clear hM3 hM3' ho4
  have m04 := HX4.out.cell_ 0 (v := vb) rfl
  have m14 := HX4.out.cell_ 1 (v := vf) rfl
  have m24 := HX4.out.cell_ 2 (v := vl) rfl
  have m34 := HX4.out.cell_ 3 (v := .int .i64 m.c.hand) rfl
  have m44 := HX4.out.cell_ 4 (v := .int .i64 m.g.count) rfl
  have m54 := HX4.out.cell_ 5 (v := .int .i64 m.g.next) rfl
  have m64 := HX4.out.cell_ 6 (v := .int .i64 m.g.round) rfl
  have m74 := HX4.out.cell_ 7 (v := vo) rfl
  have m84 := HX4.out.cell_ 8 (v := .int .i64 m.sp) rfl
  go_wp2_with fail
  refine (tagFor_any vb vf vl vo m m.sp p _ (HM.out.now HB4.out)).mono ?_
  rintro e w2 ⟨rfl, hb2⟩
  have HM2 := Lib.hid (HM4.out.now hb2)
  have HU2 := Lib.hid (HU4.out.below hb2)
  have HX2 := Lib.hid (HX4.out.below hb2)
  have HO2 := Lib.hid (HO4.out.below hb2)
  have HB2 := Lib.hid (bT HB4.out hb2)
  have HS2 := Lib.hid (Nat.le_trans HS4.out hb2.size)
  clear hb2
  clear m04 m14 m24 m34 m44 m54 m64 m74 m84
  clear hW4
  have m02 := HX2.out.cell_ 0 (v := vb) rfl
  have m12 := HX2.out.cell_ 1 (v := vf) rfl
  have m22 := HX2.out.cell_ 2 (v := vl) rfl
  have m32 := HX2.out.cell_ 3 (v := .int .i64 m.c.hand) rfl
  have m42 := HX2.out.cell_ 4 (v := .int .i64 m.g.count) rfl
  have m52 := HX2.out.cell_ 5 (v := .int .i64 m.g.next) rfl
  have m62 := HX2.out.cell_ 6 (v := .int .i64 m.g.round) rfl
  have m72 := HX2.out.cell_ 7 (v := vo) rfl
  have m82 := HX2.out.cell_ 8 (v := .int .i64 m.sp) rfl
  go_wp2_with fail
  refine (place_any vl m.c (tagT m m.sp p) p _ (HM.out.l.now HB2.out)).mono ?_
  rintro e w5 ⟨rfl, hb5⟩
  have HM5 := Lib.hid (HM2.out.now hb5)
  have HU5 := Lib.hid (HU2.out.below hb5)
  have HX5 := Lib.hid (HX2.out.below hb5)
  have HO5 := Lib.hid (HO2.out.below hb5)
  have HB5 := Lib.hid (bT HB2.out hb5)
  have HS5 := Lib.hid (Nat.le_trans HS2.out hb5.size)
  clear hb5
  clear m02 m12 m22 m32 m42 m52 m62 m72 m82
  rw [show plcI m.c.ls (tagT m m.sp p) p = tchH m p from rfl]
  by_cases hh : 0 ≤ tchH m p
  case pos =>
    obtain ⟨k, i, x, f, hk, ex, hxf, ef, hu, hfr, hti, _⟩ := MM.hit hh
    rw [hk]
    have HVV : Hid (tchV m p n = m) := by show _ = _; unfold tchV; rw [HOK.out, if_pos rfl, if_pos hh]
    have HFF : Hid (tchF m p n = (i : Int)) := by show _ = _; unfold tchF; rw [HOK.out, if_pos rfl, hti]
    have HAA : Hid (tchA m p n = alw x.r n) := by show _ = _; unfold tchA; rw [hti, Int.toNat_natCast, getD_at ef, hfr]
    have HRR : Hid (tchR m p n = if alw x.r n = true then 1 else 4) := by show _ = _; unfold tchR; rw [HOK.out, if_pos rfl, if_pos hh, HAA.out]
    obtain ⟨Al, cl, rfl, hlc, hlm, hL⟩ := HM.out.l
    obtain ⟨bl, ol, rfl, hbl, x0, x1, x2, x3, x4, x5⟩ := (hL.now (Nat.le_refl _) HB5.out).ln ex
    rw [hxf] at x3
    have hkl := (List.getElem?_eq_some_iff.1 ex).1
    have m25 := HX5.out.cell_ 2 (v := .slice (some ⟨bl, ol, none⟩) m.c.ls.length cl) rfl
    clear x0 x1 x2 x5 hL ex ef hh hk hti hxf hfr hu
    have hkz : (0 : Int) ≤ (k : Int) := by omega
    go_wp2
    go_quiet (fail)
    clear x3 x4 m25
    have HX6 := Lib.hid (HX5.out.drewN (n := nq))
    have HO6 := Lib.hid (HO5.out.drewN (n := nq))
    have HU6 := Lib.hid (HU5.out.drewN (n := nq))
    have HB6 := Lib.hid (bDN HB5.out (n := nq))
    have HM6 := Lib.hid (HM5.out.now (bDN bR (n := nq)))
    generalize w5.drewN nq = w6 at HX6 HO6 HU6 HB6 HM6 ⊢
    go_wp2_with fail
    refine (Allows_any _ _ _).mono ?_
    rintro e w' ⟨rfl, rfl⟩
    cases hal : alw x.r n with
    | true =>
      rw [hal] at HRR
      have r0x := HO6.out.cell_ 0 (v := .slice none 0 0) rfl
      have r1x := HO6.out.cell_ 1 (v := .slice none 0 0) rfl
      have r2x := HO6.out.cell_ 2 (v := .slice none 0 0) rfl
      have r3x := HO6.out.cell_ 3 (v := .int .i64 0) rfl
      have r4x := HO6.out.cell_ 4 (v := .int .i64 0) rfl
      have r5x := HO6.out.cell_ 5 (v := .int .i64 0) rfl
      have r6x := HO6.out.cell_ 6 (v := .int .i64 0) rfl
      have r7x := HO6.out.cell_ 7 (v := .slice none 0 0) rfl
      have r8x := HO6.out.cell_ 8 (v := .int .i64 0) rfl
      have z0x := HO6.out.free 0
      have z1x := HO6.out.free 1
      have z2x := HO6.out.free 2
      have z3x := HO6.out.free 3
      have z4x := HO6.out.free 4
      have z5x := HO6.out.free 5
      have z6x := HO6.out.free 6
      have z7x := HO6.out.free 7
      have z8x := HO6.out.free 8
      have p0o := HU6.out.cell_ 0 (v := .slice B1 m.t.bs.length d1) rfl
      have p1o := HU6.out.cell_ 1 (v := .slice B2 m.t.fs.length d2) rfl
      have p2o := HU6.out.cell_ 2 (v := .slice B3 m.c.ls.length d3) rfl
      have p3o := HU6.out.cell_ 3 (v := .int .i64 m.c.hand) rfl
      have p4o := HU6.out.cell_ 4 (v := .int .i64 m.g.count) rfl
      have p5o := HU6.out.cell_ 5 (v := .int .i64 m.g.next) rfl
      have p6o := HU6.out.cell_ 6 (v := .int .i64 m.g.round) rfl
      have p7o := HU6.out.cell_ 7 (v := .slice B4 m.g.os.length d4) rfl
      have p8o := HU6.out.cell_ 8 (v := .int .i64 m.sp) rfl
      have hlr := HO6.out.lt
      have hlu := HU6.out.lt
      go_wp2
      have o3 := HO6.out.set9 (.slice B1 m.t.bs.length d1) (.slice B2 m.t.fs.length d2) (.slice B3 m.c.ls.length d3) (.int .i64 (m).c.hand) (.int .i64 (m).g.count) (.int .i64 (m).g.next) (.int .i64 (m).g.round) (.slice B4 m.g.os.length d4) (.int .i64 (m).sp)
      have p0t := o3.cell_ 0 (v := .slice B1 m.t.bs.length d1) rfl
      have p1t := o3.cell_ 1 (v := .slice B2 m.t.fs.length d2) rfl
      have p2t := o3.cell_ 2 (v := .slice B3 m.c.ls.length d3) rfl
      have p3t := o3.cell_ 3 (v := .int .i64 m.c.hand) rfl
      have p4t := o3.cell_ 4 (v := .int .i64 m.g.count) rfl
      have p5t := o3.cell_ 5 (v := .int .i64 m.g.next) rfl
      have p6t := o3.cell_ 6 (v := .int .i64 m.g.round) rfl
      have p7t := o3.cell_ 7 (v := .slice B4 m.g.os.length d4) rfl
      have p8t := o3.cell_ 8 (v := .int .i64 m.sp) rfl
      refine bodyPost_ret (v := .tuple #[.agg #[.slice B1 m.t.bs.length d1, .slice B2 m.t.fs.length d2, .slice B3 m.c.ls.length d3, .int .i64 m.c.hand, .int .i64 m.g.count, .int .i64 m.g.next, .int .i64 m.g.round, .slice B4 m.g.os.length d4, .int .i64 m.sp], .int .i64 (i), .int .i64 (1), .bool true]) (by simp [results, Tryz.results40, go_sem, p0t, p1t, p2t, p3t, p4t, p5t, p6t, p7t, p8t]) rfl ⟨_, rfl, _, _, _, _, by (rw [HVV.out, HFF.out, HRR.out, HOK.out]) <;> rfl, ?_, ?_⟩
      · rw [HVV.out]
        exact (HM6.out.far9 HO6.out _ _ _ _ _ _ _ _ _).mono (by omega)
      · repeat (refine bS ?_ (by simp <;> omega))
        exact HB6.out
    | false =>
      rw [hal] at HRR
      have r0x := HO6.out.cell_ 0 (v := .slice none 0 0) rfl
      have r1x := HO6.out.cell_ 1 (v := .slice none 0 0) rfl
      have r2x := HO6.out.cell_ 2 (v := .slice none 0 0) rfl
      have r3x := HO6.out.cell_ 3 (v := .int .i64 0) rfl
      have r4x := HO6.out.cell_ 4 (v := .int .i64 0) rfl
      have r5x := HO6.out.cell_ 5 (v := .int .i64 0) rfl
      have r6x := HO6.out.cell_ 6 (v := .int .i64 0) rfl
      have r7x := HO6.out.cell_ 7 (v := .slice none 0 0) rfl
      have r8x := HO6.out.cell_ 8 (v := .int .i64 0) rfl
      have z0x := HO6.out.free 0
      have z1x := HO6.out.free 1
      have z2x := HO6.out.free 2
      have z3x := HO6.out.free 3
      have z4x := HO6.out.free 4
      have z5x := HO6.out.free 5
      have z6x := HO6.out.free 6
      have z7x := HO6.out.free 7
      have z8x := HO6.out.free 8
      have p0o := HU6.out.cell_ 0 (v := .slice B1 m.t.bs.length d1) rfl
      have p1o := HU6.out.cell_ 1 (v := .slice B2 m.t.fs.length d2) rfl
      have p2o := HU6.out.cell_ 2 (v := .slice B3 m.c.ls.length d3) rfl
      have p3o := HU6.out.cell_ 3 (v := .int .i64 m.c.hand) rfl
      have p4o := HU6.out.cell_ 4 (v := .int .i64 m.g.count) rfl
      have p5o := HU6.out.cell_ 5 (v := .int .i64 m.g.next) rfl
      have p6o := HU6.out.cell_ 6 (v := .int .i64 m.g.round) rfl
      have p7o := HU6.out.cell_ 7 (v := .slice B4 m.g.os.length d4) rfl
      have p8o := HU6.out.cell_ 8 (v := .int .i64 m.sp) rfl
      have hlr := HO6.out.lt
      have hlu := HU6.out.lt
      go_wp2
      have o3 := HO6.out.set9 (.slice B1 m.t.bs.length d1) (.slice B2 m.t.fs.length d2) (.slice B3 m.c.ls.length d3) (.int .i64 (m).c.hand) (.int .i64 (m).g.count) (.int .i64 (m).g.next) (.int .i64 (m).g.round) (.slice B4 m.g.os.length d4) (.int .i64 (m).sp)
      have p0t := o3.cell_ 0 (v := .slice B1 m.t.bs.length d1) rfl
      have p1t := o3.cell_ 1 (v := .slice B2 m.t.fs.length d2) rfl
      have p2t := o3.cell_ 2 (v := .slice B3 m.c.ls.length d3) rfl
      have p3t := o3.cell_ 3 (v := .int .i64 m.c.hand) rfl
      have p4t := o3.cell_ 4 (v := .int .i64 m.g.count) rfl
      have p5t := o3.cell_ 5 (v := .int .i64 m.g.next) rfl
      have p6t := o3.cell_ 6 (v := .int .i64 m.g.round) rfl
      have p7t := o3.cell_ 7 (v := .slice B4 m.g.os.length d4) rfl
      have p8t := o3.cell_ 8 (v := .int .i64 m.sp) rfl
      refine bodyPost_ret (v := .tuple #[.agg #[.slice B1 m.t.bs.length d1, .slice B2 m.t.fs.length d2, .slice B3 m.c.ls.length d3, .int .i64 m.c.hand, .int .i64 m.g.count, .int .i64 m.g.next, .int .i64 m.g.round, .slice B4 m.g.os.length d4, .int .i64 m.sp], .int .i64 (i), .int .i64 (4), .bool true]) (by simp [results, Tryz.results40, go_sem, p0t, p1t, p2t, p3t, p4t, p5t, p6t, p7t, p8t]) rfl ⟨_, rfl, _, _, _, _, by (rw [HVV.out, HFF.out, HRR.out, HOK.out]) <;> rfl, ?_, ?_⟩
      · rw [HVV.out]
        exact (HM6.out.far9 HO6.out _ _ _ _ _ _ _ _ _).mono (by omega)
      · repeat (refine bS ?_ (by simp <;> omega))
        exact HB6.out
  case neg =>
    have HNH : Hid (¬ 0 ≤ tchH m p) := hh
    have HK := Lib.hid (KeyFor_any m.sp p)
    have HFN := Lib.hid (fun W (h : TaR W vb vf m.t) => find_any vb vf m.t (keyI m.sp p) p W h)
    rw [show fndI m.t.fs (keyI m.sp p) p = tchK m p from rfl] at HFN
    have m05 := HX5.out.cell_ 0 (v := vb) rfl
    have m15 := HX5.out.cell_ 1 (v := vf) rfl
    have m85 := HX5.out.cell_ 8 (v := .int .i64 m.sp) rfl
    go_wp2
    go_region_held_law (fun w' => w'.cell? ⟨w.heap.size, 0, none⟩ = some vb ∧ w'.cell? ⟨w.heap.size, 1, none⟩ = some vf ∧ w'.cell? ⟨w.heap.size, 8, none⟩ = some (.int .i64 m.sp)) (go_keep) (first
      | (go_at_call 29
         refine (HK.out _).mono ?_
         rintro _ w6 ⟨rfl, hb6⟩
         have HM6 := Lib.hid (HM5.out.now (bT (bD bR) hb6))
         have HU6 := Lib.hid (HU5.out.drew.below hb6)
         have HX6 := Lib.hid (HX5.out.drew.below hb6)
         have HO6 := Lib.hid (HO5.out.drew.below hb6)
         have HB6 := Lib.hid (bT (bD HB5.out) hb6)
         have d0 := HX6.out.cell_ 0 (v := vb) rfl
         have d1 := HX6.out.cell_ 1 (v := vf) rfl
         have d2 := HX6.out.cell_ 8 (v := .int .i64 m.sp) rfl
         clear hb6)
      | (go_at_call 68
         refine (HFN.out _ (HM.out.t.now HB6.out)).mono ?_
         rintro _ w7 ⟨rfl, hb7⟩
         have HM7 := Lib.hid (HM6.out.now hb7)
         have HU7 := Lib.hid (HU6.out.below hb7)
         have HX7 := Lib.hid (HX6.out.below hb7)
         have HO7 := Lib.hid (HO6.out.below hb7)
         have HB7 := Lib.hid (bT HB6.out hb7)
         have e0 := HX7.out.cell_ 0 (v := vb) rfl
         have e1 := HX7.out.cell_ 1 (v := vf) rfl
         have e2 := HX7.out.cell_ 8 (v := .int .i64 m.sp) rfl
         clear hb7 d0 d1 d2))
    all_goals
      clear m05 m15 m85 e0 e1 e2
      have hnh : ¬ 0 ≤ tchH m p := by have := HNH.out; omega
      by_cases hf : 0 ≤ tchK m p
      case neg =>
        have HVV : Hid (tchV m p n = m) := by show _ = _; unfold tchV; rw [HOK.out, if_pos rfl, if_neg hnh, if_neg hf]
        have HFF : Hid (tchF m p n = 0) := by show _ = _; unfold tchF tchFr; rw [HOK.out, if_pos rfl, if_neg hnh, if_neg hf]
        have HRR : Hid (tchR m p n = 3) := by show _ = _; unfold tchR; rw [HOK.out, if_pos rfl, if_neg hnh, if_neg hf]
        have hfb : tchK m p < 0 := by omega
        have r0x := HO7.out.cell_ 0 (v := .slice none 0 0) rfl
        have r1x := HO7.out.cell_ 1 (v := .slice none 0 0) rfl
        have r2x := HO7.out.cell_ 2 (v := .slice none 0 0) rfl
        have r3x := HO7.out.cell_ 3 (v := .int .i64 0) rfl
        have r4x := HO7.out.cell_ 4 (v := .int .i64 0) rfl
        have r5x := HO7.out.cell_ 5 (v := .int .i64 0) rfl
        have r6x := HO7.out.cell_ 6 (v := .int .i64 0) rfl
        have r7x := HO7.out.cell_ 7 (v := .slice none 0 0) rfl
        have r8x := HO7.out.cell_ 8 (v := .int .i64 0) rfl
        have z0x := HO7.out.free 0
        have z1x := HO7.out.free 1
        have z2x := HO7.out.free 2
        have z3x := HO7.out.free 3
        have z4x := HO7.out.free 4
        have z5x := HO7.out.free 5
        have z6x := HO7.out.free 6
        have z7x := HO7.out.free 7
        have z8x := HO7.out.free 8
        have p0o := HU7.out.cell_ 0 (v := .slice B1 m.t.bs.length d1) rfl
        have p1o := HU7.out.cell_ 1 (v := .slice B2 m.t.fs.length d2) rfl
        have p2o := HU7.out.cell_ 2 (v := .slice B3 m.c.ls.length d3) rfl
        have p3o := HU7.out.cell_ 3 (v := .int .i64 m.c.hand) rfl
        have p4o := HU7.out.cell_ 4 (v := .int .i64 m.g.count) rfl
        have p5o := HU7.out.cell_ 5 (v := .int .i64 m.g.next) rfl
        have p6o := HU7.out.cell_ 6 (v := .int .i64 m.g.round) rfl
        have p7o := HU7.out.cell_ 7 (v := .slice B4 m.g.os.length d4) rfl
        have p8o := HU7.out.cell_ 8 (v := .int .i64 m.sp) rfl
        have hlr := HO7.out.lt
        have hlu := HU7.out.lt
        go_wp2
        have o3 := HO7.out.set9 (.slice B1 m.t.bs.length d1) (.slice B2 m.t.fs.length d2) (.slice B3 m.c.ls.length d3) (.int .i64 (m).c.hand) (.int .i64 (m).g.count) (.int .i64 (m).g.next) (.int .i64 (m).g.round) (.slice B4 m.g.os.length d4) (.int .i64 (m).sp)
        have p0t := o3.cell_ 0 (v := .slice B1 m.t.bs.length d1) rfl
        have p1t := o3.cell_ 1 (v := .slice B2 m.t.fs.length d2) rfl
        have p2t := o3.cell_ 2 (v := .slice B3 m.c.ls.length d3) rfl
        have p3t := o3.cell_ 3 (v := .int .i64 m.c.hand) rfl
        have p4t := o3.cell_ 4 (v := .int .i64 m.g.count) rfl
        have p5t := o3.cell_ 5 (v := .int .i64 m.g.next) rfl
        have p6t := o3.cell_ 6 (v := .int .i64 m.g.round) rfl
        have p7t := o3.cell_ 7 (v := .slice B4 m.g.os.length d4) rfl
        have p8t := o3.cell_ 8 (v := .int .i64 m.sp) rfl
        refine bodyPost_ret (v := .tuple #[.agg #[.slice B1 m.t.bs.length d1, .slice B2 m.t.fs.length d2, .slice B3 m.c.ls.length d3, .int .i64 m.c.hand, .int .i64 m.g.count, .int .i64 m.g.next, .int .i64 m.g.round, .slice B4 m.g.os.length d4, .int .i64 m.sp], .int .i64 (0), .int .i64 (3), .bool true]) (by simp [results, Tryz.results40, go_sem, p0t, p1t, p2t, p3t, p4t, p5t, p6t, p7t, p8t]) rfl ⟨_, rfl, _, _, _, _, by (rw [HVV.out, HFF.out, HRR.out, HOK.out]) <;> rfl, ?_, ?_⟩
        · rw [HVV.out]
          exact (HM7.out.far9 HO7.out _ _ _ _ _ _ _ _ _).mono (by omega)
        · repeat (refine bS ?_ (by simp <;> omega))
          exact HB7.out
      case pos =>
        obtain ⟨k, hk, hfd⟩ := fndI_fnd (show 0 ≤ fndI m.t.fs (keyI m.sp p) p from hf)
        obtain ⟨f, ef, hu, _⟩ := fnd_some hfd
        have hkk : tchK m p = (k : Int) := hk
        have hok := (MM.fill h2 hnh hfd).1
        have HVV : Hid (tchV m p n = { m with c := filC m.c (tln m p k) }) := by show _ = _; unfold tchV; rw [HOK.out, if_pos rfl, if_neg hnh, if_pos hf, hkk]
        have hti : tchFr m p = (k : Int) := by unfold tchFr; rw [if_neg hnh, if_pos hf, hkk]
        have HFF : Hid (tchF m p n = (k : Int)) := by show _ = _; unfold tchF; rw [HOK.out, if_pos rfl, hti]
        have HAA : Hid (tchA m p n = alw f.r n) := by show _ = _; unfold tchA; rw [hti, Int.toNat_natCast, getD_at ef]
        have HRR : Hid (tchR m p n = if alw f.r n = true then 2 else 4) := by show _ = _; unfold tchR; rw [HOK.out, if_pos rfl, if_neg hnh, if_pos hf, HAA.out]
        have hkl := (List.getElem?_eq_some_iff.1 ef).1
        have hfb : ¬ (k : Int) < 0 := by omega
        have hln : tln m p k = ⟨true, tagT m m.sp p, p, k, f.r, false⟩ := by unfold tln; rw [Int.toNat_natCast, getD_at ef]
        have hFL := fun W (h : SlR lnE W (.slice B3 m.c.ls.length d3) m.c.ls) => FillLine_any (.slice B3 m.c.ls.length d3) m.c (tln m p k) W h
        rw [filOK_true hok, hok] at hFL
        have hFA : filA m.c (tln m p k) = vic m.c := by unfold filA; rw [hok, if_pos rfl]
        rw [hFA] at hFL
        generalize hVC : filC m.c (tln m p k) = V at *
        rw [hln] at hFL
        simp only [lnV] at hFL
        have HFL := Lib.hid hFL
        rw [hkk]
        obtain ⟨Af, cf, rfl, hfc, hfm, hF⟩ := HM.out.t.f
        obtain ⟨bf, of, rfl, hbf, y0, y1, y2, y3, y4⟩ := (hF.now (Nat.le_refl _) HB7.out).fr ef
        have m17 := HX7.out.cell_ 1 (v := .slice (some ⟨bf, of, none⟩) m.t.fs.length cf) rfl
        clear hk hfd ef hu hkk hok hti hf hnh hFL hln hF y0 y1 y2 y4 hVC hFA
        have hkz : (0 : Int) ≤ (k : Int) := by omega
        go_wp2
        go_quiet (fail)
        clear m17 y3
        have HX9 := Lib.hid (HX7.out.drewN (n := nq))
        have HO9 := Lib.hid (HO7.out.drewN (n := nq))
        have HU9 := Lib.hid (HU7.out.drewN (n := nq))
        have HB9 := Lib.hid (bDN HB7.out (n := nq))
        have HM9 := Lib.hid (HM7.out.now (bDN bR (n := nq)))
        generalize w7.drewN nq = w9 at HX9 HO9 HU9 HB9 HM9 ⊢
        have u2 := HU9.out.cell_ 2 (v := .slice B3 m.c.ls.length d3) rfl
        have u3 := HU9.out.cell_ 3 (v := .int .i64 m.c.hand) rfl
        go_wp2_with fail
        refine (HFL.out _ HM9.out.l.r).mono ?_
        rintro e w8 ⟨_, rfl, c1, rfl, hL8, hb8⟩
        have hL8' := hL8
        obtain ⟨E3, n3, rfl, _⟩ := hL8'
        have ho10 := Own.new_ w8 29 #[.slice E3 V.ls.length n3, .int .i64 V.hand]
        have hb10 : Below w8.heap.size w8 (w8.alloc (.cells #[.slice E3 V.ls.length n3, .int .i64 V.hand] 29)) := bA bR
        generalize hW10 : w8.alloc (.cells #[.slice E3 V.ls.length n3, .int .i64 V.hand] 29) = w10 at ho10 hb10
        have hsz9 : w.heap.size + 2 ≤ w9.heap.size := by have := HU9.out.lt; omega
        have HL10 := Lib.hid ((hL8.now hb10).mono hsz9)
        have HC10 := Lib.hid ho10
        have HU10 := Lib.hid ((HU9.out.below hb8).below hb10)
        have HX10 := Lib.hid ((HX9.out.below hb8).below hb10)
        have HO10 := Lib.hid ((HO9.out.below hb8).below hb10)
        have HB10 := Lib.hid (bT (bT HB9.out hb8) hb10)
        have HM10 := Lib.hid ((HM9.out.now hb8).now hb10)
        have hcu : w8.heap.size ≠ w3.heap.size := by have := HU9.out.lt; have := hb8.size; omega
        have hcu2 : w3.heap.size ≠ w8.heap.size := fun h => hcu h.symm
        clear hL8 hb8 ho10 hb10 u2 u3
        have c0 := HC10.out.cell_ 0 (v := .slice E3 V.ls.length n3) rfl
        have c1 := HC10.out.cell_ 1 (v := .int .i64 V.hand) rfl
        have hlc := HC10.out.lt
        have hlu := HU10.out.lt
        have g2 := HU10.out.free 2
        have g3 := HU10.out.free 3
        have u2 := HU10.out.cell_ 2 (v := .slice B3 m.c.ls.length d3) rfl
        have u3 := HU10.out.cell_ 3 (v := .int .i64 m.c.hand) rfl
        have hu11 := (HU10.out.set_ 2 (.slice E3 V.ls.length n3)).set_ 3 (.int .i64 V.hand)
        have ho11 := (HO10.out.far (p := ⟨w3.heap.size, 2, none⟩) (u := .slice E3 V.ls.length n3) (by show w.heap.size + 1 ≠ w3.heap.size; omega)).far (p := ⟨w3.heap.size, 3, none⟩) (u := .int .i64 V.hand) (by show w.heap.size + 1 ≠ w3.heap.size; omega)
        have hmm : MaM (w.heap.size + 2) w10 (.slice B1 m.t.bs.length d1) (.slice B2 m.t.fs.length d2) (.slice E3 V.ls.length n3) (.slice B4 m.g.os.length d4) { m with c := V } := ⟨HM10.out.t, HL10.out, HM10.out.o⟩
        have hm11 := (hmm.farT (u := .slice E3 V.ls.length n3) (i := 2) HU10.out).farT (u := .int .i64 V.hand) (i := 3) (HU10.out.set_ 2 (.slice E3 V.ls.length n3))
        have hb11 : Below w.heap.size w ((w10.setCell ⟨w3.heap.size, 2, none⟩ (.slice E3 V.ls.length n3)).setCell ⟨w3.heap.size, 3, none⟩ (.int .i64 V.hand)) := by
          repeat (refine bS ?_ (by simp <;> omega))
          exact HB10.out
        generalize hW11 : (w10.setCell ⟨w3.heap.size, 2, none⟩ (.slice E3 V.ls.length n3)).setCell ⟨w3.heap.size, 3, none⟩ (.int .i64 V.hand) = w11 at hu11 ho11 hm11 hb11
        have HU11 : Hid (Own w11 w3.heap.size 34 #[.slice B1 m.t.bs.length d1, .slice B2 m.t.fs.length d2, .slice E3 V.ls.length n3, .int .i64 ({ m with c := V } : Ma).c.hand, .int .i64 ({ m with c := V } : Ma).g.count, .int .i64 ({ m with c := V } : Ma).g.next, .int .i64 ({ m with c := V } : Ma).g.round, .slice B4 m.g.os.length d4, .int .i64 ({ m with c := V } : Ma).sp]) := by
          show Own _ _ _ _
          simpa using hu11
        have HO11 := Lib.hid ho11
        have HM11 := Lib.hid hm11
        have HB11 := Lib.hid hb11
        clear hu11 ho11 hm11 hb11 hmm
        go_wp2_with fail
        refine (Allows_any _ _ _).mono ?_
        rintro e w' ⟨rfl, rfl⟩
        clear c0 c1 g2 g3 u2 u3 hW11 hW10
        cases hal : alw f.r n with
        | true =>
          rw [hal] at HRR
          have r0x := HO11.out.cell_ 0 (v := .slice none 0 0) rfl
          have r1x := HO11.out.cell_ 1 (v := .slice none 0 0) rfl
          have r2x := HO11.out.cell_ 2 (v := .slice none 0 0) rfl
          have r3x := HO11.out.cell_ 3 (v := .int .i64 0) rfl
          have r4x := HO11.out.cell_ 4 (v := .int .i64 0) rfl
          have r5x := HO11.out.cell_ 5 (v := .int .i64 0) rfl
          have r6x := HO11.out.cell_ 6 (v := .int .i64 0) rfl
          have r7x := HO11.out.cell_ 7 (v := .slice none 0 0) rfl
          have r8x := HO11.out.cell_ 8 (v := .int .i64 0) rfl
          have z0x := HO11.out.free 0
          have z1x := HO11.out.free 1
          have z2x := HO11.out.free 2
          have z3x := HO11.out.free 3
          have z4x := HO11.out.free 4
          have z5x := HO11.out.free 5
          have z6x := HO11.out.free 6
          have z7x := HO11.out.free 7
          have z8x := HO11.out.free 8
          have p0o := HU11.out.cell_ 0 (v := .slice B1 m.t.bs.length d1) rfl
          have p1o := HU11.out.cell_ 1 (v := .slice B2 m.t.fs.length d2) rfl
          have p2o := HU11.out.cell_ 2 (v := .slice E3 V.ls.length n3) rfl
          have p3o := HU11.out.cell_ 3 (v := .int .i64 ({ m with c := V } : Ma).c.hand) rfl
          have p4o := HU11.out.cell_ 4 (v := .int .i64 ({ m with c := V } : Ma).g.count) rfl
          have p5o := HU11.out.cell_ 5 (v := .int .i64 ({ m with c := V } : Ma).g.next) rfl
          have p6o := HU11.out.cell_ 6 (v := .int .i64 ({ m with c := V } : Ma).g.round) rfl
          have p7o := HU11.out.cell_ 7 (v := .slice B4 m.g.os.length d4) rfl
          have p8o := HU11.out.cell_ 8 (v := .int .i64 ({ m with c := V } : Ma).sp) rfl
          have hlr := HO11.out.lt
          have hlu := HU11.out.lt
          go_wp2
          have o3 := HO11.out.set9 (.slice B1 m.t.bs.length d1) (.slice B2 m.t.fs.length d2) (.slice E3 V.ls.length n3) (.int .i64 (({ m with c := V } : Ma)).c.hand) (.int .i64 (({ m with c := V } : Ma)).g.count) (.int .i64 (({ m with c := V } : Ma)).g.next) (.int .i64 (({ m with c := V } : Ma)).g.round) (.slice B4 m.g.os.length d4) (.int .i64 (({ m with c := V } : Ma)).sp)
          have p0t := o3.cell_ 0 (v := .slice B1 m.t.bs.length d1) rfl
          have p1t := o3.cell_ 1 (v := .slice B2 m.t.fs.length d2) rfl
          have p2t := o3.cell_ 2 (v := .slice E3 V.ls.length n3) rfl
          have p3t := o3.cell_ 3 (v := .int .i64 ({ m with c := V } : Ma).c.hand) rfl
          have p4t := o3.cell_ 4 (v := .int .i64 ({ m with c := V } : Ma).g.count) rfl
          have p5t := o3.cell_ 5 (v := .int .i64 ({ m with c := V } : Ma).g.next) rfl
          have p6t := o3.cell_ 6 (v := .int .i64 ({ m with c := V } : Ma).g.round) rfl
          have p7t := o3.cell_ 7 (v := .slice B4 m.g.os.length d4) rfl
          have p8t := o3.cell_ 8 (v := .int .i64 ({ m with c := V } : Ma).sp) rfl
          refine bodyPost_ret (v := .tuple #[.agg #[.slice B1 m.t.bs.length d1, .slice B2 m.t.fs.length d2, .slice E3 V.ls.length n3, .int .i64 ({ m with c := V } : Ma).c.hand, .int .i64 ({ m with c := V } : Ma).g.count, .int .i64 ({ m with c := V } : Ma).g.next, .int .i64 ({ m with c := V } : Ma).g.round, .slice B4 m.g.os.length d4, .int .i64 ({ m with c := V } : Ma).sp], .int .i64 (k), .int .i64 (2), .bool true]) (by simp [results, Tryz.results40, go_sem, p0t, p1t, p2t, p3t, p4t, p5t, p6t, p7t, p8t]) rfl ⟨_, rfl, _, _, _, _, by (rw [HVV.out, HFF.out, HRR.out, HOK.out]) <;> rfl, ?_, ?_⟩
          · rw [HVV.out]
            exact (HM11.out.far9 HO11.out _ _ _ _ _ _ _ _ _).mono (by omega)
          · repeat (refine bS ?_ (by simp <;> omega))
            exact HB11.out
        | false =>
          rw [hal] at HRR
          have r0x := HO11.out.cell_ 0 (v := .slice none 0 0) rfl
          have r1x := HO11.out.cell_ 1 (v := .slice none 0 0) rfl
          have r2x := HO11.out.cell_ 2 (v := .slice none 0 0) rfl
          have r3x := HO11.out.cell_ 3 (v := .int .i64 0) rfl
          have r4x := HO11.out.cell_ 4 (v := .int .i64 0) rfl
          have r5x := HO11.out.cell_ 5 (v := .int .i64 0) rfl
          have r6x := HO11.out.cell_ 6 (v := .int .i64 0) rfl
          have r7x := HO11.out.cell_ 7 (v := .slice none 0 0) rfl
          have r8x := HO11.out.cell_ 8 (v := .int .i64 0) rfl
          have z0x := HO11.out.free 0
          have z1x := HO11.out.free 1
          have z2x := HO11.out.free 2
          have z3x := HO11.out.free 3
          have z4x := HO11.out.free 4
          have z5x := HO11.out.free 5
          have z6x := HO11.out.free 6
          have z7x := HO11.out.free 7
          have z8x := HO11.out.free 8
          have p0o := HU11.out.cell_ 0 (v := .slice B1 m.t.bs.length d1) rfl
          have p1o := HU11.out.cell_ 1 (v := .slice B2 m.t.fs.length d2) rfl
          have p2o := HU11.out.cell_ 2 (v := .slice E3 V.ls.length n3) rfl
          have p3o := HU11.out.cell_ 3 (v := .int .i64 ({ m with c := V } : Ma).c.hand) rfl
          have p4o := HU11.out.cell_ 4 (v := .int .i64 ({ m with c := V } : Ma).g.count) rfl
          have p5o := HU11.out.cell_ 5 (v := .int .i64 ({ m with c := V } : Ma).g.next) rfl
          have p6o := HU11.out.cell_ 6 (v := .int .i64 ({ m with c := V } : Ma).g.round) rfl
          have p7o := HU11.out.cell_ 7 (v := .slice B4 m.g.os.length d4) rfl
          have p8o := HU11.out.cell_ 8 (v := .int .i64 ({ m with c := V } : Ma).sp) rfl
          have hlr := HO11.out.lt
          have hlu := HU11.out.lt
          go_wp2
          have o3 := HO11.out.set9 (.slice B1 m.t.bs.length d1) (.slice B2 m.t.fs.length d2) (.slice E3 V.ls.length n3) (.int .i64 (({ m with c := V } : Ma)).c.hand) (.int .i64 (({ m with c := V } : Ma)).g.count) (.int .i64 (({ m with c := V } : Ma)).g.next) (.int .i64 (({ m with c := V } : Ma)).g.round) (.slice B4 m.g.os.length d4) (.int .i64 (({ m with c := V } : Ma)).sp)
          have p0t := o3.cell_ 0 (v := .slice B1 m.t.bs.length d1) rfl
          have p1t := o3.cell_ 1 (v := .slice B2 m.t.fs.length d2) rfl
          have p2t := o3.cell_ 2 (v := .slice E3 V.ls.length n3) rfl
          have p3t := o3.cell_ 3 (v := .int .i64 ({ m with c := V } : Ma).c.hand) rfl
          have p4t := o3.cell_ 4 (v := .int .i64 ({ m with c := V } : Ma).g.count) rfl
          have p5t := o3.cell_ 5 (v := .int .i64 ({ m with c := V } : Ma).g.next) rfl
          have p6t := o3.cell_ 6 (v := .int .i64 ({ m with c := V } : Ma).g.round) rfl
          have p7t := o3.cell_ 7 (v := .slice B4 m.g.os.length d4) rfl
          have p8t := o3.cell_ 8 (v := .int .i64 ({ m with c := V } : Ma).sp) rfl
          refine bodyPost_ret (v := .tuple #[.agg #[.slice B1 m.t.bs.length d1, .slice B2 m.t.fs.length d2, .slice E3 V.ls.length n3, .int .i64 ({ m with c := V } : Ma).c.hand, .int .i64 ({ m with c := V } : Ma).g.count, .int .i64 ({ m with c := V } : Ma).g.next, .int .i64 ({ m with c := V } : Ma).g.round, .slice B4 m.g.os.length d4, .int .i64 ({ m with c := V } : Ma).sp], .int .i64 (k), .int .i64 (4), .bool true]) (by simp [results, Tryz.results40, go_sem, p0t, p1t, p2t, p3t, p4t, p5t, p6t, p7t, p8t]) rfl ⟨_, rfl, _, _, _, _, by (rw [HVV.out, HFF.out, HRR.out, HOK.out]) <;> rfl, ?_, ?_⟩
          · rw [HVV.out]
            exact (HM11.out.far9 HO11.out _ _ _ _ _ _ _ _ _).mono (by omega)
          · repeat (refine bS ?_ (by simp <;> omega))
            exact HB11.out
end Go.Proofs.YtnaagdmaggdbmaaGreatDoor
namespace Go.Proofs.YtnaagdmaggdbmaaGreatDoor
open Go.RowKit

/-! ### pages of bytes -/
def pval (s p o b : Int) : Bool := aval s p o && decide (1 ≤ b) && decide (b ≤ 16384 - p * 64 - o)
def pfst (s p o b : Int) : Int := if pval s p o b = true then p else 0
def plst (s p o b : Int) : Int := if pval s p o b = true then (p * 64 + o + b - 1) / 64 else 0
theorem pval_iff {s p o b : Int} : pval s p o b = true ↔ aval s p o = true ∧ 1 ≤ b ∧ b ≤ 16384 - p * 64 - o := by
  unfold pval
  rw [Bool.and_eq_true, Bool.and_eq_true, decide_eq_true_eq, decide_eq_true_eq, and_assoc]

set_option maxHeartbeats 1000000 in
theorem PagesOf_any (s p o b : Int) (w : World) : Calls Tryz.prog 99 #[.agg #[.int .i64 s, .int .i64 p, .int .i64 o], .int .i64 b] w
    fun r w' => r = .returned (.tuple #[.int .i64 (pfst s p o b), .int .i64 (plst s p o b), .bool (pval s p o b)]) ∧ Below w.heap.size w w' := by
  by_cases hv : pval s p o b = true
  · obtain ⟨h1, h2, h3⟩ := pval_iff.1 hv
    obtain ⟨_, ⟨h6, h7⟩, h8, h9⟩ := aval_iff.1 h1
    have HV : Hid (pval s p o b = true) := hv
    have HF : Hid (pfst s p o b = p) := if_pos hv
    have HL : Hid (plst s p o b = (p * 64 + o + b - 1) / 64) := if_pos hv
    have k1 : IntKind.i64.wrap (p * 64) = p * 64 := IntWalk.i64_in _ (by omega)
    have k2 : IntKind.i64.wrap (p * 64 + o) = p * 64 + o := IntWalk.i64_in _ (by omega)
    have k3 : IntKind.i64.wrap (p * 64 + o + b) = p * 64 + o + b := IntWalk.i64_in _ (by omega)
    have k4 : IntKind.i64.wrap (p * 64 + o + b - 1) = p * 64 + o + b - 1 := IntWalk.i64_in _ (by omega)
    have k5 : IntKind.i64.wrap (16384 - p * 64) = 16384 - p * 64 := IntWalk.i64_in _ (by omega)
    have k6 : IntKind.i64.wrap (16384 - p * 64 - o) = 16384 - p * 64 - o := IntWalk.i64_in _ (by omega)
    have g1 : ¬ b < 1 := by omega
    have g2 : ¬ 16384 - p * 64 - o < b := by omega
    clear hv
    go_enter Tryz.func99, Tryz.ntmps99
    go_wp2_with fail
    refine (AddressValid_any _ _ _ _).mono ?_
    rintro e w1 ⟨rfl, hb1⟩
    obtain ⟨oa, hbw⟩ := one_box hb1
    have a0 := oa.cell_ 0 (v := .int .i64 s) rfl
    have a1 := oa.cell_ 1 (v := .int .i64 p) rfl
    have a2 := oa.cell_ 2 (v := .int .i64 o) rfl
    clear oa hb1
    rw [h1]
    go_wp2
    go_quiet (fail)
    go_wp2
    go_ret3
    exact ⟨by rw [HF.out, HL.out, HV.out]; rfl, bDN hbw⟩
  · have hv := bool_ff hv
    have HV : Hid (pval s p o b = false) := hv
    have HF : Hid (pfst s p o b = 0) := by show _ = _; unfold pfst; rw [hv]; rfl
    have HL : Hid (plst s p o b = 0) := by show _ = _; unfold plst; rw [hv]; rfl
    by_cases h1 : aval s p o = true
    · obtain ⟨_, ⟨h6, h7⟩, h8, h9⟩ := aval_iff.1 h1
      by_cases g1 : b < 1
      · clear hv
        go_enter Tryz.func99, Tryz.ntmps99
        go_wp2_with fail
        refine (AddressValid_any _ _ _ _).mono ?_
        rintro e w1 ⟨rfl, hb1⟩
        obtain ⟨oa, hbw⟩ := one_box hb1
        clear oa hb1
        rw [h1]
        go_wp2
        go_ret3
        exact ⟨by rw [HF.out, HL.out, HV.out]; rfl, hbw⟩
      · have g2 : 16384 - p * 64 - o < b := by
          rcases Int.lt_or_le (16384 - p * 64 - o) b with h | h
          · exact h
          · rw [pval_iff.2 ⟨h1, by omega, h⟩] at hv; cases hv
        have k1 : IntKind.i64.wrap (p * 64) = p * 64 := IntWalk.i64_in _ (by omega)
        have k5 : IntKind.i64.wrap (16384 - p * 64) = 16384 - p * 64 := IntWalk.i64_in _ (by omega)
        have k6 : IntKind.i64.wrap (16384 - p * 64 - o) = 16384 - p * 64 - o := IntWalk.i64_in _ (by omega)
        clear hv
        go_enter Tryz.func99, Tryz.ntmps99
        go_wp2_with fail
        refine (AddressValid_any _ _ _ _).mono ?_
        rintro e w1 ⟨rfl, hb1⟩
        obtain ⟨oa, hbw⟩ := one_box hb1
        have a1 := oa.cell_ 1 (v := .int .i64 p) rfl
        have a2 := oa.cell_ 2 (v := .int .i64 o) rfl
        clear oa hb1
        rw [h1]
        go_wp2
        go_ret3
        exact ⟨by rw [HF.out, HL.out, HV.out]; rfl, hbw⟩
    · have h1 := bool_ff h1
      clear hv
      go_enter Tryz.func99, Tryz.ntmps99
      go_wp2_with fail
      refine (AddressValid_any _ _ _ _).mono ?_
      rintro e w1 ⟨rfl, hb1⟩
      obtain ⟨oa, hbw⟩ := one_box hb1
      clear oa hb1
      rw [h1]
      go_wp2
      go_ret3
      exact ⟨by rw [HF.out, HL.out, HV.out]; rfl, hbw⟩
set_option maxHeartbeats 1000000 in
theorem sPagesOf_any (s p o b : Int) (w : World) : Calls Tryz.prog 164 #[.agg #[.int .i64 s, .int .i64 p, .int .i64 o], .int .i64 b] w
    fun r w' => r = .returned (.tuple #[.int .i64 (pfst s p o b), .int .i64 (plst s p o b), .bool (pval s p o b)]) ∧ Below w.heap.size w w' := by
  by_cases g1 : b < 1
  · have hv : pval s p o b = false := bool_ff fun h => by have := pval_iff.1 h; omega
    have HV : Hid (pval s p o b = false) := hv
    have HF : Hid (pfst s p o b = 0) := by show _ = _; unfold pfst; rw [hv]; rfl
    have HL : Hid (plst s p o b = 0) := by show _ = _; unfold plst; rw [hv]; rfl
    clear hv
    go_enter Tryz.func164, Tryz.ntmps164
    go_wp2
    go_ret3
    exact ⟨by rw [HF.out, HL.out, HV.out]; rfl, by repeat first | exact bR | refine bA ?_⟩
  · by_cases g2 : 16384 < b
    · have hv : pval s p o b = false := bool_ff fun h => by
        have h' := pval_iff.1 h
        have := aval_iff.1 h'.1
        omega
      have HV : Hid (pval s p o b = false) := hv
      have HF : Hid (pfst s p o b = 0) := by show _ = _; unfold pfst; rw [hv]; rfl
      have HL : Hid (plst s p o b = 0) := by show _ = _; unfold plst; rw [hv]; rfl
      clear hv
      go_enter Tryz.func164, Tryz.ntmps164
      go_wp2
      go_ret3
      exact ⟨by rw [HF.out, HL.out, HV.out]; rfl, by repeat first | exact bR | refine bA ?_⟩
    · have k1 : IntKind.i64.wrap (b - 1) = b - 1 := IntWalk.i64_in _ (by omega)
      have K := sMoveAddress_any s p o (b - 1)
      have HVM : Hid (mvv s p o (b - 1) = pval s p o b) := by
        show _ = _
        rw [Bool.eq_iff_iff, mvv_iff, pval_iff]
        constructor
        · rintro ⟨h1, h2, h3⟩
          exact ⟨h1, by omega, by omega⟩
        · rintro ⟨h1, h2, h3⟩
          have := aval_iff.1 h1
          exact ⟨h1, by omega, by omega⟩
      by_cases hv : pval s p o b = true
      · have HV : Hid (pval s p o b = true) := hv
        have HF : Hid (pfst s p o b = p) := if_pos hv
        have HL : Hid (plst s p o b = (p * 64 + o + b - 1) / 64) := if_pos hv
        have hA : mvA s p o (b - 1) = #[.int .i64 s, .int .i64 ((p * 64 + o + b - 1) / 64), .int .i64 ((p * 64 + o + b - 1) % 64)] := by
          unfold mvA
          rw [if_pos (HVM.out.trans hv), show p * 64 + o + (b - 1) = p * 64 + o + b - 1 by omega]
        rw [hA, HVM.out, hv] at K
        have HK := Lib.hid K
        clear K hA hv
        go_enter Tryz.func164, Tryz.ntmps164
        go_wp2_with fail
        refine (HK.out _).mono ?_
        rintro e w1 ⟨rfl, hb1⟩
        obtain ⟨oa, hbw⟩ := one_box hb1
        have a1 := oa.cell_ 1 (v := .int .i64 p) rfl
        have hal := oa.lt
        clear oa hb1
        go_wp2
        go_quiet (fail)
        go_wp2
        go_ret3
        exact ⟨by rw [HF.out, HL.out, HV.out]; rfl, bDN (bA hbw)⟩
      · have hv := bool_ff hv
        have HV : Hid (pval s p o b = false) := hv
        have HF : Hid (pfst s p o b = 0) := by show _ = _; unfold pfst; rw [hv]; rfl
        have HL : Hid (plst s p o b = 0) := by show _ = _; unfold plst; rw [hv]; rfl
        have hA : mvA s p o (b - 1) = #[.int .i64 0, .int .i64 0, .int .i64 0] := by
          unfold mvA
          rw [HVM.out.trans hv]
          rfl
        rw [hA, HVM.out, hv] at K
        have HK := Lib.hid K
        clear K hA hv
        go_enter Tryz.func164, Tryz.ntmps164
        go_wp2_with fail
        refine (HK.out _).mono ?_
        rintro e w1 ⟨rfl, hb1⟩
        obtain ⟨oa, hbw⟩ := one_box hb1
        clear oa hb1
        go_wp2
        go_ret3
        exact ⟨by rw [HF.out, HL.out, HV.out]; rfl, bA hbw⟩
/-! ### pieces -/
def pieceE : Enc (Int × Int × Int) where
  sz := 3
  cs := fun a => [.int .i64 a.1, .int .i64 a.2.1, .int .i64 a.2.2]
  len := fun _ => rfl
  one := fun a u hu => by
    simp at hu
    rcases hu with rfl | rfl | rfl <;> rfl
  pos := by decide
theorem piece_info : (Tryz.prog.info? 131).map (fun i => (i.zero, i.size, i.bytes)) = some (some (.agg #[.int .i64 0, .int .i64 0, .int .i64 0]), 3, 24) := by kernel_rfl
theorem run_append_piece (base : Nat) (W : World) (v : Value) (n : Nat) (l : List (Int × Int × Int)) (x y z : Int) (hown : W.ownsRow base 131 3 v n (pieceE.cells l)) (hn : l.length = n) (hs : n ≤ 1048576) (hb : base ≤ W.heap.size) :
    ∃ v' w', (Builtin.append_ #[79, 79] 79 #[v, .slice (some ⟨W.heap.size, 0, none⟩) 1 1]).run Tryz.prog (W.alloc (.cells #[.int .i64 x, .int .i64 y, .int .i64 z] 131)) = .ok v' w' ∧
      w'.ownsRow base 131 3 v' (n + 1) (pieceE.cells (l ++ [(x, y, z)])) ∧ (W.alloc (.cells #[.int .i64 x, .int .i64 y, .int .i64 z] 131)).grownBy w' v.ownBlock ∧ (v'.ownBlock = v.ownBlock ∨ v'.ownBlock = some (W.heap.size + 1)) := by
  obtain ⟨i0, hi0, hz0, hz1, hz2⟩ := info_parts piece_info
  exact run_append_el pieceE 79 131 i0 _ 24 Tryz.underlying79 hi0 hz0 hz1 hz2 rfl (by omega) base W v n l (x, y, z) hown hn hs hb

def pcur (p o : Int) (i : Nat) : Int := if i = 0 then p * 64 + o else (p + i) * 64
def pc (p o b : Int) (i : Nat) : Int × Int × Int := (p + i, pcur p o i - (p + i) * 64, min (p * 64 + o + b) ((p + i + 1) * 64) - pcur p o i)
def pcn (p o b : Int) : Nat := ((p * 64 + o + b - 1) / 64 - p + 1).toNat
def pcs (p o b : Int) : List (Int × Int × Int) := (List.range (pcn p o b)).map (pc p o b)
def pcv (s p o b : Int) : List (Int × Int × Int) := if pval s p o b = true then pcs p o b else []
theorem pcs_length (p o b : Int) : (pcs p o b).length = pcn p o b := by simp [pcs]
theorem pcs_get (p o b : Int) (i : Nat) (h : i < pcn p o b) : (pcs p o b)[i]? = some (pc p o b i) := by simp [pcs, h]
theorem pcs_take (p o b : Int) (i : Nat) (h : i < pcn p o b) : (pcs p o b).take (i + 1) = (pcs p o b).take i ++ [pc p o b i] := by
  rw [List.take_add_one, pcs_get p o b i h]; rfl
theorem pcn_le {s p o b : Int} (h : pval s p o b = true) : pcn p o b ≤ 256 ∧ 1 ≤ pcn p o b ∧ ((p * 64 + o + b - 1) / 64 = p + (pcn p o b : Int) - 1) := by
  obtain ⟨h1, h2, h3⟩ := pval_iff.1 h
  obtain ⟨_, ⟨h6, h7⟩, h8, h9⟩ := aval_iff.1 h1
  unfold pcn
  omega
theorem pcv_le (s p o b : Int) : (pcv s p o b).length ≤ 256 := by
  unfold pcv
  split
  · rename_i h
    rw [pcs_length]
    exact (pcn_le h).1
  · simp

theorem clipPiece_any (A : Option Addr) (n c : Nat) (w : World) (hn : n ≤ c) : Calls Tryz.prog 100 #[.slice A n c] w fun r w' => r = .returned (.slice A n n) ∧ w = w' := by
  obtain ⟨i0, hi0, _⟩ := info_parts piece_info
  have hs := fun W => slice_max (P := Tryz.prog) W 79 131 i0 A n c Tryz.underlying79 hi0 hn
  go_enter Tryz.func100, Tryz.ntmps100
  go_wp2
  go_ret
  exact ⟨rfl, rfl⟩
/-- what is known before piece i -/
structure PSt (p o b : Int) (i : Nat) (L O : Int) : Prop where
  o_ : O = pcur p o i - (p + i) * 64
  o0 : 0 ≤ O
  o1 : O < 64
  l_ : i < pcn p o b → L = p * 64 + o + b - pcur p o i ∧ 1 ≤ L
theorem pst_zero {s p o b : Int} (h : pval s p o b = true) : PSt p o b 0 b o := by
  obtain ⟨h1, h2, h3⟩ := pval_iff.1 h
  obtain ⟨_, ⟨h6, h7⟩, h8, h9⟩ := aval_iff.1 h1
  refine ⟨?_, h8, h9, fun _ => ⟨?_, h2⟩⟩ <;> simp [pcur] <;> omega
theorem pst_succ {s p o b : Int} {i : Nat} {L O L' : Int} (h : pval s p o b = true) (hp : PSt p o b i L O) (hi : i < pcn p o b) (hL : L' = L - min L (64 - O)) : PSt p o b (i + 1) L' 0 ∧ pc p o b i = (p + i, O, min L (64 - O)) := by
  obtain ⟨h1, h2, h3⟩ := pval_iff.1 h
  obtain ⟨_, ⟨h6, h7⟩, h8, h9⟩ := aval_iff.1 h1
  obtain ⟨q1, q2, q3⟩ := pcn_le h
  obtain ⟨p1, p2⟩ := hp.l_ hi
  have p0 := hp.o_
  have e : pcur p o (i + 1) = (p + (i + 1 : Nat)) * 64 := by simp [pcur]
  refine ⟨⟨by rw [e]; omega, by omega, by omega, fun hi' => ?_⟩, ?_⟩
  · rw [e]; omega
  · unfold pc
    rw [p0]
    congr 2
    omega
set_option maxRecDepth 100000 in
set_option maxHeartbeats 1000000 in
theorem SplitBytes_mine (s p o b : Int) (w : World) : Calls Tryz.prog 39 #[.agg #[.int .i64 s, .int .i64 p, .int .i64 o], .int .i64 b] w
    fun r w' => ∃ A c, r = .returned (.tuple #[.slice A (pcv s p o b).length c, .bool (pval s p o b)]) ∧ (pcv s p o b).length ≤ c ∧ MineE pieceE 131 w.heap.size w' A (pcv s p o b) ∧ Below w.heap.size w w' := by
  have K := PagesOf_any s p o b
  by_cases hv : pval s p o b = true
  · obtain ⟨q1, q2, q3⟩ := pcn_le hv
    have e1 : pfst s p o b = p := if_pos hv
    have e2 : plst s p o b = (p * 64 + o + b - 1) / 64 := if_pos hv
    have HV : Hid (pcv s p o b = pcs p o b) := if_pos hv
    have HP := Lib.hid hv
    have HZ := Lib.hid (pst_zero hv)
    obtain ⟨_, ⟨h6, h7⟩, h8, h9⟩ := aval_iff.1 (pval_iff.1 hv).1
    have hb1' := (pval_iff.1 hv).2.1
    have hb2' := (pval_iff.1 hv).2.2
    rw [e1, e2, hv] at K
    generalize (p * 64 + o + b - 1) / 64 = q at K q3
    subst q3
    have HK := Lib.hid K
    have HN : Hid (∀ i, i < pcn p o b → (pcs p o b).take (i + 1) = (pcs p o b).take i ++ [pc p o b i]) := fun i hi => pcs_take p o b i hi
    have HL : Hid ((pcs p o b).length = pcn p o b) := pcs_length p o b
    generalize hN : pcn p o b = N at *
    clear K e1 e2 hv
    go_enter Tryz.func39, Tryz.ntmps39
    go_wp2_with fail
    refine (HK.out _).mono ?_
    rintro e w1 ⟨rfl, hb1⟩
    obtain ⟨oa, hbw⟩ := one_box hb1
    have a0 := oa.cell_ 0 (v := .int .i64 s) rfl
    have a1 := oa.cell_ 1 (v := .int .i64 p) rfl
    have a2 := oa.cell_ 2 (v := .int .i64 o) rfl
    clear oa hb1
    go_wp2
    go_loopw [1, 9, 10, 11] (fun Lv v Ov u wr => ∃ (i : Nat) (L O : Int), i ≤ N ∧ u = .int .i64 (p + i) ∧ Lv = .int .i64 L ∧ Ov = .int .i64 O ∧ Hid (PSt p o b i L O) ∧ wr.ownsRow w.heap.size 131 3 v i (pieceE.cells ((pcs p o b).take i)) ∧ Below w.heap.size w wr) (fun _ _ _ u _ => (p + N - intOf u).toNat)
    case atStart => exact ⟨0, _, _, by omega, by simp, rfl, rfl, HZ.out, World.ownsRow_nil _ _ _ _, hbw⟩
    case round =>
      obtain ⟨i, L, O, hi, rfl, rfl, rfl, hst, hown, hb⟩ := hrel
      have hO := hst.out.o0
      have hO2 := hst.out.o1
      have k1 : IntKind.i64.wrap (64 - O) = 64 - O := IntWalk.i64_in _ (by omega)
      by_cases hlt : i < N
      · obtain ⟨hL1, hL2⟩ := hst.out.l_ (by rw [hN]; exact hlt)
        have hL3 : L ≤ 20000 := by unfold pcur at hL1; split at hL1 <;> omega
        clear hL1
        have g1 : p + (i : Int) ≤ p + (N : Int) - 1 := by omega
        have k2 : IntKind.i64.wrap (p + (i : Int) + 1) = p + (i : Int) + 1 := IntWalk.i64_in _ (by omega)
        have HOWN := Lib.hid hown
        clear hown
        by_cases hle : L ≤ 64 - O
        · have hmin : min L (64 - O) = L := by omega
          obtain ⟨hst', hpc⟩ := pst_succ (L' := 0) HP.out hst.out (by rw [hN]; exact hlt) (by omega)
          have htk := HN.out i hlt
          rw [hpc, hmin] at htk
          obtain ⟨v4, w4, hrun, hown4, hg4, _⟩ := run_append_piece w.heap.size wr _ i _ (p + i) O (L) HOWN.out (by rw [List.length_take, HL.out]; omega) (by omega) hb.size
          have hb4 := bG (bA hb (o := .cells #[.int .i64 (p + i), .int .i64 O, .int .i64 (L)] 131)) hg4 (own_block HOWN.out)
          rw [← htk] at hown4
          have HOW4 := Lib.hid hown4
          have HST := Lib.hid hst'
          clear hown4 hg4 htk hpc hst' hmin
          go_wp2_with (at_builtin; refine wpList_append_run _ rfl (.tmp 34) (.tmp 39) 79 rfl _ _ _ _ rfl rfl hrun ?_)
          go_roundw
          case rel => exact ⟨i + 1, _, 0, by omega, by go_num, rfl, rfl, HST.out, HOW4.out, hb4⟩
          case measure => simp [intOf]; omega
        · have hmin : min L (64 - O) = 64 - O := by omega
          have hlt2 : 64 - O < L := by omega
          clear hle
          obtain ⟨hst', hpc⟩ := pst_succ (L' := (L - (64 - O))) HP.out hst.out (by rw [hN]; exact hlt) (by omega)
          have htk := HN.out i hlt
          rw [hpc, hmin] at htk
          obtain ⟨v4, w4, hrun, hown4, hg4, _⟩ := run_append_piece w.heap.size wr _ i _ (p + i) O (64 - O) HOWN.out (by rw [List.length_take, HL.out]; omega) (by omega) hb.size
          have hb4 := bG (bA hb (o := .cells #[.int .i64 (p + i), .int .i64 O, .int .i64 (64 - O)] 131)) hg4 (own_block HOWN.out)
          rw [← htk] at hown4
          have HOW4 := Lib.hid hown4
          have HST := Lib.hid hst'
          clear hown4 hg4 htk hpc hst' hmin
          go_wp2_with (at_builtin; refine wpList_append_run _ rfl (.tmp 34) (.tmp 39) 79 rfl _ _ _ _ rfl rfl hrun ?_)
          go_roundw
          case rel => exact ⟨i + 1, _, 0, by omega, by go_num, rfl, rfl, HST.out, HOW4.out, hb4⟩
          case measure => simp [intOf]; omega
      · obtain rfl : i = N := by omega
        have g1 : ¬ p + (i : Int) ≤ p + (i : Int) - 1 := by omega
        rw [List.take_of_length_le (by rw [HL.out]; omega)] at hown
        obtain ⟨A, c, rfl, hlc, hcm, hmine⟩ := mine_own HL.out.symm hown
        have hcl := fun W => clipPiece_any A (pcs p o b).length c W hlc
        rw [HL.out] at hcl hlc
        clear hown
        simp only [HL.out]
        go_wp2_with fail
        refine (hcl _).mono ?_
        rintro e w2 ⟨rfl, rfl⟩
        go_wp2
        go_ret2
        rw [HV.out, HP.out]
        exact ⟨A, i, by rw [HL.out]; rfl, by rw [HL.out]; exact Nat.le_refl _, hmine, hb⟩
  · have hv := bool_ff hv
    have HV : Hid (pcv s p o b = []) := by show _ = _; unfold pcv; rw [hv]; rfl
    have HP := Lib.hid hv
    rw [hv] at K
    have HK := Lib.hid K
    clear K hv
    go_enter Tryz.func39, Tryz.ntmps39
    go_wp2_with fail
    refine (HK.out _).mono ?_
    rintro e w1 ⟨rfl, hb1⟩
    obtain ⟨oa, hbw⟩ := one_box hb1
    clear oa hb1
    go_wp2
    go_ret2
    rw [HV.out, HP.out]
    exact ⟨none, 0, rfl, Nat.le_refl _, MineE.nil_ _, hbw⟩
set_option maxRecDepth 100000 in
set_option maxHeartbeats 1000000 in
theorem sSplitBytes_any (s p o b : Int) (w : World) : Calls Tryz.prog 97 #[.agg #[.int .i64 s, .int .i64 p, .int .i64 o], .int .i64 b] w
    fun r w' => ∃ A c, r = .returned (.tuple #[.slice A (pcv s p o b).length c, .bool (pval s p o b)]) ∧ (pcv s p o b).length ≤ c ∧ Rs pieceE w'.heap.size w' A (pcv s p o b) ∧ Below w.heap.size w w' := by
  have K := sPagesOf_any s p o b
  by_cases hv : pval s p o b = true
  · obtain ⟨q1, q2, q3⟩ := pcn_le hv
    have e1 : pfst s p o b = p := if_pos hv
    have e2 : plst s p o b = (p * 64 + o + b - 1) / 64 := if_pos hv
    have HV : Hid (pcv s p o b = pcs p o b) := if_pos hv
    have HP := Lib.hid hv
    have HZ := Lib.hid (pst_zero hv)
    obtain ⟨_, ⟨h6, h7⟩, h8, h9⟩ := aval_iff.1 (pval_iff.1 hv).1
    have hb1' := (pval_iff.1 hv).2.1
    have hb2' := (pval_iff.1 hv).2.2
    rw [e1, e2, hv] at K
    generalize (p * 64 + o + b - 1) / 64 = q at K q3
    subst q3
    have HK := Lib.hid K
    have HN : Hid (∀ i, i < pcn p o b → (pcs p o b).take (i + 1) = (pcs p o b).take i ++ [pc p o b i]) := fun i hi => pcs_take p o b i hi
    have HL : Hid ((pcs p o b).length = pcn p o b) := pcs_length p o b
    generalize hN : pcn p o b = N at *
    clear K e1 e2 hv
    go_enter Tryz.func97, Tryz.ntmps97
    go_wp2_with fail
    refine (HK.out _).mono ?_
    rintro e w1 ⟨rfl, hb1⟩
    have hO1 : w1.ownsRow w.heap.size 131 3 (.slice (some ⟨w.heap.size + 1, 0, none⟩) 0 0) 0 (pieceE.cells ((pcs p o b).take 0)) := by
      have h := World.ownsRow_made (base := w.heap.size) (e := 131) (size := 3) (w.alloc (.cells #[.int .i64 s, .int .i64 p, .int .i64 o] 83)) #[] 0 (by simp) (by simp [maxLen]) rfl
      have h2 := own_kept h hb1
      simpa [Enc.cells] using h2
    obtain ⟨oa, oo, hbw⟩ := two_box hb1
    have a0 := oa.cell_ 0 (v := .int .i64 s) rfl
    have a1 := oa.cell_ 1 (v := .int .i64 p) rfl
    have a2 := oa.cell_ 2 (v := .int .i64 o) rfl
    have HO1 := Lib.hid hO1
    clear oa oo hb1 hO1
    go_wp2
    go_loopw [1, 6, 10, 11] (fun Lv v Ov u wr => ∃ (i : Nat) (L O : Int), i ≤ N ∧ u = .int .i64 (p + i) ∧ Lv = .int .i64 L ∧ Ov = .int .i64 O ∧ Hid (PSt p o b i L O) ∧ wr.ownsRow w.heap.size 131 3 v i (pieceE.cells ((pcs p o b).take i)) ∧ Below w.heap.size w wr) (fun _ _ _ u _ => (p + N - intOf u).toNat)
    case atStart => exact ⟨0, _, _, by omega, by simp, rfl, rfl, HZ.out, HO1.out, hbw⟩
    case round =>
      obtain ⟨i, L, O, hi, rfl, rfl, rfl, hst, hown, hb⟩ := hrel
      have hO := hst.out.o0
      have hO2 := hst.out.o1
      have k1 : IntKind.i64.wrap (64 - O) = 64 - O := IntWalk.i64_in _ (by omega)
      by_cases hlt : i < N
      · obtain ⟨hL1, hL2⟩ := hst.out.l_ (by rw [hN]; exact hlt)
        have hL3 : L ≤ 20000 := by unfold pcur at hL1; split at hL1 <;> omega
        clear hL1
        have g1 : p + (i : Int) ≤ p + (N : Int) - 1 := by omega
        have k2 : IntKind.i64.wrap (p + (i : Int) + 1) = p + (i : Int) + 1 := IntWalk.i64_in _ (by omega)
        have HOWN := Lib.hid hown
        clear hown
        by_cases hle : L < 64 - O
        · have hmin : min L (64 - O) = L := by omega
          obtain ⟨hst', hpc⟩ := pst_succ (L' := 0) HP.out hst.out (by rw [hN]; exact hlt) (by omega)
          have htk := HN.out i hlt
          rw [hpc, hmin] at htk
          obtain ⟨v4, w4, hrun, hown4, hg4, _⟩ := run_append_piece w.heap.size wr _ i _ (p + i) O (L) HOWN.out (by rw [List.length_take, HL.out]; omega) (by omega) hb.size
          have hb4 := bG (bA hb (o := .cells #[.int .i64 (p + i), .int .i64 O, .int .i64 (L)] 131)) hg4 (own_block HOWN.out)
          rw [← htk] at hown4
          have HOW4 := Lib.hid hown4
          have HST := Lib.hid hst'
          clear hown4 hg4 htk hpc hst' hmin
          go_wp2_with (at_builtin; refine wpList_append_run _ rfl (.tmp 39) (.tmp 44) 79 rfl _ _ _ _ rfl rfl hrun ?_)
          go_roundw
          case rel => exact ⟨i + 1, _, 0, by omega, by go_num, rfl, rfl, HST.out, HOW4.out, hb4⟩
          case measure => simp [intOf]; omega
        · have hmin : min L (64 - O) = 64 - O := by omega
          have hlt2 : ¬ L < 64 - O := by omega
          clear hle
          obtain ⟨hst', hpc⟩ := pst_succ (L' := (L - (64 - O))) HP.out hst.out (by rw [hN]; exact hlt) (by omega)
          have htk := HN.out i hlt
          rw [hpc, hmin] at htk
          obtain ⟨v4, w4, hrun, hown4, hg4, _⟩ := run_append_piece w.heap.size wr _ i _ (p + i) O (64 - O) HOWN.out (by rw [List.length_take, HL.out]; omega) (by omega) hb.size
          have hb4 := bG (bA hb (o := .cells #[.int .i64 (p + i), .int .i64 O, .int .i64 (64 - O)] 131)) hg4 (own_block HOWN.out)
          rw [← htk] at hown4
          have HOW4 := Lib.hid hown4
          have HST := Lib.hid hst'
          clear hown4 hg4 htk hpc hst' hmin
          go_wp2_with (at_builtin; refine wpList_append_run _ rfl (.tmp 39) (.tmp 44) 79 rfl _ _ _ _ rfl rfl hrun ?_)
          go_roundw
          case rel => exact ⟨i + 1, _, 0, by omega, by go_num, rfl, rfl, HST.out, HOW4.out, hb4⟩
          case measure => simp [intOf]; omega
      · obtain rfl : i = N := by omega
        have g1 : ¬ p + (i : Int) ≤ p + (i : Int) - 1 := by omega
        rw [List.take_of_length_le (by rw [HL.out]; omega)] at hown
        obtain ⟨A, c, rfl, hlc, hcm, hmine⟩ := mine_own HL.out.symm hown
        clear hown
        go_wp2
        go_ret2
        rw [HV.out, HP.out]
        exact ⟨A, c, by rfl, hlc, hmine.is, hb⟩
  · have hv := bool_ff hv
    have HV : Hid (pcv s p o b = []) := by show _ = _; unfold pcv; rw [hv]; rfl
    have HP := Lib.hid hv
    rw [hv] at K
    have HK := Lib.hid K
    clear K hv
    go_enter Tryz.func97, Tryz.ntmps97
    go_wp2_with fail
    refine (HK.out _).mono ?_
    rintro e w1 ⟨rfl, hb1⟩
    obtain ⟨oa, oo, hbw⟩ := two_box hb1
    clear oa oo hb1
    go_wp2
    go_ret2
    rw [HV.out, HP.out]
    exact ⟨_, 0, rfl, Nat.le_refl _, rs_nil _, hbw⟩
end Go.Proofs.YtnaagdmaggdbmaaGreatDoor
namespace Go.Proofs.YtnaagdmaggdbmaaGreatDoor
open Go.RowKit
/-! ### plain laws of ranges -/
theorem find_set {α : Type} {p : α → Bool} : ∀ {l : List α} {k : Nat} {a b : α}, l[k]? = some a → p b = p a → (l.set k b).findIdx? p = l.findIdx? p
  | [], k, a, b, h, _ => by simp at h
  | x :: l, 0, a, b, h, hp => by
    simp only [List.getElem?_cons_zero, Option.some.injEq] at h
    subst h
    simp only [List.set_cons_zero, List.findIdx?_cons, hp]
  | x :: l, k + 1, a, b, h, hp => by
    simp only [List.getElem?_cons_succ] at h
    simp only [List.set_cons_succ, List.findIdx?_cons, find_set h hp]
theorem find_map {α : Type} {p : α → Bool} {f : α → α} (h : ∀ a, p (f a) = p a) (l : List α) : (l.map f).findIdx? p = l.findIdx? p := by
  rw [List.findIdx?_map]
  congr 1
  exact funext h
theorem fnd_set {fs : List Fr} {i : Nat} {f g : Fr} {s p : Int} (e : fs[i]? = some f) (h : (g.used && decide ((g.s, g.p) = (s, p))) = (f.used && decide ((f.s, f.p) = (s, p)))) : fnd (fs.set i g) s p = fnd fs s p := find_set e h
theorem fndI_eq {fs fs' : List Fr} {s p : Int} (h : fnd fs' s p = fnd fs s p) : fndI fs' s p = fndI fs s p := by unfold fndI; rw [h]
/-! guarding -/
theorem prT_at {t : Tab} {s p : Int} (r : Int) (h : fOK t s p = true) : ∃ (i : Nat) (f : Fr), fnd t.fs s p = some i ∧ t.fs[i]? = some f ∧ f.used = true ∧ (f.s, f.p) = (s, p) ∧ prT t s p r = ⟨t.bs, t.fs.set i { f with r := r }⟩ := by
  obtain ⟨k, f, h1, h2, h3, h4, h5, _⟩ := fOK_at h
  refine ⟨k, f, h2, h3, h4, h5, ?_⟩
  unfold prT
  simp only [h1, Int.toNat_natCast, getD_at h3]
theorem prT_fnd {t : Tab} {s p : Int} (r : Int) (h : fOK t s p = true) (s' p' : Int) : fnd (prT t s p r).fs s' p' = fnd t.fs s' p' := by
  obtain ⟨i, f, h1, h2, h3, h4, h5⟩ := prT_at r h
  rw [h5]
  exact fnd_set h2 rfl
theorem grdO_iff {m : Ma} {s p r : Int} : grdO m s p r = true ↔ mav m = true ∧ fOK m.t s p = true ∧ inR r 8 = true := by
  unfold grdO prOK
  simp only [Bool.and_eq_true]
theorem grdV_at {m : Ma} {s p r : Int} (h : grdO m s p r = true) : grdV m s p r = drpM m (prT m.t s p r) s p := by
  obtain ⟨_, h2, h3⟩ := grdO_iff.1 h
  unfold grdV prV prOK
  rw [if_pos h, h2, h3]
  rfl
theorem fOK_iff {t : Tab} {s p : Int} : fOK t s p = true ↔ tv t = true ∧ kval (s, p) = true ∧ 0 ≤ fndI t.fs s p := by
  unfold fOK
  simp only [Bool.and_eq_true, decide_eq_true_eq, and_assoc]
theorem bool_iff {a b : Bool} (h : a = true ↔ b = true) : a = b := by cases a <;> cases b <;> simp_all
theorem grd_keeps {m : Ma} {s p r : Int} (h : grdO m s p r = true) (s' p' r' : Int) : grdO (grdV m s p r) s' p' r' = grdO m s' p' r' := by
  have hv := mav_grd h
  have hm := (grdO_iff.1 h).1
  have hf := (grdO_iff.1 h).2.1
  refine bool_iff ?_
  rw [grdO_iff, grdO_iff, fOK_iff, fOK_iff]
  have ht : (grdV m s p r).t = prT m.t s p r := by rw [grdV_at h]; rfl
  rw [ht, fndI_eq (prT_fnd r hf s' p')]
  have h1 := (mav_parts hv).1
  rw [ht] at h1
  have h2 := (mav_parts hm).1
  rw [hv, hm, h1, h2]
theorem plc_drp {m : Ma} {s a b : Int} (hne : a ≠ b) (t : Int) : plcI (drpC m s a).ls t b = plcI m.c.ls t b := by
  unfold drpC
  split
  · rename_i h
    obtain ⟨k, x, hk, ex, hx⟩ := plcI_lt h.2
    rw [hk, Int.toNat_natCast]
    have h0 : fits t b lnz = fits t b x := by
      have h1 := (fits_iff.1 hx).2.1
      have : fits t b x = false := by unfold fits; rw [decide_eq_false (show ¬ x.p = b by rw [h1]; exact hne)]; simp
      rw [this]; rfl
    show plcI (m.c.ls.set k lnz) t b = _
    unfold plcI plc
    rw [find_set ex h0]
  · rfl
theorem set_lnz (l : List Ln) (i j : Nat) : (l.set i lnz).set j lnz = (l.set j lnz).set i lnz := by
  by_cases h : i = j
  · rw [h]
  · exact List.set_comm _ _ h
theorem drpC_comm {m : Ma} {T1 T2 : Tab} {s a b : Int} (hne : a ≠ b) : drpC (drpM m T1 s a) s b = drpC (drpM m T2 s b) s a := by
  have e1 : drpC (drpM m T1 s a) s b = if tagO m s b = true ∧ 0 ≤ plcI (drpC m s a).ls (tagT m s b) b then ⟨(drpC m s a).ls.set (plcI (drpC m s a).ls (tagT m s b) b).toNat lnz, (drpC m s a).hand⟩ else drpC m s a := rfl
  have e2 : drpC (drpM m T2 s b) s a = if tagO m s a = true ∧ 0 ≤ plcI (drpC m s b).ls (tagT m s a) a then ⟨(drpC m s b).ls.set (plcI (drpC m s b).ls (tagT m s a) a).toNat lnz, (drpC m s b).hand⟩ else drpC m s b := rfl
  rw [e1, e2, plc_drp hne, plc_drp (fun h => hne h.symm)]
  by_cases hA : tagO m s a = true ∧ 0 ≤ plcI m.c.ls (tagT m s a) a <;> by_cases hB : tagO m s b = true ∧ 0 ≤ plcI m.c.ls (tagT m s b) b
  · have a1 : drpC m s a = ⟨m.c.ls.set (plcI m.c.ls (tagT m s a) a).toNat lnz, m.c.hand⟩ := by unfold drpC; rw [if_pos hA]
    have b1 : drpC m s b = ⟨m.c.ls.set (plcI m.c.ls (tagT m s b) b).toNat lnz, m.c.hand⟩ := by unfold drpC; rw [if_pos hB]
    rw [if_pos hA, if_pos hB, a1, b1, set_lnz]
  · have b1 : drpC m s b = m.c := by unfold drpC; rw [if_neg hB]
    have a1 : drpC m s a = ⟨m.c.ls.set (plcI m.c.ls (tagT m s a) a).toNat lnz, m.c.hand⟩ := by unfold drpC; rw [if_pos hA]
    rw [if_pos hA, if_neg hB, a1, b1]
  · have a1 : drpC m s a = m.c := by unfold drpC; rw [if_neg hA]
    have b1 : drpC m s b = ⟨m.c.ls.set (plcI m.c.ls (tagT m s b) b).toNat lnz, m.c.hand⟩ := by unfold drpC; rw [if_pos hB]
    rw [if_neg hA, if_pos hB, a1, b1]
  · have a1 : drpC m s a = m.c := by unfold drpC; rw [if_neg hA]
    have b1 : drpC m s b = m.c := by unfold drpC; rw [if_neg hB]
    rw [if_neg hA, if_neg hB, a1, b1]
theorem prT_swap {t : Tab} {s a b : Int} (r : Int) (ha : fOK t s a = true) (hb : fOK t s b = true) (hne : a ≠ b) (ha' : fOK (prT t s b r) s a = true) (hb' : fOK (prT t s a r) s b = true) : prT (prT t s a r) s b r = prT (prT t s b r) s a r := by
  obtain ⟨i, f, i1, i2, i3, i4, i5⟩ := prT_at r ha
  obtain ⟨j, g, j1, j2, j3, j4, j5⟩ := prT_at r hb
  obtain ⟨i', f', k1, k2, _, _, k5⟩ := prT_at r ha'
  obtain ⟨j', g', l1, l2, _, _, l5⟩ := prT_at r hb'
  rw [prT_fnd r hb] at k1
  rw [prT_fnd r ha] at l1
  rw [i1] at k1
  rw [j1] at l1
  injection k1 with k1
  injection l1 with l1
  subst k1 l1
  have hij : i ≠ j := by
    rintro rfl
    rw [i2] at j2
    injection j2 with j2
    subst j2
    rw [i4] at j4
    injection j4 with _ j4
    exact hne j4
  rw [j5] at k2
  rw [i5] at l2
  simp only at k2 l2
  rw [set_ne (fun h => hij h.symm), i2] at k2
  rw [set_ne hij, j2] at l2
  injection k2 with k2
  injection l2 with l2
  subst k2 l2
  rw [l5, k5, i5, j5]
  simp only
  rw [List.set_comm _ _ hij]
theorem grd_swap {m : Ma} {s a b r : Int} (ha : grdO m s a r = true) (hb : grdO m s b r = true) (hne : a ≠ b) : grdV (grdV m s a r) s b r = grdV (grdV m s b r) s a r := by
  have ha' : grdO (grdV m s b r) s a r = true := by rw [grd_keeps hb]; exact ha
  have hb' : grdO (grdV m s a r) s b r = true := by rw [grd_keeps ha]; exact hb
  have qa := (grdO_iff.1 ha').2.1
  have qb := (grdO_iff.1 hb').2.1
  rw [grdV_at hb', grdV_at ha']
  rw [grdV_at hb] at qa ⊢
  rw [grdV_at ha] at qb ⊢
  have ht := prT_swap r (grdO_iff.1 ha).2.1 (grdO_iff.1 hb).2.1 hne qa qb
  have hc := drpC_comm (m := m) (T1 := prT m.t s a r) (T2 := prT m.t s b r) (s := s) hne
  show (⟨prT (prT m.t s a r) s b r, drpC (drpM m (prT m.t s a r) s a) s b, m.g, m.sp⟩ : Ma) = ⟨prT (prT m.t s b r) s a r, drpC (drpM m (prT m.t s b r) s b) s a, m.g, m.sp⟩
  rw [ht, hc]
/-- the operation of a range of guards -/
abbrev guO (s p r : Int) (m : Ma) (k : Nat) : Bool := grdO m s (p + k) r
abbrev guV (s p r : Int) (m : Ma) (k : Nat) : Ma := grdV m s (p + k) r
/-- guards, in the order of the range, all of which go -/
def guA (s p r : Int) (m : Ma) : Nat → Ma
  | 0 => m
  | k + 1 => guV s p r (guA s p r m k) k
theorem guA_keeps {s p r : Int} {m : Ma} : ∀ (n : Nat), (∀ k, k < n → guO s p r m k = true) → ∀ s' p' r', grdO (guA s p r m n) s' p' r' = grdO m s' p' r'
  | 0, _, _, _, _ => rfl
  | n + 1, h, s', p', r' => by
    have ih := guA_keeps n (fun k hk => h k (by omega))
    have h1 : grdO (guA s p r m n) s (p + n) r = true := by rw [ih]; exact h n (by omega)
    show grdO (grdV (guA s p r m n) s (p + n) r) s' p' r' = _
    rw [grd_keeps h1, ih]
theorem guA_of {s p r : Int} {m x : Ma} : ∀ {n : Nat}, rgN (guO s p r) (guV s p r) m n = some x → (∀ k, k < n → guO s p r m k = true) ∧ x = guA s p r m n
  | 0, h => by injection h with h; exact ⟨fun k hk => by omega, h.symm⟩
  | n + 1, h => by
    unfold rgN at h
    cases e : rgN (guO s p r) (guV s p r) m n with
    | none => rw [e] at h; cases h
    | some m' =>
      rw [e] at h
      simp only at h
      split at h
      · rename_i hok
        injection h with h
        obtain ⟨h1, rfl⟩ := guA_of e
        refine ⟨fun k hk => ?_, h.symm⟩
        rcases Nat.lt_or_ge k n with h2 | h2
        · exact h1 k h2
        · obtain rfl : k = n := by omega
          have := guA_keeps k h1 s (p + k) r
          show grdO m s (p + (k : Nat)) r = true
          rw [← this]; exact hok
      · cases h
theorem guA_comm {s p r : Int} {b : Int} {m : Ma} (hb : grdO m s b r = true) : ∀ (n : Nat), (∀ k : Nat, k < n → p + k ≠ b) → (∀ k, k < n → guO s p r m k = true) → guA s p r (grdV m s b r) n = grdV (guA s p r m n) s b r
  | 0, _, _ => rfl
  | n + 1, hne, h => by
    have ih := guA_comm hb n (fun k hk => hne k (by omega)) (fun k hk => h k (by omega))
    have hk := guA_keeps n (fun k hk => h k (by omega))
    show guV s p r (guA s p r (grdV m s b r) n) n = grdV (guV s p r (guA s p r m n) n) s b r
    rw [ih]
    exact (grd_swap (by rw [hk]; exact h n (by omega)) (by rw [hk]; exact hb) (hne n (by omega))).symm
/-- the first k of n guards, from the last page on -/
def guD (s p r : Int) (m : Ma) (n : Nat) : Nat → Ma
  | 0 => m
  | k + 1 => guV s p r (guD s p r m n k) (n - 1 - k)
theorem guD_shift {s p r : Int} {m : Ma} {n : Nat} : ∀ k, k ≤ n → guD s p r m (n + 1) (k + 1) = guD s p r (guV s p r m n) n k
  | 0, _ => by unfold guD guD; simp
  | k + 1, hk => by
    show guV s p r (guD s p r m (n + 1) (k + 1)) (n + 1 - 1 - (k + 1)) = guV s p r (guD s p r (guV s p r m n) n k) (n - 1 - k)
    rw [guD_shift k (by omega), show n + 1 - 1 - (k + 1) = n - 1 - k by omega]
theorem guD_all {s p r : Int} : ∀ {n : Nat} {m : Ma}, (∀ k, k < n → guO s p r m k = true) → guD s p r m n n = guA s p r m n
  | 0, _, _ => rfl
  | n + 1, m, h => by
    have hn := h n (by omega)
    rw [guD_shift n (by omega), guD_all (fun k hk => by
      show grdO (grdV m s (p + n) r) s (p + k) r = true
      rw [grd_keeps hn]; exact h k (by omega))]
    exact guA_comm hn n (fun k hk => by omega) (fun k hk => h k (by omega))
theorem guD_ok {s p r : Int} {n : Nat} {m : Ma} (h : ∀ k, k < n → guO s p r m k = true) : ∀ k, k ≤ n → ∀ s' p' r', grdO (guD s p r m n k) s' p' r' = grdO m s' p' r'
  | 0, _, _, _, _ => rfl
  | k + 1, hk, s', p', r' => by
    have ih := guD_ok h k (by omega)
    show grdO (grdV (guD s p r m n k) s (p + (n - 1 - k : Nat)) r) s' p' r' = _
    rw [grd_keeps (by rw [ih]; exact h (n - 1 - k) (by omega)), ih]
/-- the frames behind the guards -/
def guF (s p r : Int) (k : Nat) (f : Fr) : Fr := if f.used = true ∧ f.s = s ∧ p ≤ f.p ∧ f.p < p + k then { f with r := r } else f
theorem guA_fs {s p r : Int} {m : Ma} (hm : mav m = true) : ∀ (n : Nat), (∀ k, k < n → guO s p r m k = true) → (guA s p r m n).t.fs = m.t.fs.map (guF s p r n)
  | 0, _ => by
    have : guF s p r 0 = id := funext fun f => by unfold guF; rw [if_neg (by omega)]; rfl
    rw [this, List.map_id]; rfl
  | n + 1, h => by
    have ih := guA_fs hm n (fun k hk => h k (by omega))
    have hk := guA_keeps n (fun k hk => h k (by omega)) s (p + n) r
    have hn : grdO (guA s p r m n) s (p + n) r = true := by rw [hk]; exact h n (by omega)
    have e1 : (guA s p r m (n + 1)).t = prT (guA s p r m n).t s (p + n) r := by
      show (grdV (guA s p r m n) s (p + n) r).t = _
      rw [grdV_at hn]; rfl
    rw [e1]
    obtain ⟨i, f, h1, h2, h3, h4, h5⟩ := prT_at r (grdO_iff.1 hn).2.1
    obtain ⟨j, g, q1, q2, q3, q4, _⟩ := prT_at r (grdO_iff.1 (h n (by omega))).2.1
    rw [h5]
    simp only
    have htv := (mav_parts (grdO_iff.1 hn).1).1
    obtain ⟨_, hfr, _⟩ := tv_parts htv
    apply List.ext_getElem?
    intro k
    rw [List.getElem?_set, ih, List.getElem?_map, List.length_map]
    rw [ih, List.getElem?_map] at h2
    cases eg : m.t.fs[i]? with
    | none => rw [eg] at h2; cases h2
    | some g0 =>
      rw [eg] at h2
      simp only [Option.map_some, Option.some.injEq] at h2
      have hil := (List.getElem?_eq_some_iff.1 eg).1
      have hg0 : g0.used = true ∧ (g0.s, g0.p) = (s, p + n) := by
        subst h2
        unfold guF at h3 h4
        split at h3
        · rename_i hc; rw [if_pos hc] at h4; exact ⟨h3, h4⟩
        · rename_i hc; rw [if_neg hc] at h4; exact ⟨h3, h4⟩
      have hg1 : g0.s = s := congrArg Prod.fst hg0.2
      have hg2 : g0.p = p + n := congrArg Prod.snd hg0.2
      by_cases hik : i = k
      · subst hik
        rw [if_pos rfl, if_pos hil, List.getElem?_map, eg, Option.map_some]
        subst h2
        congr 1
        unfold guF
        rw [if_neg (by omega), if_pos ⟨hg0.1, hg1, by omega, by omega⟩]
      · rw [if_neg hik, List.getElem?_map]
        cases ek : m.t.fs[k]? with
        | none => rfl
        | some fk =>
          simp only [Option.map_some]
          congr 1
          have hne : ¬ (fk.used = true ∧ fk.s = s ∧ fk.p = p + n) := by
            rintro ⟨u1, u2, u3⟩
            obtain ⟨_, hfr0, _⟩ := tv_parts (mav_parts hm).1
            exact hik (key_once hfr0 eg ek hg0.1 u1 (by rw [hg0.2, u2, u3]))
          unfold guF
          by_cases hc : fk.used = true ∧ fk.s = s ∧ p ≤ fk.p ∧ fk.p < p + n
          · rw [if_pos hc, if_pos ⟨hc.1, hc.2.1, hc.2.2.1, by omega⟩]
          · rw [if_neg hc, if_neg]
            rintro ⟨u1, u2, u3, u4⟩
            by_cases hlt : fk.p < p + n
            · exact hc ⟨u1, u2, u3, hlt⟩
            · exact hne ⟨u1, u2, by omega⟩
/-! taking -/
theorem relink_key (i n : Int) (f : Fr) : (relink i n f).used = f.used ∧ (relink i n f).s = f.s ∧ (relink i n f).p = f.p := by unfold relink; split <;> exact ⟨rfl, rfl, rfl⟩
theorem unm_fnd {t : Tab} {s p s' p' : Int} (h : fOK t s p = true) (hne : (s, p) ≠ (s', p')) : fnd (unmT t s p).fs s' p' = fnd t.fs s' p' := by
  obtain ⟨k, f, h1, h2, h3, h4, h5, _⟩ := fOK_at h
  have hz : (frz.used && decide ((frz.s, frz.p) = (s', p'))) = (f.used && decide ((f.s, f.p) = (s', p'))) := by
    rw [h5, decide_eq_false hne, Bool.and_false]; rfl
  unfold unmT
  simp only [h1, Int.toNat_natCast]
  split
  · exact fnd_set h3 hz
  · have hm : fnd (t.fs.map (relink k (t.fs.getD k frz).n)) s' p' = fnd t.fs s' p' := find_map (fun a => by
      obtain ⟨r1, r2, r3⟩ := relink_key k (t.fs.getD k frz).n a
      show ((relink k (t.fs.getD k frz).n a).used && decide (((relink k (t.fs.getD k frz).n a).s, (relink k (t.fs.getD k frz).n a).p) = (s', p'))) = _
      rw [r1, r2, r3]) t.fs
    rw [← hm]
    refine fnd_set (f := relink k (t.fs.getD k frz).n f) (by rw [List.getElem?_map, h3]; rfl) ?_
    obtain ⟨r1, r2, r3⟩ := relink_key k (t.fs.getD k frz).n f
    rw [r1, r2, r3]
    exact hz
theorem takO_iff {m : Ma} {s p : Int} : takO m s p = true ↔ mav m = true ∧ fOK m.t s p = true := by
  unfold takO
  simp only [Bool.and_eq_true]
theorem takV_t {m : Ma} {s p : Int} (h : takO m s p = true) : (takV m s p).t = unmT m.t s p := by
  unfold takV unmV
  rw [if_pos h, if_pos (takO_iff.1 h).2]
  rfl
theorem tak_keeps {m : Ma} {s p s' p' : Int} (h : takO m s p = true) (hne : (s, p) ≠ (s', p')) : takO (takV m s p) s' p' = takO m s' p' := by
  have hv := mav_tak h
  have hm := (takO_iff.1 h).1
  have hf := (takO_iff.1 h).2
  refine bool_iff ?_
  rw [takO_iff, takO_iff, fOK_iff, fOK_iff, takV_t h, fndI_eq (unm_fnd hf hne)]
  have h1 := (mav_parts hv).1
  rw [takV_t h] at h1
  have h2 := (mav_parts hm).1
  rw [hv, hm, h1, h2]
theorem tak_all {s p : Int} {m : Ma} : ∀ (n : Nat), ((rgN (fun m k => takO m s (p + k)) (fun m k => takV m s (p + k)) m n).isSome = true ↔ ∀ k, k < n → takO m s (p + (k : Nat)) = true) ∧
    ∀ x, rgN (fun m k => takO m s (p + k)) (fun m k => takV m s (p + k)) m n = some x → ∀ b, p + n ≤ b → takO x s b = takO m s b
  | 0 => ⟨⟨fun _ k hk => by omega, fun _ => rfl⟩, fun x h b _ => by injection h with h; rw [h]⟩
  | n + 1 => by
    obtain ⟨i1, i2⟩ := tak_all (s := s) (p := p) (m := m) n
    cases e : rgN (fun m k => takO m s (p + k)) (fun m k => takV m s (p + k)) m n with
    | none =>
      have hn : rgN (fun m k => takO m s (p + k)) (fun m k => takV m s (p + k)) m (n + 1) = none := rgN_none e (by omega)
      rw [hn]
      refine ⟨⟨(fun h => by cases h), fun h => ?_⟩, (fun x h => by cases h)⟩
      have := i1.2 (fun k hk => h k (by omega))
      rw [e] at this; cases this
    | some m' =>
      have h2 := i2 m' e
      have h1 := i1.1 (by rw [e]; rfl)
      cases hok : takO m' s (p + (n : Nat)) with
      | false =>
        have hn : rgN (fun m k => takO m s (p + k)) (fun m k => takV m s (p + k)) m (n + 1) = none := rgN_bad e hok
        rw [hn]
        refine ⟨⟨(fun h => by cases h), fun h => ?_⟩, (fun x h => by cases h)⟩
        have h3 := h n (by omega)
        rw [← h2 (p + n) (by omega), hok] at h3
        cases h3
      | true =>
        have hn : rgN (fun m k => takO m s (p + k)) (fun m k => takV m s (p + k)) m (n + 1) = some (takV m' s (p + n)) := rgN_step e hok
        rw [hn]
        refine ⟨⟨fun _ k hk => ?_, fun _ => rfl⟩, fun x h b hb => ?_⟩
        · rcases Nat.lt_or_ge k n with h3 | h3
          · exact h1 k h3
          · obtain rfl : k = n := by omega
            rw [← h2 (p + k) (by omega)]; exact hok
        · injection h with h
          rw [← h, tak_keeps hok (by intro h'; injection h' with _ h'; omega), h2 b (by omega)]
/-! putting -/
theorem put_parts {s p r : Int} {a : Int} {fs : List Int} {m : Ma} {y : Ma} (h1 : putOK m s p a r = true) (hy : putV m s p a r = y) : ∀ n : Nat, n ≤ fs.length → putN s (p + 1) r fs y n = putN s p r (a :: fs) m (n + 1)
  | 0, _ => by
    have := putN_step (s := s) (p := p) (r := r) (fs := a :: fs) (m := m) (m' := m) (k := 0) (f := a) rfl rfl (by simpa using h1)
    rw [this]
    show some y = _
    rw [← hy]; simp
  | n + 1, hn => by
    have ih := put_parts (fs := fs) h1 hy n (by omega)
    have e1 : p + 1 + (n : Int) = p + ((n + 1 : Nat) : Int) := by omega
    conv => lhs; unfold putN
    conv => rhs; unfold putN
    rw [ih, e1]
    cases putN s p r (a :: fs) m (n + 1) with
    | none => rfl
    | some m' => simp only [List.getElem?_cons_succ]
theorem prg_parts {m x : Ma} {s p r a : Int} {fs : List Int} (h : prgO m s p (a :: fs) r = some x) (hl : 1 ≤ fs.length) :
    ∃ y, prgO m s p [a] r = some y ∧ prgO y s (p + 1) fs r = some x := by
  have hc : mav m = true ∧ 1 ≤ (a :: fs).length ∧ (a :: fs).length ≤ 16 := by
    apply Decidable.byContradiction
    intro hc
    rw [prgO_no hc] at h; cases h
  rw [prgO_yes hc.1 hc.2.1 hc.2.2] at h
  have hlen := hc.2.2
  simp only [List.length_cons] at h hlen
  have h1 : putOK m s p a r = true := by
    cases hp : putOK m s p a r with
    | true => rfl
    | false =>
      have := putN_none (putN_bad (s := s) (p := p) (r := r) (fs := a :: fs) (m := m) (m' := m) (k := 0) (f := a) rfl rfl (by simpa using hp)) (show 0 + 1 ≤ fs.length + 1 by omega)
      rw [h] at this; cases this
  refine ⟨putV m s p a r, ?_, ?_⟩
  · rw [prgO_yes hc.1 (by simp) (by simp)]
    have := putN_step (s := s) (p := p) (r := r) (fs := [a]) (m := m) (m' := m) (k := 0) (f := a) rfl rfl (by simpa using h1)
    simpa using this
  · rw [prgO_yes (mav_put h1) hl (by omega), put_parts h1 rfl fs.length (Nat.le_refl _)]
    exact h
end Go.Proofs.YtnaagdmaggdbmaaGreatDoor
namespace Go.Proofs.YtnaagdmaggdbmaaGreatDoor
open Go.RowKit
/-! ### touching, plainly -/
theorem tch_t {m : Ma} {p n : Int} (h : tchO m p n = true) : (tchV m p n).t = m.t ∧ (tchV m p n).g = m.g ∧ (tchV m p n).sp = m.sp := by
  unfold tchV
  rw [if_pos h]
  split
  · exact ⟨rfl, rfl, rfl⟩
  · split <;> exact ⟨rfl, rfl, rfl⟩
/-- the frame of a page is what the table says -/
theorem tch_fr {m : Ma} {p n : Int} (h : tchO m p n = true) : tchFr m p = if 0 ≤ tchK m p then tchK m p else 0 := by
  obtain ⟨M, _, _⟩ := tchO_parts h
  by_cases hh : 0 ≤ tchH m p
  · obtain ⟨k, i, x, f, h1, h2, h3, h4, h5, h6, h7, h8⟩ := M.hit hh
    have hk : tchK m p = (i : Int) := by unfold tchK fndI; rw [h8]
    rw [h7, hk, if_pos (by omega)]
  · unfold tchFr
    rw [if_neg hh]
theorem tch_hit {m : Ma} {p n : Int} (h : tchO m p n = true) (hh : 0 ≤ tchH m p) : 0 ≤ tchK m p := by
  obtain ⟨M, _, _⟩ := tchO_parts h
  obtain ⟨k, i, x, f, h1, h2, h3, h4, h5, h6, h7, h8⟩ := M.hit hh
  have hk : tchK m p = (i : Int) := by unfold tchK fndI; rw [h8]
  omega
/-- whether a page may be touched, as the table says -/
def tpO (t : Tab) (sp p n : Int) : Bool := decide (0 ≤ fndI t.fs (keyI sp p) p) && alw (t.fs.getD (fndI t.fs (keyI sp p) p).toNat frz).r n
theorem tch_R {m : Ma} {p n : Int} (h : tchO m p n = true) :
    (tpO m.t m.sp p n = true → (tchR m p n = 1 ∨ tchR m p n = 2) ∧ tchF m p n = tchK m p) ∧ (tpO m.t m.sp p n = false → tchR m p n = 3 ∨ tchR m p n = 4) := by
  have hf := tch_fr h
  have hA : tchA m p n = alw (m.t.fs.getD (tchFr m p).toNat frz).r n := rfl
  have hO : tpO m.t m.sp p n = (decide (0 ≤ tchK m p) && alw (m.t.fs.getD (tchK m p).toNat frz).r n) := rfl
  have hF : tchF m p n = tchFr m p := by unfold tchF; rw [if_pos h]
  rw [hO, hF]
  unfold tchR
  rw [if_pos h]
  by_cases hh : 0 ≤ tchH m p
  · have hk := tch_hit h hh
    rw [if_pos hk] at hf
    rw [hf] at hA
    rw [if_pos hh, decide_eq_true hk, hA, hf, Bool.true_and]
    cases alw (m.t.fs.getD (tchK m p).toNat frz).r n <;> simp
  · by_cases hk : 0 ≤ tchK m p
    · rw [if_pos hk] at hf
      rw [hf] at hA
      rw [if_neg hh, if_pos hk, decide_eq_true hk, hA, hf, Bool.true_and]
      cases alw (m.t.fs.getD (tchK m p).toNat frz).r n <;> simp
    · rw [if_neg hh, if_neg hk, decide_eq_false hk, Bool.false_and]
      simp
theorem tch_again {m : Ma} {p n : Int} (h : tchO m p n = true) (hp : tpO m.t m.sp p n = true) : tchO (tchV m p n) p n = true ∧ tchV (tchV m p n) p n = tchV m p n ∧ tchR (tchV m p n) p n = 1 ∧ tchF (tchV m p n) p n = tchF m p n := by
  obtain ⟨M, h2, h3⟩ := tchO_parts h
  have hO : tchO (tchV m p n) p n = true := by unfold tchO; rw [mav_tch h, h2, h3]; rfl
  obtain ⟨e1, e2, e3⟩ := tch_t h
  have hp' : tpO (tchV m p n).t (tchV m p n).sp p n = true := by rw [e1, e3]; exact hp
  have hF : tchF (tchV m p n) p n = tchF m p n := by
    rw [((tch_R hO).1 hp').2, ((tch_R h).1 hp).2]
    unfold tchK
    rw [e1, e3]
  have hH : 0 ≤ tchH (tchV m p n) p := by
    by_cases hh : 0 ≤ tchH m p
    · have : tchV m p n = m := by unfold tchV; rw [if_pos h, if_pos hh]
      rw [this]; exact hh
    · have hk : 0 ≤ tchK m p := by
        unfold tpO at hp
        rw [Bool.and_eq_true, decide_eq_true_eq] at hp
        exact hp.1
      have hv : tchV m p n = { m with c := filC m.c (tln m p (tchK m p)) } := by unfold tchV; rw [if_pos h, if_neg hh, if_pos hk]
      rw [hv]
      have hvi := vic_in M.c
      show 0 ≤ plcI (m.c.ls.set (vic m.c) (tln m p (tchK m p))) (tagT m m.sp p) p
      unfold plcI plc
      cases e : List.findIdx? (fits (tagT m m.sp p) p) (m.c.ls.set (vic m.c) (tln m p (tchK m p))) with
      | some i => simp
      | none =>
        rw [List.findIdx?_eq_none_iff] at e
        have := e (tln m p (tchK m p)) (List.mem_of_getElem? (set_eq hvi))
        have h0 : fits (tagT m m.sp p) p (tln m p (tchK m p)) = true := fits_iff.2 ⟨rfl, rfl, .inl rfl⟩
        rw [h0] at this
        cases this
  have hV : tchV (tchV m p n) p n = tchV m p n := by
    generalize tchV m p n = x at *
    unfold tchV; rw [if_pos hO, if_pos hH]
  refine ⟨hO, hV, ?_, hF⟩
  rcases ((tch_R hO).1 hp').1 with h1 | h1
  · exact h1
  · generalize tchV m p n = x at *
    unfold tchR at h1
    rw [if_pos hO, if_pos hH] at h1
    split at h1 <;> omega
/-! ### bytes -/
def fbO (m : Ma) (p o n : Int) : Bool := tchO m p n && inR o 64
def fbV (m : Ma) (p o n : Int) : Ma := if fbO m p o n = true then tchV m p n else maz
def fbR (m : Ma) (p o n : Int) : Int := if fbO m p o n = true then tchR m p n else 0
def fbA (m : Ma) (p o n : Int) : Int := if fbO m p o n = true ∧ ¬ (tchR m p n = 3 ∨ tchR m p n = 4) then tchF m p n * 64 + o else 0
theorem fbO_no {m : Ma} {p o n : Int} (h : fbO m p o n = false) : fbV m p o n = maz ∧ fbR m p o n = 0 ∧ fbA m p o n = 0 := by
  unfold fbV fbR fbA
  rw [h]
  exact ⟨rfl, rfl, if_neg (by simp)⟩
theorem fbO_yes {m : Ma} {p o n : Int} (h : fbO m p o n = true) : fbV m p o n = tchV m p n ∧ fbR m p o n = tchR m p n := by
  unfold fbV fbR
  rw [if_pos h, if_pos h]
  exact ⟨rfl, rfl⟩
theorem fbO_parts {m : Ma} {p o n : Int} (h : fbO m p o n = true) : tchO m p n = true ∧ inR o 64 = true := by
  unfold fbO at h
  rw [Bool.and_eq_true] at h
  exact h
theorem fbA_stop {m : Ma} {p o n : Int} (h : tchR m p n = 3 ∨ tchR m p n = 4) : fbA m p o n = 0 := by unfold fbA; rw [if_neg (fun hh => hh.2 h)]
theorem fbA_go {m : Ma} {p o n : Int} (h : fbO m p o n = true) (h2 : ¬ (tchR m p n = 3 ∨ tchR m p n = 4)) : fbA m p o n = tchF m p n * 64 + o := by unfold fbA; rw [if_pos ⟨h, h2⟩]
abbrev Pc := Int × Int × Int
/-- touching pieces, one behind the other -/
def tbS (n : Int) : List Pc → Ma → List Int → Int → Ma × List Int × Int
  | [], m, pl, last => (m, pl, last)
  | q :: l, m, pl, last =>
    if fbR m q.1 q.2.1 n = 3 ∨ fbR m q.1 q.2.1 n = 4 then (fbV m q.1 q.2.1 n, pl, fbR m q.1 q.2.1 n)
    else tbS n l (fbV m q.1 q.2.1 n) (pl ++ [fbA m q.1 q.2.1 n]) (if fbR m q.1 q.2.1 n = 2 then 2 else last)
/-- the places of pieces, as the table says -/
def tbL (t : Tab) (sp n : Int) : List Pc → List Int
  | [] => []
  | q :: l => if tpO t sp q.1 n = true then (fndI t.fs (keyI sp q.1) q.1 * 64 + q.2.1) :: tbL t sp n l else []
theorem tbL_len (t : Tab) (sp n : Int) : ∀ l, (tbL t sp n l).length ≤ l.length
  | [] => Nat.le_refl _
  | q :: l => by
    unfold tbL
    have := tbL_len t sp n l
    split <;> simp <;> omega
/-- pieces that lie in memory -/
def pcOK (l : List Pc) : Prop := ∀ q ∈ l, inR q.1 256 = true ∧ inR q.2.1 64 = true
theorem tbS_all {n : Int} (hn : inR n 8 = true) : ∀ (l : List Pc) (m : Ma) (pl : List Int) (last : Int), pcOK l → mav m = true → (last = 1 ∨ last = 2) →
    mav (tbS n l m pl last).1 = true ∧ (tbS n l m pl last).1.t = m.t ∧ (tbS n l m pl last).1.sp = m.sp ∧ (tbS n l m pl last).2.1 = pl ++ tbL m.t m.sp n l ∧
    (((tbS n l m pl last).2.2 = 1 ∨ (tbS n l m pl last).2.2 = 2) ↔ (tbL m.t m.sp n l).length = l.length)
  | [], m, pl, last, _, hm, hl => ⟨hm, rfl, rfl, by simp [tbS, tbL], by simp [tbS, tbL]; exact hl⟩
  | q :: l, m, pl, last, hp, hm, hl => by
    obtain ⟨h1, h2⟩ := hp q (by simp)
    have hO : tchO m q.1 n = true := by unfold tchO; rw [hm, h1, hn]; rfl
    have hF : fbO m q.1 q.2.1 n = true := by unfold fbO; rw [hO, h2]; rfl
    obtain ⟨v1, v2⟩ := fbO_yes hF
    obtain ⟨e1, e2, e3⟩ := tch_t hO
    obtain ⟨r1, r2⟩ := tch_R hO
    unfold tbS tbL
    rw [v1, v2]
    cases ht : tpO m.t m.sp q.1 n with
    | true =>
      obtain ⟨r3, r4⟩ := r1 ht
      have hne : ¬ (tchR m q.1 n = 3 ∨ tchR m q.1 n = 4) := by omega
      rw [if_neg hne, if_pos rfl]
      obtain ⟨i1, i2, i3, i4, i5⟩ := tbS_all hn l (tchV m q.1 n) (pl ++ [fbA m q.1 q.2.1 n]) (if tchR m q.1 n = 2 then 2 else last) (fun x hx => hp x (by simp [hx])) (mav_tch hO) (by split; exact .inr rfl; exact hl)
      refine ⟨i1, i2.trans e1, i3.trans e3, ?_, ?_⟩
      · rw [i4, e1, e3, fbA_go hF hne, r4, List.append_assoc]; rfl
      · rw [i5, e1, e3]; simp
    | false =>
      have r3 := r2 ht
      rw [if_pos r3, if_neg (by simp)]
      refine ⟨mav_tch hO, e1, e3, by simp, ?_⟩
      simp
      omega
theorem tbS_one {n : Int} {q : Pc} {m : Ma} (h : fbO m q.1 q.2.1 n = true) : (tbS n [q] m [] 1).1 = tchV m q.1 n ∧ (tbS n [q] m [] 1).2.2 = tchR m q.1 n := by
  obtain ⟨h1, h2⟩ := fbO_parts h
  obtain ⟨v1, v2⟩ := fbO_yes h
  obtain ⟨r1, r2⟩ := tch_R h1
  unfold tbS
  rw [v1, v2]
  cases ht : tpO m.t m.sp q.1 n with
  | true =>
    obtain ⟨r3, _⟩ := r1 ht
    rw [if_neg (by omega)]
    refine ⟨rfl, ?_⟩
    show (if tchR m q.1 n = 2 then (2 : Int) else 1) = _
    split <;> omega
  | false => rw [if_pos (r2 ht)]; exact ⟨rfl, rfl⟩
def tbO (m : Ma) (p o b n : Int) : Bool := mav m && inR n 8 && pval m.sp p o b
def tbX (m : Ma) (p o b n : Int) : Ma × List Int × Int := if tbO m p o b n = true then tbS n (pcs p o b) m [] 1 else (maz, [], 0)
end Go.Proofs.YtnaagdmaggdbmaaGreatDoor
namespace Go.Proofs.YtnaagdmaggdbmaaGreatDoor
open Go.RowKit
set_option maxRecDepth 1000000
theorem tchF_bd {m : Ma} {p n : Int} (h : tchO m p n = true) : 0 ≤ tchF m p n ∧ tchF m p n < 16 := by
  have hF : tchF m p n = tchFr m p := by unfold tchF; rw [if_pos h]
  rw [hF, tch_fr h]
  split
  · rename_i hk
    obtain ⟨k, hk2, hf⟩ := fndI_fnd (show 0 ≤ fndI m.t.fs (keyI m.sp p) p from hk)
    obtain ⟨f, ef, _⟩ := fnd_some hf
    have hl := (List.getElem?_eq_some_iff.1 ef).1
    obtain ⟨M, _, _⟩ := tchO_parts h
    have := (tv_parts (tv_TV.2 M.t)).1
    have hk3 : tchK m p = (k : Int) := hk2
    omega
  · omega
set_option maxHeartbeats 4000000 in
theorem sFindByte_any (vb vf vl vo : Value) (m : Ma) (p o n : Int) (w : World) (hM : MaR w vb vf vl vo m) :
    Calls Tryz.prog 28 #[.agg #[vb, vf, vl, .int .i64 m.c.hand, .int .i64 m.g.count, .int .i64 m.g.next, .int .i64 m.g.round, vo, .int .i64 m.sp], .int .i64 p, .int .i64 o, .int .i64 n] w (Post2 fun v w' => ∃ v1 v2 v3 v4, v = .tuple #[.agg #[v1, v2, v3, .int .i64 (fbV m p o n).c.hand, .int .i64 (fbV m p o n).g.count, .int .i64 (fbV m p o n).g.next, .int .i64 (fbV m p o n).g.round, v4, .int .i64 (fbV m p o n).sp], .int .i64 (fbA m p o n), .int .i64 (fbR m p o n), .bool (fbO m p o n)] ∧ MaM w.heap.size w' v1 v2 v3 v4 (fbV m p o n) ∧ Below w.heap.size w w') := by
  have hbx := (Own.new_ w 34 #[vb, vf, vl, .int .i64 m.c.hand, .int .i64 m.g.count, .int .i64 m.g.next, .int .i64 m.g.round, vo, .int .i64 m.sp]).alloc (o := .cells #[.slice none 0 0, .slice none 0 0, .slice none 0 0, .int .i64 0, .int .i64 0, .int .i64 0, .int .i64 0, .slice none 0 0, .int .i64 0] 34)
  have hbo := ownAt (W := w.alloc (.cells #[vb, vf, vl, .int .i64 m.c.hand, .int .i64 m.g.count, .int .i64 m.g.next, .int .i64 m.g.round, vo, .int .i64 m.sp] 34)) (g := w.heap.size + 1) (t := 34) (cs := #[.slice none 0 0, .slice none 0 0, .slice none 0 0, .int .i64 0, .int .i64 0, .int .i64 0, .int .i64 0, .slice none 0 0, .int .i64 0]) (by simp)
  have hb0 : Below w.heap.size w ((w.alloc (.cells #[vb, vf, vl, .int .i64 m.c.hand, .int .i64 m.g.count, .int .i64 m.g.next, .int .i64 m.g.round, vo, .int .i64 m.sp] 34)).alloc (.cells #[.slice none 0 0, .slice none 0 0, .slice none 0 0, .int .i64 0, .int .i64 0, .int .i64 0, .int .i64 0, .slice none 0 0, .int .i64 0] 34)) := bA (bA bR)
  have hs0 : ((w.alloc (.cells #[vb, vf, vl, .int .i64 m.c.hand, .int .i64 m.g.count, .int .i64 m.g.next, .int .i64 m.g.round, vo, .int .i64 m.sp] 34)).alloc (.cells #[.slice none 0 0, .slice none 0 0, .slice none 0 0, .int .i64 0, .int .i64 0, .int .i64 0, .int .i64 0, .slice none 0 0, .int .i64 0] 34)).heap.size = w.heap.size + 2 := by simp
  generalize hW : (w.alloc (.cells #[vb, vf, vl, .int .i64 m.c.hand, .int .i64 m.g.count, .int .i64 m.g.next, .int .i64 m.g.round, vo, .int .i64 m.sp] 34)).alloc (.cells #[.slice none 0 0, .slice none 0 0, .slice none 0 0, .int .i64 0, .int .i64 0, .int .i64 0, .int .i64 0, .slice none 0 0, .int .i64 0] 34) = W0 at hbx hbo hb0 hs0
  have m0q := hbx.cell_ 0 (v := vb) rfl
  have m1q := hbx.cell_ 1 (v := vf) rfl
  have m2q := hbx.cell_ 2 (v := vl) rfl
  have m3q := hbx.cell_ 3 (v := .int .i64 m.c.hand) rfl
  have m4q := hbx.cell_ 4 (v := .int .i64 m.g.count) rfl
  have m5q := hbx.cell_ 5 (v := .int .i64 m.g.next) rfl
  have m6q := hbx.cell_ 6 (v := .int .i64 m.g.round) rfl
  have m7q := hbx.cell_ 7 (v := vo) rfl
  have m8q := hbx.cell_ 8 (v := .int .i64 m.sp) rfl
  have HX0 := Lib.hid hbx
  have HO0 := Lib.hid hbo
  have HB0 := Lib.hid hb0
  have HM := Lib.hid hM
  clear hbx hbo hb0 hM
  clear m0q m1q m2q m3q m4q m5q m6q m7q m8q
  have HS0 : Hid (w.heap.size + 2 ≤ W0.heap.size) := Nat.le_of_eq hs0.symm
  have m00 := HX0.out.cell_ 0 (v := vb) rfl
  have m10 := HX0.out.cell_ 1 (v := vf) rfl
  have m20 := HX0.out.cell_ 2 (v := vl) rfl
  have m30 := HX0.out.cell_ 3 (v := .int .i64 m.c.hand) rfl
  have m40 := HX0.out.cell_ 4 (v := .int .i64 m.g.count) rfl
  have m50 := HX0.out.cell_ 5 (v := .int .i64 m.g.next) rfl
  have m60 := HX0.out.cell_ 6 (v := .int .i64 m.g.round) rfl
  have m70 := HX0.out.cell_ 7 (v := vo) rfl
  have m80 := HX0.out.cell_ 8 (v := .int .i64 m.sp) rfl
  go_enter Tryz.func28, Tryz.ntmps28
  go_wp2_with fail
  refine (sTouchPage_any vb vf vl vo m p n _ (HM.out.now HB0.out)).mono ?_
  rintro e w1 ⟨_, rfl, q1, q2, q3, q4, rfl, hM1, hb1⟩
  have hM1' := hM1.mono HS0.out
  generalize hTV : tchV m p n = V at *
  obtain ⟨B1, d1, rfl, _⟩ := hM1.t.b
  obtain ⟨B2, d2, rfl, _⟩ := hM1.t.f
  obtain ⟨B3, d3, rfl, _⟩ := hM1.l
  obtain ⟨B4, d4, rfl, _⟩ := hM1.o
  have HO1 := Lib.hid (HO0.out.below hb1)
  have HB1 := Lib.hid (bT HB0.out hb1)
  have HS1 := Lib.hid (Nat.le_trans HS0.out hb1.size)
  have ho4 := Own.new_ w1 34 #[.slice B1 V.t.bs.length d1, .slice B2 V.t.fs.length d2, .slice B3 V.c.ls.length d3, .int .i64 V.c.hand, .int .i64 V.g.count, .int .i64 V.g.next, .int .i64 V.g.round, .slice B4 V.g.os.length d4, .int .i64 V.sp]
  have hb4 : Below w1.heap.size w1 (w1.alloc (.cells #[.slice B1 V.t.bs.length d1, .slice B2 V.t.fs.length d2, .slice B3 V.c.ls.length d3, .int .i64 V.c.hand, .int .i64 V.g.count, .int .i64 V.g.next, .int .i64 V.g.round, .slice B4 V.g.os.length d4, .int .i64 V.sp] 34)) := bA bR
  have hgt : w.heap.size + 2 ≤ w1.heap.size := HS1.out
  generalize hW4 : w1.alloc (.cells #[.slice B1 V.t.bs.length d1, .slice B2 V.t.fs.length d2, .slice B3 V.c.ls.length d3, .int .i64 V.c.hand, .int .i64 V.g.count, .int .i64 V.g.next, .int .i64 V.g.round, .slice B4 V.g.os.length d4, .int .i64 V.sp] 34) = w4 at ho4 hb4
  have HM4 := Lib.hid (hM1'.now hb4)
  have HU4 := Lib.hid ho4
  have HO4 := Lib.hid (HO1.out.below hb4)
  have HB4 := Lib.hid (bT HB1.out hb4)
  clear m00 m10 m20 m30 m40 m50 m60 m70 m80
  clear hM1 hM1' hb1 hb4 ho4
  have HTV := Lib.hid hTV
  clear hTV
  cases h1 : tchO m p n with
  | false =>
    have HNO : Hid (fbO m p o n = false) := by show _ = _; unfold fbO; rw [h1]; rfl
    have HV := Lib.hid (fbO_no HNO.out).1
    have HR := Lib.hid (fbO_no HNO.out).2.1
    have HA := Lib.hid (fbO_no HNO.out).2.2
    have r0x := HO4.out.cell_ 0 (v := .slice none 0 0) rfl
    have r1x := HO4.out.cell_ 1 (v := .slice none 0 0) rfl
    have r2x := HO4.out.cell_ 2 (v := .slice none 0 0) rfl
    have r3x := HO4.out.cell_ 3 (v := .int .i64 0) rfl
    have r4x := HO4.out.cell_ 4 (v := .int .i64 0) rfl
    have r5x := HO4.out.cell_ 5 (v := .int .i64 0) rfl
    have r6x := HO4.out.cell_ 6 (v := .int .i64 0) rfl
    have r7x := HO4.out.cell_ 7 (v := .slice none 0 0) rfl
    have r8x := HO4.out.cell_ 8 (v := .int .i64 0) rfl
    have z0x := HO4.out.free 0
    have z1x := HO4.out.free 1
    have z2x := HO4.out.free 2
    have z3x := HO4.out.free 3
    have z4x := HO4.out.free 4
    have z5x := HO4.out.free 5
    have z6x := HO4.out.free 6
    have z7x := HO4.out.free 7
    have z8x := HO4.out.free 8
    have hlr := HO4.out.lt
    go_wp2
    have o3 := HO4.out.set9 (.slice none 0 0) (.slice none 0 0) (.slice none 0 0) (.int .i64 0) (.int .i64 0) (.int .i64 0) (.int .i64 0) (.slice none 0 0) (.int .i64 0)
    have p0t := o3.cell_ 0 (v := .slice none 0 0) rfl
    have p1t := o3.cell_ 1 (v := .slice none 0 0) rfl
    have p2t := o3.cell_ 2 (v := .slice none 0 0) rfl
    have p3t := o3.cell_ 3 (v := .int .i64 maz.c.hand) rfl
    have p4t := o3.cell_ 4 (v := .int .i64 maz.g.count) rfl
    have p5t := o3.cell_ 5 (v := .int .i64 maz.g.next) rfl
    have p6t := o3.cell_ 6 (v := .int .i64 maz.g.round) rfl
    have p7t := o3.cell_ 7 (v := .slice none 0 0) rfl
    have p8t := o3.cell_ 8 (v := .int .i64 maz.sp) rfl
    refine bodyPost_ret (v := .tuple #[.agg #[.slice none 0 0, .slice none 0 0, .slice none 0 0, .int .i64 0, .int .i64 0, .int .i64 0, .int .i64 0, .slice none 0 0, .int .i64 0], .int .i64 0, .int .i64 0, .bool false]) (by simp [results, Tryz.results28, go_sem, p0t, p1t, p2t, p3t, p4t, p5t, p6t, p7t, p8t, maz, caz, tgz]) rfl ⟨_, rfl, _, _, _, _, by rw [HV.out, HA.out, HR.out, HNO.out]; rfl, by rw [HV.out]; exact mam_z, ?_⟩
    repeat (refine bS ?_ (by simp <;> omega))
    exact HB4.out
  | true =>
  by_cases hA : o < 0
  · have HNO : Hid (fbO m p o n = false) := by
      show _ = _
      unfold fbO
      rw [show inR o 64 = false by cases h : inR o 64 with
        | false => rfl
        | true => have := inR_iff.1 h; omega]
      simp
    have HV := Lib.hid (fbO_no HNO.out).1
    have HR := Lib.hid (fbO_no HNO.out).2.1
    have HA := Lib.hid (fbO_no HNO.out).2.2
    have r0x := HO4.out.cell_ 0 (v := .slice none 0 0) rfl
    have r1x := HO4.out.cell_ 1 (v := .slice none 0 0) rfl
    have r2x := HO4.out.cell_ 2 (v := .slice none 0 0) rfl
    have r3x := HO4.out.cell_ 3 (v := .int .i64 0) rfl
    have r4x := HO4.out.cell_ 4 (v := .int .i64 0) rfl
    have r5x := HO4.out.cell_ 5 (v := .int .i64 0) rfl
    have r6x := HO4.out.cell_ 6 (v := .int .i64 0) rfl
    have r7x := HO4.out.cell_ 7 (v := .slice none 0 0) rfl
    have r8x := HO4.out.cell_ 8 (v := .int .i64 0) rfl
    have z0x := HO4.out.free 0
    have z1x := HO4.out.free 1
    have z2x := HO4.out.free 2
    have z3x := HO4.out.free 3
    have z4x := HO4.out.free 4
    have z5x := HO4.out.free 5
    have z6x := HO4.out.free 6
    have z7x := HO4.out.free 7
    have z8x := HO4.out.free 8
    have hlr := HO4.out.lt
    go_wp2
    have o3 := HO4.out.set9 (.slice none 0 0) (.slice none 0 0) (.slice none 0 0) (.int .i64 0) (.int .i64 0) (.int .i64 0) (.int .i64 0) (.slice none 0 0) (.int .i64 0)
    have p0t := o3.cell_ 0 (v := .slice none 0 0) rfl
    have p1t := o3.cell_ 1 (v := .slice none 0 0) rfl
    have p2t := o3.cell_ 2 (v := .slice none 0 0) rfl
    have p3t := o3.cell_ 3 (v := .int .i64 maz.c.hand) rfl
    have p4t := o3.cell_ 4 (v := .int .i64 maz.g.count) rfl
    have p5t := o3.cell_ 5 (v := .int .i64 maz.g.next) rfl
    have p6t := o3.cell_ 6 (v := .int .i64 maz.g.round) rfl
    have p7t := o3.cell_ 7 (v := .slice none 0 0) rfl
    have p8t := o3.cell_ 8 (v := .int .i64 maz.sp) rfl
    refine bodyPost_ret (v := .tuple #[.agg #[.slice none 0 0, .slice none 0 0, .slice none 0 0, .int .i64 0, .int .i64 0, .int .i64 0, .int .i64 0, .slice none 0 0, .int .i64 0], .int .i64 0, .int .i64 0, .bool false]) (by simp [results, Tryz.results28, go_sem, p0t, p1t, p2t, p3t, p4t, p5t, p6t, p7t, p8t, maz, caz, tgz]) rfl ⟨_, rfl, _, _, _, _, by rw [HV.out, HA.out, HR.out, HNO.out]; rfl, by rw [HV.out]; exact mam_z, ?_⟩
    repeat (refine bS ?_ (by simp <;> omega))
    exact HB4.out
  by_cases hB : 64 ≤ o
  · have HNO : Hid (fbO m p o n = false) := by
      show _ = _
      unfold fbO
      rw [show inR o 64 = false by cases h : inR o 64 with
        | false => rfl
        | true => have := inR_iff.1 h; omega]
      simp
    have HV := Lib.hid (fbO_no HNO.out).1
    have HR := Lib.hid (fbO_no HNO.out).2.1
    have HA := Lib.hid (fbO_no HNO.out).2.2
    have r0x := HO4.out.cell_ 0 (v := .slice none 0 0) rfl
    have r1x := HO4.out.cell_ 1 (v := .slice none 0 0) rfl
    have r2x := HO4.out.cell_ 2 (v := .slice none 0 0) rfl
    have r3x := HO4.out.cell_ 3 (v := .int .i64 0) rfl
    have r4x := HO4.out.cell_ 4 (v := .int .i64 0) rfl
    have r5x := HO4.out.cell_ 5 (v := .int .i64 0) rfl
    have r6x := HO4.out.cell_ 6 (v := .int .i64 0) rfl
    have r7x := HO4.out.cell_ 7 (v := .slice none 0 0) rfl
    have r8x := HO4.out.cell_ 8 (v := .int .i64 0) rfl
    have z0x := HO4.out.free 0
    have z1x := HO4.out.free 1
    have z2x := HO4.out.free 2
    have z3x := HO4.out.free 3
    have z4x := HO4.out.free 4
    have z5x := HO4.out.free 5
    have z6x := HO4.out.free 6
    have z7x := HO4.out.free 7
    have z8x := HO4.out.free 8
    have hlr := HO4.out.lt
    go_wp2
    have o3 := HO4.out.set9 (.slice none 0 0) (.slice none 0 0) (.slice none 0 0) (.int .i64 0) (.int .i64 0) (.int .i64 0) (.int .i64 0) (.slice none 0 0) (.int .i64 0)
    have p0t := o3.cell_ 0 (v := .slice none 0 0) rfl
    have p1t := o3.cell_ 1 (v := .slice none 0 0) rfl
    have p2t := o3.cell_ 2 (v := .slice none 0 0) rfl
    have p3t := o3.cell_ 3 (v := .int .i64 maz.c.hand) rfl
    have p4t := o3.cell_ 4 (v := .int .i64 maz.g.count) rfl
    have p5t := o3.cell_ 5 (v := .int .i64 maz.g.next) rfl
    have p6t := o3.cell_ 6 (v := .int .i64 maz.g.round) rfl
    have p7t := o3.cell_ 7 (v := .slice none 0 0) rfl
    have p8t := o3.cell_ 8 (v := .int .i64 maz.sp) rfl
    refine bodyPost_ret (v := .tuple #[.agg #[.slice none 0 0, .slice none 0 0, .slice none 0 0, .int .i64 0, .int .i64 0, .int .i64 0, .int .i64 0, .slice none 0 0, .int .i64 0], .int .i64 0, .int .i64 0, .bool false]) (by simp [results, Tryz.results28, go_sem, p0t, p1t, p2t, p3t, p4t, p5t, p6t, p7t, p8t, maz, caz, tgz]) rfl ⟨_, rfl, _, _, _, _, by rw [HV.out, HA.out, HR.out, HNO.out]; rfl, by rw [HV.out]; exact mam_z, ?_⟩
    repeat (refine bS ?_ (by simp <;> omega))
    exact HB4.out
  have h2 : inR o 64 = true := inR_iff.2 (by omega)
  have HOK : Hid (fbO m p o n = true) := by show _ = _; unfold fbO; rw [h1, h2]; rfl
  obtain ⟨hF0, hF1⟩ := tchF_bd h1
  obtain ⟨ho0, ho1⟩ := inR_iff.1 h2
  have HVV : Hid (fbV m p o n = V) := by show _ = _; rw [(fbO_yes HOK.out).1, HTV.out]
  have HR0 := Lib.hid (fbO_yes HOK.out).2
  have HA0 := Lib.hid (fun h => fbA_stop (o := o) (m := m) (p := p) (n := n) h)
  have HA1 := Lib.hid (fun h => fbA_go (m := m) (p := p) (n := n) HOK.out h)
  generalize tchR m p n = R at *
  generalize tchF m p n = F at *
  by_cases h3 : R = 3
  · subst h3
    have HRR : Hid (fbR m p o n = 3) := HR0.out
    have HAA : Hid (fbA m p o n = 0) := HA0.out (.inl rfl)
    have r0x := HO4.out.cell_ 0 (v := .slice none 0 0) rfl
    have r1x := HO4.out.cell_ 1 (v := .slice none 0 0) rfl
    have r2x := HO4.out.cell_ 2 (v := .slice none 0 0) rfl
    have r3x := HO4.out.cell_ 3 (v := .int .i64 0) rfl
    have r4x := HO4.out.cell_ 4 (v := .int .i64 0) rfl
    have r5x := HO4.out.cell_ 5 (v := .int .i64 0) rfl
    have r6x := HO4.out.cell_ 6 (v := .int .i64 0) rfl
    have r7x := HO4.out.cell_ 7 (v := .slice none 0 0) rfl
    have r8x := HO4.out.cell_ 8 (v := .int .i64 0) rfl
    have z0x := HO4.out.free 0
    have z1x := HO4.out.free 1
    have z2x := HO4.out.free 2
    have z3x := HO4.out.free 3
    have z4x := HO4.out.free 4
    have z5x := HO4.out.free 5
    have z6x := HO4.out.free 6
    have z7x := HO4.out.free 7
    have z8x := HO4.out.free 8
    have p0o := HU4.out.cell_ 0 (v := .slice B1 V.t.bs.length d1) rfl
    have p1o := HU4.out.cell_ 1 (v := .slice B2 V.t.fs.length d2) rfl
    have p2o := HU4.out.cell_ 2 (v := .slice B3 V.c.ls.length d3) rfl
    have p3o := HU4.out.cell_ 3 (v := .int .i64 V.c.hand) rfl
    have p4o := HU4.out.cell_ 4 (v := .int .i64 V.g.count) rfl
    have p5o := HU4.out.cell_ 5 (v := .int .i64 V.g.next) rfl
    have p6o := HU4.out.cell_ 6 (v := .int .i64 V.g.round) rfl
    have p7o := HU4.out.cell_ 7 (v := .slice B4 V.g.os.length d4) rfl
    have p8o := HU4.out.cell_ 8 (v := .int .i64 V.sp) rfl
    have hlr := HO4.out.lt
    have hlu := HU4.out.lt
    go_wp2
    have o3 := HO4.out.set9 (.slice B1 V.t.bs.length d1) (.slice B2 V.t.fs.length d2) (.slice B3 V.c.ls.length d3) (.int .i64 V.c.hand) (.int .i64 V.g.count) (.int .i64 V.g.next) (.int .i64 V.g.round) (.slice B4 V.g.os.length d4) (.int .i64 V.sp)
    have p0t := o3.cell_ 0 (v := .slice B1 V.t.bs.length d1) rfl
    have p1t := o3.cell_ 1 (v := .slice B2 V.t.fs.length d2) rfl
    have p2t := o3.cell_ 2 (v := .slice B3 V.c.ls.length d3) rfl
    have p3t := o3.cell_ 3 (v := .int .i64 V.c.hand) rfl
    have p4t := o3.cell_ 4 (v := .int .i64 V.g.count) rfl
    have p5t := o3.cell_ 5 (v := .int .i64 V.g.next) rfl
    have p6t := o3.cell_ 6 (v := .int .i64 V.g.round) rfl
    have p7t := o3.cell_ 7 (v := .slice B4 V.g.os.length d4) rfl
    have p8t := o3.cell_ 8 (v := .int .i64 V.sp) rfl
    refine bodyPost_ret (v := .tuple #[.agg #[.slice B1 V.t.bs.length d1, .slice B2 V.t.fs.length d2, .slice B3 V.c.ls.length d3, .int .i64 V.c.hand, .int .i64 V.g.count, .int .i64 V.g.next, .int .i64 V.g.round, .slice B4 V.g.os.length d4, .int .i64 V.sp], .int .i64 (0), .int .i64 (3), .bool true]) (by simp [results, Tryz.results28, go_sem, p0t, p1t, p2t, p3t, p4t, p5t, p6t, p7t, p8t]) rfl ⟨_, rfl, _, _, _, _, by (rw [HVV.out, HAA.out, HRR.out, HOK.out]) <;> rfl, ?_, ?_⟩
    · rw [HVV.out]
      exact (HM4.out.far9 HO4.out _ _ _ _ _ _ _ _ _).mono (by omega)
    · repeat (refine bS ?_ (by simp <;> omega))
      exact HB4.out
  by_cases h4 : R = 4
  · subst h4
    have HRR : Hid (fbR m p o n = 4) := HR0.out
    have HAA : Hid (fbA m p o n = 0) := HA0.out (.inr rfl)
    have r0x := HO4.out.cell_ 0 (v := .slice none 0 0) rfl
    have r1x := HO4.out.cell_ 1 (v := .slice none 0 0) rfl
    have r2x := HO4.out.cell_ 2 (v := .slice none 0 0) rfl
    have r3x := HO4.out.cell_ 3 (v := .int .i64 0) rfl
    have r4x := HO4.out.cell_ 4 (v := .int .i64 0) rfl
    have r5x := HO4.out.cell_ 5 (v := .int .i64 0) rfl
    have r6x := HO4.out.cell_ 6 (v := .int .i64 0) rfl
    have r7x := HO4.out.cell_ 7 (v := .slice none 0 0) rfl
    have r8x := HO4.out.cell_ 8 (v := .int .i64 0) rfl
    have z0x := HO4.out.free 0
    have z1x := HO4.out.free 1
    have z2x := HO4.out.free 2
    have z3x := HO4.out.free 3
    have z4x := HO4.out.free 4
    have z5x := HO4.out.free 5
    have z6x := HO4.out.free 6
    have z7x := HO4.out.free 7
    have z8x := HO4.out.free 8
    have p0o := HU4.out.cell_ 0 (v := .slice B1 V.t.bs.length d1) rfl
    have p1o := HU4.out.cell_ 1 (v := .slice B2 V.t.fs.length d2) rfl
    have p2o := HU4.out.cell_ 2 (v := .slice B3 V.c.ls.length d3) rfl
    have p3o := HU4.out.cell_ 3 (v := .int .i64 V.c.hand) rfl
    have p4o := HU4.out.cell_ 4 (v := .int .i64 V.g.count) rfl
    have p5o := HU4.out.cell_ 5 (v := .int .i64 V.g.next) rfl
    have p6o := HU4.out.cell_ 6 (v := .int .i64 V.g.round) rfl
    have p7o := HU4.out.cell_ 7 (v := .slice B4 V.g.os.length d4) rfl
    have p8o := HU4.out.cell_ 8 (v := .int .i64 V.sp) rfl
    have hlr := HO4.out.lt
    have hlu := HU4.out.lt
    go_wp2
    have o3 := HO4.out.set9 (.slice B1 V.t.bs.length d1) (.slice B2 V.t.fs.length d2) (.slice B3 V.c.ls.length d3) (.int .i64 V.c.hand) (.int .i64 V.g.count) (.int .i64 V.g.next) (.int .i64 V.g.round) (.slice B4 V.g.os.length d4) (.int .i64 V.sp)
    have p0t := o3.cell_ 0 (v := .slice B1 V.t.bs.length d1) rfl
    have p1t := o3.cell_ 1 (v := .slice B2 V.t.fs.length d2) rfl
    have p2t := o3.cell_ 2 (v := .slice B3 V.c.ls.length d3) rfl
    have p3t := o3.cell_ 3 (v := .int .i64 V.c.hand) rfl
    have p4t := o3.cell_ 4 (v := .int .i64 V.g.count) rfl
    have p5t := o3.cell_ 5 (v := .int .i64 V.g.next) rfl
    have p6t := o3.cell_ 6 (v := .int .i64 V.g.round) rfl
    have p7t := o3.cell_ 7 (v := .slice B4 V.g.os.length d4) rfl
    have p8t := o3.cell_ 8 (v := .int .i64 V.sp) rfl
    refine bodyPost_ret (v := .tuple #[.agg #[.slice B1 V.t.bs.length d1, .slice B2 V.t.fs.length d2, .slice B3 V.c.ls.length d3, .int .i64 V.c.hand, .int .i64 V.g.count, .int .i64 V.g.next, .int .i64 V.g.round, .slice B4 V.g.os.length d4, .int .i64 V.sp], .int .i64 (0), .int .i64 (4), .bool true]) (by simp [results, Tryz.results28, go_sem, p0t, p1t, p2t, p3t, p4t, p5t, p6t, p7t, p8t]) rfl ⟨_, rfl, _, _, _, _, by (rw [HVV.out, HAA.out, HRR.out, HOK.out]) <;> rfl, ?_, ?_⟩
    · rw [HVV.out]
      exact (HM4.out.far9 HO4.out _ _ _ _ _ _ _ _ _).mono (by omega)
    · repeat (refine bS ?_ (by simp <;> omega))
      exact HB4.out
  have HRR : Hid (fbR m p o n = R) := HR0.out
  have HAA : Hid (fbA m p o n = F * 64 + o) := HA1.out (by omega)
  have hw1 : IntKind.i64.wrap (F * 64) = F * 64 := IntWalk.i64_in _ (by omega)
  have hw2 : IntKind.i64.wrap (F * 64 + o) = F * 64 + o := IntWalk.i64_in _ (by omega)
  have h3b : (R == 3) = false := by rw [beq_eq_false_iff_ne]; exact h3
  have h4b : (R == 4) = false := by rw [beq_eq_false_iff_ne]; exact h4
  clear HR0 HA0 HA1 h3 h4
  have r0x := HO4.out.cell_ 0 (v := .slice none 0 0) rfl
  have r1x := HO4.out.cell_ 1 (v := .slice none 0 0) rfl
  have r2x := HO4.out.cell_ 2 (v := .slice none 0 0) rfl
  have r3x := HO4.out.cell_ 3 (v := .int .i64 0) rfl
  have r4x := HO4.out.cell_ 4 (v := .int .i64 0) rfl
  have r5x := HO4.out.cell_ 5 (v := .int .i64 0) rfl
  have r6x := HO4.out.cell_ 6 (v := .int .i64 0) rfl
  have r7x := HO4.out.cell_ 7 (v := .slice none 0 0) rfl
  have r8x := HO4.out.cell_ 8 (v := .int .i64 0) rfl
  have z0x := HO4.out.free 0
  have z1x := HO4.out.free 1
  have z2x := HO4.out.free 2
  have z3x := HO4.out.free 3
  have z4x := HO4.out.free 4
  have z5x := HO4.out.free 5
  have z6x := HO4.out.free 6
  have z7x := HO4.out.free 7
  have z8x := HO4.out.free 8
  have p0o := HU4.out.cell_ 0 (v := .slice B1 V.t.bs.length d1) rfl
  have p1o := HU4.out.cell_ 1 (v := .slice B2 V.t.fs.length d2) rfl
  have p2o := HU4.out.cell_ 2 (v := .slice B3 V.c.ls.length d3) rfl
  have p3o := HU4.out.cell_ 3 (v := .int .i64 V.c.hand) rfl
  have p4o := HU4.out.cell_ 4 (v := .int .i64 V.g.count) rfl
  have p5o := HU4.out.cell_ 5 (v := .int .i64 V.g.next) rfl
  have p6o := HU4.out.cell_ 6 (v := .int .i64 V.g.round) rfl
  have p7o := HU4.out.cell_ 7 (v := .slice B4 V.g.os.length d4) rfl
  have p8o := HU4.out.cell_ 8 (v := .int .i64 V.sp) rfl
  have hlr := HO4.out.lt
  have hlu := HU4.out.lt
  go_wp2
  have o3 := HO4.out.set9 (.slice B1 V.t.bs.length d1) (.slice B2 V.t.fs.length d2) (.slice B3 V.c.ls.length d3) (.int .i64 V.c.hand) (.int .i64 V.g.count) (.int .i64 V.g.next) (.int .i64 V.g.round) (.slice B4 V.g.os.length d4) (.int .i64 V.sp)
  have p0t := o3.cell_ 0 (v := .slice B1 V.t.bs.length d1) rfl
  have p1t := o3.cell_ 1 (v := .slice B2 V.t.fs.length d2) rfl
  have p2t := o3.cell_ 2 (v := .slice B3 V.c.ls.length d3) rfl
  have p3t := o3.cell_ 3 (v := .int .i64 V.c.hand) rfl
  have p4t := o3.cell_ 4 (v := .int .i64 V.g.count) rfl
  have p5t := o3.cell_ 5 (v := .int .i64 V.g.next) rfl
  have p6t := o3.cell_ 6 (v := .int .i64 V.g.round) rfl
  have p7t := o3.cell_ 7 (v := .slice B4 V.g.os.length d4) rfl
  have p8t := o3.cell_ 8 (v := .int .i64 V.sp) rfl
  refine bodyPost_ret (v := .tuple #[.agg #[.slice B1 V.t.bs.length d1, .slice B2 V.t.fs.length d2, .slice B3 V.c.ls.length d3, .int .i64 V.c.hand, .int .i64 V.g.count, .int .i64 V.g.next, .int .i64 V.g.round, .slice B4 V.g.os.length d4, .int .i64 V.sp], .int .i64 (F * 64 + o), .int .i64 (R), .bool true]) (by simp [results, Tryz.results28, go_sem, p0t, p1t, p2t, p3t, p4t, p5t, p6t, p7t, p8t]) rfl ⟨_, rfl, _, _, _, _, by (rw [HVV.out, HAA.out, HRR.out, HOK.out]) <;> rfl, ?_, ?_⟩
  · rw [HVV.out]
    exact (HM4.out.far9 HO4.out _ _ _ _ _ _ _ _ _).mono (by omega)
  · repeat (refine bS ?_ (by simp <;> omega))
    exact HB4.out
set_option maxHeartbeats 4000000 in
theorem FindByte_any (vb vf vl vo : Value) (m : Ma) (p o n : Int) (w : World) (hM : MaR w vb vf vl vo m) (hfree : Free w) :
    Calls Tryz.prog 27 #[.agg #[vb, vf, vl, .int .i64 m.c.hand, .int .i64 m.g.count, .int .i64 m.g.next, .int .i64 m.g.round, vo, .int .i64 m.sp], .int .i64 p, .int .i64 o, .int .i64 n] w (Post2 fun v w' => ∃ v1 v2 v3 v4, v = .tuple #[.agg #[v1, v2, v3, .int .i64 (fbV m p o n).c.hand, .int .i64 (fbV m p o n).g.count, .int .i64 (fbV m p o n).g.next, .int .i64 (fbV m p o n).g.round, v4, .int .i64 (fbV m p o n).sp], .int .i64 (fbA m p o n), .int .i64 (fbR m p o n), .bool (fbO m p o n)] ∧ MaM w.heap.size w' v1 v2 v3 v4 (fbV m p o n) ∧ Below w.heap.size w w') := by
  have HFR := Lib.hid hfree
  clear hfree
  have hbx := (Own.new_ w 34 #[vb, vf, vl, .int .i64 m.c.hand, .int .i64 m.g.count, .int .i64 m.g.next, .int .i64 m.g.round, vo, .int .i64 m.sp]).alloc (o := .cells #[.slice none 0 0, .slice none 0 0, .slice none 0 0, .int .i64 0, .int .i64 0, .int .i64 0, .int .i64 0, .slice none 0 0, .int .i64 0] 34)
  have hbo := ownAt (W := w.alloc (.cells #[vb, vf, vl, .int .i64 m.c.hand, .int .i64 m.g.count, .int .i64 m.g.next, .int .i64 m.g.round, vo, .int .i64 m.sp] 34)) (g := w.heap.size + 1) (t := 34) (cs := #[.slice none 0 0, .slice none 0 0, .slice none 0 0, .int .i64 0, .int .i64 0, .int .i64 0, .int .i64 0, .slice none 0 0, .int .i64 0]) (by simp)
  have hb0 : Below w.heap.size w ((w.alloc (.cells #[vb, vf, vl, .int .i64 m.c.hand, .int .i64 m.g.count, .int .i64 m.g.next, .int .i64 m.g.round, vo, .int .i64 m.sp] 34)).alloc (.cells #[.slice none 0 0, .slice none 0 0, .slice none 0 0, .int .i64 0, .int .i64 0, .int .i64 0, .int .i64 0, .slice none 0 0, .int .i64 0] 34)) := bA (bA bR)
  have hs0 : ((w.alloc (.cells #[vb, vf, vl, .int .i64 m.c.hand, .int .i64 m.g.count, .int .i64 m.g.next, .int .i64 m.g.round, vo, .int .i64 m.sp] 34)).alloc (.cells #[.slice none 0 0, .slice none 0 0, .slice none 0 0, .int .i64 0, .int .i64 0, .int .i64 0, .int .i64 0, .slice none 0 0, .int .i64 0] 34)).heap.size = w.heap.size + 2 := by simp
  generalize hW : (w.alloc (.cells #[vb, vf, vl, .int .i64 m.c.hand, .int .i64 m.g.count, .int .i64 m.g.next, .int .i64 m.g.round, vo, .int .i64 m.sp] 34)).alloc (.cells #[.slice none 0 0, .slice none 0 0, .slice none 0 0, .int .i64 0, .int .i64 0, .int .i64 0, .int .i64 0, .slice none 0 0, .int .i64 0] 34) = W0 at hbx hbo hb0 hs0
  have m0q := hbx.cell_ 0 (v := vb) rfl
  have m1q := hbx.cell_ 1 (v := vf) rfl
  have m2q := hbx.cell_ 2 (v := vl) rfl
  have m3q := hbx.cell_ 3 (v := .int .i64 m.c.hand) rfl
  have m4q := hbx.cell_ 4 (v := .int .i64 m.g.count) rfl
  have m5q := hbx.cell_ 5 (v := .int .i64 m.g.next) rfl
  have m6q := hbx.cell_ 6 (v := .int .i64 m.g.round) rfl
  have m7q := hbx.cell_ 7 (v := vo) rfl
  have m8q := hbx.cell_ 8 (v := .int .i64 m.sp) rfl
  have HX0 := Lib.hid hbx
  have HO0 := Lib.hid hbo
  have HB0 := Lib.hid hb0
  have HM := Lib.hid hM
  clear hbx hbo hb0 hM
  clear m0q m1q m2q m3q m4q m5q m6q m7q m8q
  have HS0 : Hid (w.heap.size + 2 ≤ W0.heap.size) := Nat.le_of_eq hs0.symm
  cases h2 : inR o 64 with
  | false =>
    go_enter Tryz.func27, Tryz.ntmps27
    go_wp2_with fail
    refine (within_any _ _ _).mono ?_
    rintro e w' ⟨rfl, rfl⟩
    rw [h2]
    have HNO : Hid (fbO m p o n = false) := by show _ = _; unfold fbO; rw [h2]; simp
    have HV := Lib.hid (fbO_no HNO.out).1
    have HR := Lib.hid (fbO_no HNO.out).2.1
    have HA := Lib.hid (fbO_no HNO.out).2.2
    have r0x := HO0.out.cell_ 0 (v := .slice none 0 0) rfl
    have r1x := HO0.out.cell_ 1 (v := .slice none 0 0) rfl
    have r2x := HO0.out.cell_ 2 (v := .slice none 0 0) rfl
    have r3x := HO0.out.cell_ 3 (v := .int .i64 0) rfl
    have r4x := HO0.out.cell_ 4 (v := .int .i64 0) rfl
    have r5x := HO0.out.cell_ 5 (v := .int .i64 0) rfl
    have r6x := HO0.out.cell_ 6 (v := .int .i64 0) rfl
    have r7x := HO0.out.cell_ 7 (v := .slice none 0 0) rfl
    have r8x := HO0.out.cell_ 8 (v := .int .i64 0) rfl
    have z0x := HO0.out.free 0
    have z1x := HO0.out.free 1
    have z2x := HO0.out.free 2
    have z3x := HO0.out.free 3
    have z4x := HO0.out.free 4
    have z5x := HO0.out.free 5
    have z6x := HO0.out.free 6
    have z7x := HO0.out.free 7
    have z8x := HO0.out.free 8
    have hlr := HO0.out.lt
    go_wp2
    have o3 := HO0.out.set9 (.slice none 0 0) (.slice none 0 0) (.slice none 0 0) (.int .i64 0) (.int .i64 0) (.int .i64 0) (.int .i64 0) (.slice none 0 0) (.int .i64 0)
    have p0t := o3.cell_ 0 (v := .slice none 0 0) rfl
    have p1t := o3.cell_ 1 (v := .slice none 0 0) rfl
    have p2t := o3.cell_ 2 (v := .slice none 0 0) rfl
    have p3t := o3.cell_ 3 (v := .int .i64 maz.c.hand) rfl
    have p4t := o3.cell_ 4 (v := .int .i64 maz.g.count) rfl
    have p5t := o3.cell_ 5 (v := .int .i64 maz.g.next) rfl
    have p6t := o3.cell_ 6 (v := .int .i64 maz.g.round) rfl
    have p7t := o3.cell_ 7 (v := .slice none 0 0) rfl
    have p8t := o3.cell_ 8 (v := .int .i64 maz.sp) rfl
    refine bodyPost_ret (v := .tuple #[.agg #[.slice none 0 0, .slice none 0 0, .slice none 0 0, .int .i64 0, .int .i64 0, .int .i64 0, .int .i64 0, .slice none 0 0, .int .i64 0], .int .i64 0, .int .i64 0, .bool false]) (by simp [results, Tryz.results27, go_sem, p0t, p1t, p2t, p3t, p4t, p5t, p6t, p7t, p8t, maz, caz, tgz]) rfl ⟨_, rfl, _, _, _, _, by rw [HV.out, HA.out, HR.out, HNO.out]; rfl, by rw [HV.out]; exact mam_z, ?_⟩
    repeat (refine bS ?_ (by simp <;> omega))
    exact HB0.out
  | true =>
  have m00 := HX0.out.cell_ 0 (v := vb) rfl
  have m10 := HX0.out.cell_ 1 (v := vf) rfl
  have m20 := HX0.out.cell_ 2 (v := vl) rfl
  have m30 := HX0.out.cell_ 3 (v := .int .i64 m.c.hand) rfl
  have m40 := HX0.out.cell_ 4 (v := .int .i64 m.g.count) rfl
  have m50 := HX0.out.cell_ 5 (v := .int .i64 m.g.next) rfl
  have m60 := HX0.out.cell_ 6 (v := .int .i64 m.g.round) rfl
  have m70 := HX0.out.cell_ 7 (v := vo) rfl
  have m80 := HX0.out.cell_ 8 (v := .int .i64 m.sp) rfl
  go_enter Tryz.func27, Tryz.ntmps27
  go_wp2_with fail
  refine (within_any _ _ _).mono ?_
  rintro e w' ⟨rfl, rfl⟩
  rw [h2]
  go_wp2_with fail
  refine (TouchPage_any vb vf vl vo m p n _ (HM.out.now HB0.out) (HFR.out.now HB0.out)).mono ?_
  rintro e w1 ⟨_, rfl, q1, q2, q3, q4, rfl, hM1, hb1⟩
  have hM1' := hM1.mono HS0.out
  generalize hTV : tchV m p n = V at *
  obtain ⟨B1, d1, rfl, _⟩ := hM1.t.b
  obtain ⟨B2, d2, rfl, _⟩ := hM1.t.f
  obtain ⟨B3, d3, rfl, _⟩ := hM1.l
  obtain ⟨B4, d4, rfl, _⟩ := hM1.o
  have HO1 := Lib.hid (HO0.out.below hb1)
  have HB1 := Lib.hid (bT HB0.out hb1)
  have HS1 := Lib.hid (Nat.le_trans HS0.out hb1.size)
  have ho4 := Own.new_ w1 34 #[.slice B1 V.t.bs.length d1, .slice B2 V.t.fs.length d2, .slice B3 V.c.ls.length d3, .int .i64 V.c.hand, .int .i64 V.g.count, .int .i64 V.g.next, .int .i64 V.g.round, .slice B4 V.g.os.length d4, .int .i64 V.sp]
  have hb4 : Below w1.heap.size w1 (w1.alloc (.cells #[.slice B1 V.t.bs.length d1, .slice B2 V.t.fs.length d2, .slice B3 V.c.ls.length d3, .int .i64 V.c.hand, .int .i64 V.g.count, .int .i64 V.g.next, .int .i64 V.g.round, .slice B4 V.g.os.length d4, .int .i64 V.sp] 34)) := bA bR
  have hgt : w.heap.size + 2 ≤ w1.heap.size := HS1.out
  generalize hW4 : w1.alloc (.cells #[.slice B1 V.t.bs.length d1, .slice B2 V.t.fs.length d2, .slice B3 V.c.ls.length d3, .int .i64 V.c.hand, .int .i64 V.g.count, .int .i64 V.g.next, .int .i64 V.g.round, .slice B4 V.g.os.length d4, .int .i64 V.sp] 34) = w4 at ho4 hb4
  have HM4 := Lib.hid (hM1'.now hb4)
  have HU4 := Lib.hid ho4
  have HO4 := Lib.hid (HO1.out.below hb4)
  have HB4 := Lib.hid (bT HB1.out hb4)
  clear m00 m10 m20 m30 m40 m50 m60 m70 m80
  clear hM1 hM1' hb1 hb4 ho4
  have HTV := Lib.hid hTV
  clear hTV
  cases h1 : tchO m p n with
  | false =>
    have HNO : Hid (fbO m p o n = false) := by show _ = _; unfold fbO; rw [h1]; rfl
    have HV := Lib.hid (fbO_no HNO.out).1
    have HR := Lib.hid (fbO_no HNO.out).2.1
    have HA := Lib.hid (fbO_no HNO.out).2.2
    have r0x := HO4.out.cell_ 0 (v := .slice none 0 0) rfl
    have r1x := HO4.out.cell_ 1 (v := .slice none 0 0) rfl
    have r2x := HO4.out.cell_ 2 (v := .slice none 0 0) rfl
    have r3x := HO4.out.cell_ 3 (v := .int .i64 0) rfl
    have r4x := HO4.out.cell_ 4 (v := .int .i64 0) rfl
    have r5x := HO4.out.cell_ 5 (v := .int .i64 0) rfl
    have r6x := HO4.out.cell_ 6 (v := .int .i64 0) rfl
    have r7x := HO4.out.cell_ 7 (v := .slice none 0 0) rfl
    have r8x := HO4.out.cell_ 8 (v := .int .i64 0) rfl
    have z0x := HO4.out.free 0
    have z1x := HO4.out.free 1
    have z2x := HO4.out.free 2
    have z3x := HO4.out.free 3
    have z4x := HO4.out.free 4
    have z5x := HO4.out.free 5
    have z6x := HO4.out.free 6
    have z7x := HO4.out.free 7
    have z8x := HO4.out.free 8
    have hlr := HO4.out.lt
    go_wp2
    have o3 := HO4.out.set9 (.slice none 0 0) (.slice none 0 0) (.slice none 0 0) (.int .i64 0) (.int .i64 0) (.int .i64 0) (.int .i64 0) (.slice none 0 0) (.int .i64 0)
    have p0t := o3.cell_ 0 (v := .slice none 0 0) rfl
    have p1t := o3.cell_ 1 (v := .slice none 0 0) rfl
    have p2t := o3.cell_ 2 (v := .slice none 0 0) rfl
    have p3t := o3.cell_ 3 (v := .int .i64 maz.c.hand) rfl
    have p4t := o3.cell_ 4 (v := .int .i64 maz.g.count) rfl
    have p5t := o3.cell_ 5 (v := .int .i64 maz.g.next) rfl
    have p6t := o3.cell_ 6 (v := .int .i64 maz.g.round) rfl
    have p7t := o3.cell_ 7 (v := .slice none 0 0) rfl
    have p8t := o3.cell_ 8 (v := .int .i64 maz.sp) rfl
    refine bodyPost_ret (v := .tuple #[.agg #[.slice none 0 0, .slice none 0 0, .slice none 0 0, .int .i64 0, .int .i64 0, .int .i64 0, .int .i64 0, .slice none 0 0, .int .i64 0], .int .i64 0, .int .i64 0, .bool false]) (by simp [results, Tryz.results27, go_sem, p0t, p1t, p2t, p3t, p4t, p5t, p6t, p7t, p8t, maz, caz, tgz]) rfl ⟨_, rfl, _, _, _, _, by rw [HV.out, HA.out, HR.out, HNO.out]; rfl, by rw [HV.out]; exact mam_z, ?_⟩
    repeat (refine bS ?_ (by simp <;> omega))
    exact HB4.out
  | true =>
  have HOK : Hid (fbO m p o n = true) := by show _ = _; unfold fbO; rw [h1, h2]; rfl
  obtain ⟨hF0, hF1⟩ := tchF_bd h1
  obtain ⟨ho0, ho1⟩ := inR_iff.1 h2
  have HVV : Hid (fbV m p o n = V) := by show _ = _; rw [(fbO_yes HOK.out).1, HTV.out]
  have HR0 := Lib.hid (fbO_yes HOK.out).2
  have HA0 := Lib.hid (fun h => fbA_stop (o := o) (m := m) (p := p) (n := n) h)
  have HA1 := Lib.hid (fun h => fbA_go (m := m) (p := p) (n := n) HOK.out h)
  generalize tchR m p n = R at *
  generalize tchF m p n = F at *
  by_cases h3 : R = 3
  · subst h3
    have HRR : Hid (fbR m p o n = 3) := HR0.out
    have HAA : Hid (fbA m p o n = 0) := HA0.out (.inl rfl)
    have r0x := HO4.out.cell_ 0 (v := .slice none 0 0) rfl
    have r1x := HO4.out.cell_ 1 (v := .slice none 0 0) rfl
    have r2x := HO4.out.cell_ 2 (v := .slice none 0 0) rfl
    have r3x := HO4.out.cell_ 3 (v := .int .i64 0) rfl
    have r4x := HO4.out.cell_ 4 (v := .int .i64 0) rfl
    have r5x := HO4.out.cell_ 5 (v := .int .i64 0) rfl
    have r6x := HO4.out.cell_ 6 (v := .int .i64 0) rfl
    have r7x := HO4.out.cell_ 7 (v := .slice none 0 0) rfl
    have r8x := HO4.out.cell_ 8 (v := .int .i64 0) rfl
    have z0x := HO4.out.free 0
    have z1x := HO4.out.free 1
    have z2x := HO4.out.free 2
    have z3x := HO4.out.free 3
    have z4x := HO4.out.free 4
    have z5x := HO4.out.free 5
    have z6x := HO4.out.free 6
    have z7x := HO4.out.free 7
    have z8x := HO4.out.free 8
    have p0o := HU4.out.cell_ 0 (v := .slice B1 V.t.bs.length d1) rfl
    have p1o := HU4.out.cell_ 1 (v := .slice B2 V.t.fs.length d2) rfl
    have p2o := HU4.out.cell_ 2 (v := .slice B3 V.c.ls.length d3) rfl
    have p3o := HU4.out.cell_ 3 (v := .int .i64 V.c.hand) rfl
    have p4o := HU4.out.cell_ 4 (v := .int .i64 V.g.count) rfl
    have p5o := HU4.out.cell_ 5 (v := .int .i64 V.g.next) rfl
    have p6o := HU4.out.cell_ 6 (v := .int .i64 V.g.round) rfl
    have p7o := HU4.out.cell_ 7 (v := .slice B4 V.g.os.length d4) rfl
    have p8o := HU4.out.cell_ 8 (v := .int .i64 V.sp) rfl
    have hlr := HO4.out.lt
    have hlu := HU4.out.lt
    go_wp2
    have o3 := HO4.out.set9 (.slice B1 V.t.bs.length d1) (.slice B2 V.t.fs.length d2) (.slice B3 V.c.ls.length d3) (.int .i64 V.c.hand) (.int .i64 V.g.count) (.int .i64 V.g.next) (.int .i64 V.g.round) (.slice B4 V.g.os.length d4) (.int .i64 V.sp)
    have p0t := o3.cell_ 0 (v := .slice B1 V.t.bs.length d1) rfl
    have p1t := o3.cell_ 1 (v := .slice B2 V.t.fs.length d2) rfl
    have p2t := o3.cell_ 2 (v := .slice B3 V.c.ls.length d3) rfl
    have p3t := o3.cell_ 3 (v := .int .i64 V.c.hand) rfl
    have p4t := o3.cell_ 4 (v := .int .i64 V.g.count) rfl
    have p5t := o3.cell_ 5 (v := .int .i64 V.g.next) rfl
    have p6t := o3.cell_ 6 (v := .int .i64 V.g.round) rfl
    have p7t := o3.cell_ 7 (v := .slice B4 V.g.os.length d4) rfl
    have p8t := o3.cell_ 8 (v := .int .i64 V.sp) rfl
    refine bodyPost_ret (v := .tuple #[.agg #[.slice B1 V.t.bs.length d1, .slice B2 V.t.fs.length d2, .slice B3 V.c.ls.length d3, .int .i64 V.c.hand, .int .i64 V.g.count, .int .i64 V.g.next, .int .i64 V.g.round, .slice B4 V.g.os.length d4, .int .i64 V.sp], .int .i64 (0), .int .i64 (3), .bool true]) (by simp [results, Tryz.results27, go_sem, p0t, p1t, p2t, p3t, p4t, p5t, p6t, p7t, p8t]) rfl ⟨_, rfl, _, _, _, _, by (rw [HVV.out, HAA.out, HRR.out, HOK.out]) <;> rfl, ?_, ?_⟩
    · rw [HVV.out]
      exact (HM4.out.far9 HO4.out _ _ _ _ _ _ _ _ _).mono (by omega)
    · repeat (refine bS ?_ (by simp <;> omega))
      exact HB4.out
  by_cases h4 : R = 4
  · subst h4
    have HRR : Hid (fbR m p o n = 4) := HR0.out
    have HAA : Hid (fbA m p o n = 0) := HA0.out (.inr rfl)
    have r0x := HO4.out.cell_ 0 (v := .slice none 0 0) rfl
    have r1x := HO4.out.cell_ 1 (v := .slice none 0 0) rfl
    have r2x := HO4.out.cell_ 2 (v := .slice none 0 0) rfl
    have r3x := HO4.out.cell_ 3 (v := .int .i64 0) rfl
    have r4x := HO4.out.cell_ 4 (v := .int .i64 0) rfl
    have r5x := HO4.out.cell_ 5 (v := .int .i64 0) rfl
    have r6x := HO4.out.cell_ 6 (v := .int .i64 0) rfl
    have r7x := HO4.out.cell_ 7 (v := .slice none 0 0) rfl
    have r8x := HO4.out.cell_ 8 (v := .int .i64 0) rfl
    have z0x := HO4.out.free 0
    have z1x := HO4.out.free 1
    have z2x := HO4.out.free 2
    have z3x := HO4.out.free 3
    have z4x := HO4.out.free 4
    have z5x := HO4.out.free 5
    have z6x := HO4.out.free 6
    have z7x := HO4.out.free 7
    have z8x := HO4.out.free 8
    have p0o := HU4.out.cell_ 0 (v := .slice B1 V.t.bs.length d1) rfl
    have p1o := HU4.out.cell_ 1 (v := .slice B2 V.t.fs.length d2) rfl
    have p2o := HU4.out.cell_ 2 (v := .slice B3 V.c.ls.length d3) rfl
    have p3o := HU4.out.cell_ 3 (v := .int .i64 V.c.hand) rfl
    have p4o := HU4.out.cell_ 4 (v := .int .i64 V.g.count) rfl
    have p5o := HU4.out.cell_ 5 (v := .int .i64 V.g.next) rfl
    have p6o := HU4.out.cell_ 6 (v := .int .i64 V.g.round) rfl
    have p7o := HU4.out.cell_ 7 (v := .slice B4 V.g.os.length d4) rfl
    have p8o := HU4.out.cell_ 8 (v := .int .i64 V.sp) rfl
    have hlr := HO4.out.lt
    have hlu := HU4.out.lt
    go_wp2
    have o3 := HO4.out.set9 (.slice B1 V.t.bs.length d1) (.slice B2 V.t.fs.length d2) (.slice B3 V.c.ls.length d3) (.int .i64 V.c.hand) (.int .i64 V.g.count) (.int .i64 V.g.next) (.int .i64 V.g.round) (.slice B4 V.g.os.length d4) (.int .i64 V.sp)
    have p0t := o3.cell_ 0 (v := .slice B1 V.t.bs.length d1) rfl
    have p1t := o3.cell_ 1 (v := .slice B2 V.t.fs.length d2) rfl
    have p2t := o3.cell_ 2 (v := .slice B3 V.c.ls.length d3) rfl
    have p3t := o3.cell_ 3 (v := .int .i64 V.c.hand) rfl
    have p4t := o3.cell_ 4 (v := .int .i64 V.g.count) rfl
    have p5t := o3.cell_ 5 (v := .int .i64 V.g.next) rfl
    have p6t := o3.cell_ 6 (v := .int .i64 V.g.round) rfl
    have p7t := o3.cell_ 7 (v := .slice B4 V.g.os.length d4) rfl
    have p8t := o3.cell_ 8 (v := .int .i64 V.sp) rfl
    refine bodyPost_ret (v := .tuple #[.agg #[.slice B1 V.t.bs.length d1, .slice B2 V.t.fs.length d2, .slice B3 V.c.ls.length d3, .int .i64 V.c.hand, .int .i64 V.g.count, .int .i64 V.g.next, .int .i64 V.g.round, .slice B4 V.g.os.length d4, .int .i64 V.sp], .int .i64 (0), .int .i64 (4), .bool true]) (by simp [results, Tryz.results27, go_sem, p0t, p1t, p2t, p3t, p4t, p5t, p6t, p7t, p8t]) rfl ⟨_, rfl, _, _, _, _, by (rw [HVV.out, HAA.out, HRR.out, HOK.out]) <;> rfl, ?_, ?_⟩
    · rw [HVV.out]
      exact (HM4.out.far9 HO4.out _ _ _ _ _ _ _ _ _).mono (by omega)
    · repeat (refine bS ?_ (by simp <;> omega))
      exact HB4.out
  have HRR : Hid (fbR m p o n = R) := HR0.out
  have HAA : Hid (fbA m p o n = F * 64 + o) := HA1.out (by omega)
  have hw1 : IntKind.i64.wrap (F * 64) = F * 64 := IntWalk.i64_in _ (by omega)
  have hw2 : IntKind.i64.wrap (F * 64 + o) = F * 64 + o := IntWalk.i64_in _ (by omega)
  have h3b : (R == 3) = false := by rw [beq_eq_false_iff_ne]; exact h3
  have h4b : (R == 4) = false := by rw [beq_eq_false_iff_ne]; exact h4
  clear HR0 HA0 HA1 h3 h4
  have r0x := HO4.out.cell_ 0 (v := .slice none 0 0) rfl
  have r1x := HO4.out.cell_ 1 (v := .slice none 0 0) rfl
  have r2x := HO4.out.cell_ 2 (v := .slice none 0 0) rfl
  have r3x := HO4.out.cell_ 3 (v := .int .i64 0) rfl
  have r4x := HO4.out.cell_ 4 (v := .int .i64 0) rfl
  have r5x := HO4.out.cell_ 5 (v := .int .i64 0) rfl
  have r6x := HO4.out.cell_ 6 (v := .int .i64 0) rfl
  have r7x := HO4.out.cell_ 7 (v := .slice none 0 0) rfl
  have r8x := HO4.out.cell_ 8 (v := .int .i64 0) rfl
  have z0x := HO4.out.free 0
  have z1x := HO4.out.free 1
  have z2x := HO4.out.free 2
  have z3x := HO4.out.free 3
  have z4x := HO4.out.free 4
  have z5x := HO4.out.free 5
  have z6x := HO4.out.free 6
  have z7x := HO4.out.free 7
  have z8x := HO4.out.free 8
  have p0o := HU4.out.cell_ 0 (v := .slice B1 V.t.bs.length d1) rfl
  have p1o := HU4.out.cell_ 1 (v := .slice B2 V.t.fs.length d2) rfl
  have p2o := HU4.out.cell_ 2 (v := .slice B3 V.c.ls.length d3) rfl
  have p3o := HU4.out.cell_ 3 (v := .int .i64 V.c.hand) rfl
  have p4o := HU4.out.cell_ 4 (v := .int .i64 V.g.count) rfl
  have p5o := HU4.out.cell_ 5 (v := .int .i64 V.g.next) rfl
  have p6o := HU4.out.cell_ 6 (v := .int .i64 V.g.round) rfl
  have p7o := HU4.out.cell_ 7 (v := .slice B4 V.g.os.length d4) rfl
  have p8o := HU4.out.cell_ 8 (v := .int .i64 V.sp) rfl
  have hlr := HO4.out.lt
  have hlu := HU4.out.lt
  go_wp2
  have o3 := HO4.out.set9 (.slice B1 V.t.bs.length d1) (.slice B2 V.t.fs.length d2) (.slice B3 V.c.ls.length d3) (.int .i64 V.c.hand) (.int .i64 V.g.count) (.int .i64 V.g.next) (.int .i64 V.g.round) (.slice B4 V.g.os.length d4) (.int .i64 V.sp)
  have p0t := o3.cell_ 0 (v := .slice B1 V.t.bs.length d1) rfl
  have p1t := o3.cell_ 1 (v := .slice B2 V.t.fs.length d2) rfl
  have p2t := o3.cell_ 2 (v := .slice B3 V.c.ls.length d3) rfl
  have p3t := o3.cell_ 3 (v := .int .i64 V.c.hand) rfl
  have p4t := o3.cell_ 4 (v := .int .i64 V.g.count) rfl
  have p5t := o3.cell_ 5 (v := .int .i64 V.g.next) rfl
  have p6t := o3.cell_ 6 (v := .int .i64 V.g.round) rfl
  have p7t := o3.cell_ 7 (v := .slice B4 V.g.os.length d4) rfl
  have p8t := o3.cell_ 8 (v := .int .i64 V.sp) rfl
  refine bodyPost_ret (v := .tuple #[.agg #[.slice B1 V.t.bs.length d1, .slice B2 V.t.fs.length d2, .slice B3 V.c.ls.length d3, .int .i64 V.c.hand, .int .i64 V.g.count, .int .i64 V.g.next, .int .i64 V.g.round, .slice B4 V.g.os.length d4, .int .i64 V.sp], .int .i64 (F * 64 + o), .int .i64 (R), .bool true]) (by simp [results, Tryz.results27, go_sem, p0t, p1t, p2t, p3t, p4t, p5t, p6t, p7t, p8t]) rfl ⟨_, rfl, _, _, _, _, by (rw [HVV.out, HAA.out, HRR.out, HOK.out]) <;> rfl, ?_, ?_⟩
  · rw [HVV.out]
    exact (HM4.out.far9 HO4.out _ _ _ _ _ _ _ _ _).mono (by omega)
  · repeat (refine bS ?_ (by simp <;> omega))
    exact HB4.out
end Go.Proofs.YtnaagdmaggdbmaaGreatDoor
