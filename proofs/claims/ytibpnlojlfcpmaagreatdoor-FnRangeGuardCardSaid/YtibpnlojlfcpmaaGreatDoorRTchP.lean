/- A part of the proofs of this seat: Draw2, GdS, Sz, TchP, TchS, TkS, WpP. -/
import Derived.Test.YtibpnlojlfcpmaaGreatDoorRFilS
import Derived.Test.YtibpnlojlfcpmaaGreatDoorRUnmS
set_option linter.unusedVariables false
set_option linter.unusedSimpArgs false
set_option maxRecDepth 1000000
namespace Go.Proofs.YtibpnlojlfcpmaaGreatDoor
open Go.RowKit
def tln (m : Ma) (p fr : Int) : Ln := ⟨true, tagT m m.sp p, p, fr, (m.t.fs.getD fr.toNat frz).r, false⟩
theorem MV.fill {m : Ma} (M : MV m) {p : Int} (hp : inR p 256 = true) (hmiss : ¬ 0 ≤ plcI m.c.ls (tagT m m.sp p) p) {k : Nat} (hf : fnd m.t.fs (keyI m.sp p) p = some k) :
  filOK m.c (tln m p k) = true ∧ mav { m with c := filC m.c (tln m p k) } = true := by
 obtain ⟨f, ef, hu, hfk⟩ := fnd_some hf
 obtain ⟨htag, hsp⟩ := M.tag p
 have hkl := (List.getElem?_eq_some_iff.1 ef).1
 have hr : (m.t.fs.getD (k : Int).toNat frz).r = f.r := by rw [Int.toNat_natCast, getD_at ef]
 have hfr := M.t.ok k f ef
 unfold frok at hfr
 rw [hu, if_pos rfl, Bool.and_eq_true] at hfr
 have hl : lnok (tln m p k) = true := by
  unfold lnok tln
  simp only [if_true, Bool.and_eq_true]
  refine ⟨⟨⟨tagT_ok M.g _ _, hp⟩, inR_iff.2 ⟨by omega, ?_⟩⟩, by rw [hr]; exact hfr.2⟩
  have := M.t.sz
  omega
 have hcl : ∀ (i : Nat) (y : Ln), m.c.ls[i]? = some y → clash (tln m p k) y = false := by
  intro i y e
  refine bool_ff fun h => ?_
  unfold clash tln at h
  simp only [Bool.and_eq_true, Bool.or_eq_true, decide_eq_true_eq] at h
  obtain ⟨⟨⟨_, hv⟩, hyp⟩, ht⟩ := h
  have hfit : fits (tagT m m.sp p) p y = true := by
   refine fits_iff.2 ⟨hv, hyp.symm, ?_⟩
   rcases ht with (ht | ht) | ht
   ·exact .inl ht.symm
   ·obtain ⟨_, _, _, _, _, _, h5, _⟩ := lnM_some hv (M.l i y e)
    exact .inr (h5.1 (by rw [← hyp]; exact htag.2 ht))
   ·exact .inr ht
  rw [plcI_none hmiss e] at hfit
  cases hfit
 have hcv := M.c.fill hl rfl hcl
 refine ⟨?_, ?_⟩
 ·unfold filOK
  rw [cav_CV.2 M.c, hl, cav_CV.2 hcv, show (tln m p k).t = tagT m m.sp p from rfl, show (tln m p k).p = p from rfl, decide_eq_false hmiss]
  rfl
 ·refine mav_MV.2 ⟨M.t, hcv, M.g, M.o, M.f, fun i x hi => ?_⟩
  simp only [filC] at hi
  rw [List.getElem?_set] at hi
  have hvi := vic_in M.c
  split at hi
  ·injection hi with hi
   rw [← hi]
   obtain ⟨s, hs1, hs2⟩ := hsp (tln m p k) rfl rfl
   exact lnM_mk (m := { m with c := filC m.c (tln m p k) }) (s := s) (i := k) hs1 (by show fnd m.t.fs (keyI s p) p = some k; rw [hs2]; exact hf) rfl (by show (m.t.fs.getD k frz).r = (m.t.fs.getD (k : Int).toNat frz).r; rw [Int.toNat_natCast]) htag (fun h => by cases h)
  ·exact M.l i x hi
def tchO (m : Ma) (p n : Int) : Bool := mav m && inR p 256 && inR n 8
def tchH (m : Ma) (p : Int) : Int := plcI m.c.ls (tagT m m.sp p) p
def tchK (m : Ma) (p : Int) : Int := fndI m.t.fs (keyI m.sp p) p
def tchFr (m : Ma) (p : Int) : Int := if 0 ≤ tchH m p then (m.c.ls.getD (tchH m p).toNat lnz).f else if 0 ≤ tchK m p then tchK m p else 0
def tchV (m : Ma) (p n : Int) : Ma := if tchO m p n = true then (if 0 ≤ tchH m p then m else if 0 ≤ tchK m p then { m with c := filC m.c (tln m p (tchK m p)) } else m) else maz
def tchF (m : Ma) (p n : Int) : Int := if tchO m p n = true then tchFr m p else 0
def tchA (m : Ma) (p n : Int) : Bool := alw (m.t.fs.getD (tchFr m p).toNat frz).r n
def tchR (m : Ma) (p n : Int) : Int := if tchO m p n = true then (if 0 ≤ tchH m p then (if tchA m p n = true then 1 else 4) else if 0 ≤ tchK m p then (if tchA m p n = true then 2 else 4) else 3) else 0
theorem tchO_no {m : Ma} {p n : Int} (h : tchO m p n = false) : tchV m p n = maz ∧ tchF m p n = 0 ∧ tchR m p n = 0 := by
 unfold tchV tchF tchR
 rw [h]
 exact ⟨rfl, rfl, rfl⟩
theorem fndI_fnd {fs : List Fr} {s p : Int} (h : 0 ≤ fndI fs s p) : ∃ k : Nat, fndI fs s p = (k : Int) ∧ fnd fs s p = some k := by
 unfold fndI at h ⊢
 cases e : fnd fs s p with
 | none => rw [e] at h; simp at h
 | some i => exact ⟨i, rfl, rfl⟩
theorem tchO_parts {m : Ma} {p n : Int} (h : tchO m p n = true) : MV m ∧ inR p 256 = true ∧ inR n 8 = true := by
 unfold tchO at h
 simp only [Bool.and_eq_true] at h
 exact ⟨mav_MV.1 h.1.1, h.1.2, h.2⟩
theorem mav_tch {m : Ma} {p n : Int} (h : tchO m p n = true) : mav (tchV m p n) = true := by
 obtain ⟨M, hp, hn⟩ := tchO_parts h
 unfold tchV
 rw [if_pos h]
 split
 ·exact mav_MV.2 M
 ·rename_i h1
  split
  ·rename_i h2
   obtain ⟨k, hk, hf⟩ := fndI_fnd (show 0 ≤ fndI m.t.fs (keyI m.sp p) p from h2)
   have := (M.fill hp h1 hf).2
   rw [show tchK m p = (k : Int) from hk]
   exact this
  ·exact mav_MV.2 M
theorem MV.hit {m : Ma} (M : MV m) {p : Int} (h : 0 ≤ tchH m p) : ∃ (k i : Nat) (x : Ln) (f : Fr), tchH m p = (k : Int) ∧ m.c.ls[k]? = some x ∧ x.f = (i : Int) ∧ m.t.fs[i]? = some f ∧ f.used = true ∧ f.r = x.r ∧ tchFr m p = (i : Int) ∧ fnd m.t.fs (keyI m.sp p) p = some i := by
 obtain ⟨k, x, hk, ex, hx⟩ := plcI_lt (show 0 ≤ plcI m.c.ls (tagT m m.sp p) p from h)
 obtain ⟨h1, h2, h3⟩ := fits_iff.1 hx
 obtain ⟨s, i, a1, a2, a3, a4, a5, a6⟩ := lnM_some h1 (M.l k x ex)
 obtain ⟨f, ef, hu, hfk⟩ := fnd_some a2
 rw [getD_at ef] at a4
 have hkk : tchH m p = (k : Int) := hk
 refine ⟨k, i, x, f, hkk, ex, a3.symm, ef, hu, a4, ?_, ?_⟩
 ·unfold tchFr
  rw [if_pos h, hkk, Int.toNat_natCast, List.getD_eq_getElem?_getD, ex]
  exact a3.symm
 ·rw [← h2]
  have hks : keyI s x.p = keyI m.sp x.p := by
   by_cases h128 : 128 ≤ x.p
   ·unfold keyI; rw [if_pos h128, if_pos h128]
   ·rcases h3 with h3 | h3
    ·obtain ⟨s', hs1, hs2⟩ := (M.tag p).2 x h2 h3
     rw [a1] at hs1
     injection hs1 with hs1
     rw [hs1, h2]; exact hs2
    ·exact absurd (a5.2 h3) h128
  rw [← hks]; exact a2
def wpC (m : Ma) (p : Int) : Ca := (tchV m p 0).c
def wpI (m : Ma) (p : Int) : Int := plcI (wpC m p).ls (-1) p
def wpO (m : Ma) (p : Int) : Bool := tchO m p 0 && !decide (tchR m p 0 = 3) && decide (128 ≤ p) && wirOK (wpC m p) (wpI m p) true
def wpV (m : Ma) (p : Int) : Ma := if wpO m p = true then { tchV m p 0 with c := wirC (wpC m p) (wpI m p) true } else maz
theorem wpO_no {m : Ma} {p : Int} (h : wpO m p = false) : wpV m p = maz := by unfold wpV; rw [h]; rfl
theorem mav_wire {m : Ma} {p : Int} (h : wpO m p = true) : mav (wpV m p) = true := by
 have hV : wpV m p = { tchV m p 0 with c := wirC (wpC m p) (wpI m p) true } := by unfold wpV; rw [if_pos h]
 unfold wpO at h
 simp only [Bool.and_eq_true, decide_eq_true_eq] at h
 obtain ⟨⟨⟨h1, _⟩, h3⟩, h4⟩ := h
 have M := mav_MV.1 (mav_tch h1)
 unfold wirOK at h4
 simp only [Bool.and_eq_true] at h4
 obtain ⟨⟨⟨_, hin⟩, hvv⟩, hc⟩ := h4
 obtain ⟨hi0, hi1⟩ := inR_iff.1 hin
 obtain ⟨k, x, hk, ex, hx⟩ := plcI_lt (show 0 ≤ plcI (wpC m p).ls (-1) p from hi0)
 have hwi : wpI m p = (k : Int) := hk
 obtain ⟨hxv, hxp, hxt⟩ := fits_iff.1 hx
 have hwc : wirC (wpC m p) (wpI m p) true = ⟨(wpC m p).ls.set k { x with w := true }, (wpC m p).hand⟩ := by
  unfold wirC
  rw [hwi, Int.toNat_natCast, List.getD_eq_getElem?_getD, ex]
  rfl
 rw [hwc] at hc
 rw [hV, hwc]
 refine mav_MV.2 ⟨M.t, cav_CV.1 hc, M.g, M.o, M.f, fun i y hi => ?_⟩
 simp only at hi
 rw [List.getElem?_set] at hi
 split at hi
 ·split at hi
  ·injection hi with hi
   rw [← hi]
   obtain ⟨s, j, b1, b2, b3, b4, b5, b6⟩ := lnM_some hxv (M.l k x ex)
   exact lnM_mk (m := { tchV m p 0 with c := ⟨(wpC m p).ls.set k { x with w := true }, (wpC m p).hand⟩ }) (s := s) (i := j) b1 b2 b3 b4 b5 (fun _ => by show 128 ≤ x.p; rw [hxp]; exact h3)
  ·cases hi
 ·exact M.l i y hi
theorem byte_info : (Tryz.prog.info? 5).map (fun i => (i.zero, i.size, i.bytes)) = some (some (.int .u8 0), 1, 1) := by kernel_rfl
theorem rdr_alloc {B : Nat} {w : World} {g p : Nat} (h : Rdr B w g p) (o : Obj) : Rdr B (w.alloc o) g p := rdr_grown h (World.grownBy_alloc w o none)
def Numbered (zs : List Int) (B : Nat) (w : World) (g p : Nat) (e : Ending) (w' : World) : Prop :=
 ∃ r : Int, e = .returned (.int .i64 r) ∧ r ∈ zs ∧ Rdr B w' g (p + 1) ∧ w.grownBy w' (some g)
set_option maxRecDepth 100000 in
theorem num_any (B g p g2 : Nat) (zs : List Int) (w : World) (h : Rdr B w g p) (hz : Own w g2 3 (zs.map (Value.int .i64)).toArray) (hne : g2 ≠ g) (hp : p ≤ 1000000) (h1 : 1 ≤ zs.length) (h2 : zs.length ≤ 1000) :
  Calls Tryz.prog 72 #[.pointer (some ⟨g, 0, none⟩), .slice (some ⟨g2, 0, none⟩) zs.length zs.length] w (Numbered zs B w g p) := by
 have HZ := Hd hz
 clear hz
 go_enter Tryz.func72, Tryz.ntmps72
 go_wp2_with fail
 refine (pick_any B g p zs.length w h hp (by omega)).mono ?_
 rintro e w1 ⟨r, rfl, hr0, hr1, hrd, hg⟩
 obtain ⟨i, rfl⟩ := Int.eq_ofNat_of_zero_le hr0
 have hi : i < zs.length := by have := hr1 (by omega); omega
 have hi2 : (i : Int) < (zs.length : Int) := by omega
 have hc : w1.cell? ⟨g2, i, none⟩ = some (.int .i64 zs[i]) := hg.cell (HZ.out.cell_ i (by simp [hi])) (by simp; omega)
 have hm : Hid (zs[i] ∈ zs) := List.getElem_mem hi
 generalize zs[i] = z at hc hm
 clear hr1
 have HRD := Hd hrd
 have HG := Hd hg
 clear hrd hg
 go_wp2
 go_ret
 exact ⟨_, rfl, hm.out, HRD.out, HG.out⟩
structure Sz (k : Nat) (m : Ma) : Prop where
 b1 : 1 ≤ m.t.bs.length
 b : m.t.bs.length ≤ k
 f : m.t.fs.length ≤ k
 l : m.c.ls.length ≤ k
 o : m.g.os.length ≤ k
theorem Sz.up {k k' : Nat} {m : Ma} (h : Sz k m) (hk : k ≤ k') : Sz k' m := ⟨h.b1, Nat.le_trans h.b hk, Nat.le_trans h.f hk, Nat.le_trans h.l hk, Nat.le_trans h.o hk⟩
theorem Sz.of {m : Ma} (h : mav m = true) : Sz 16 m := by
 obtain ⟨h1, h2, h3, _⟩ := mav_parts h
 have a := (tv_parts h1).1
 have b := cav_parts h2
 have c := tgv_parts h3
 have d := tok_len c.2 c.1.2.2.1
 exact ⟨by omega, by omega, by omega, by omega, by omega⟩
def Drawn (B k : Nat) (w : World) (g p n : Nat) (v : Value) (w' : World) : Prop :=
 ∃ (m : Ma) (v1 v2 v3 v4 : Value) (q : Nat), v = .agg #[v1, v2, v3, .int .i64 m.c.hand, .int .i64 m.g.count, .int .i64 m.g.next, .int .i64 m.g.round, v4, .int .i64 m.sp] ∧ MaM B w' v1 v2 v3 v4 m ∧ Sz k m ∧ Rdr B w' g q ∧ q ≤ p + n ∧ w.grownBy w' (some g)
set_option maxHeartbeats 4000000 in
theorem l6Fill_any (vb vf vl vo : Value) (m : Ma) (p : Int) (k : Nat) (w : World) (hM : MaR w vb vf vl vo m) (hm : mav m = true) (hk : k < m.t.fs.length) (hok : filOK m.c (tln m p k) = true) :
  Calls Tryz.prog 230 #[.agg #[vb, vf, vl, .int .i64 m.c.hand, .int .i64 m.g.count, .int .i64 m.g.next, .int .i64 m.g.round, vo, .int .i64 m.sp], .int .i64 p, .int .i64 k, .int .i64 (tagT m m.sp p)] w (Post2 fun v w' => ∃ v1 v2 v3 v4, v = .tuple #[.agg #[v1, v2, v3, .int .i64 ({ m with c := filC m.c (tln m p k) } : Ma).c.hand, .int .i64 ({ m with c := filC m.c (tln m p k) } : Ma).g.count, .int .i64 ({ m with c := filC m.c (tln m p k) } : Ma).g.next, .int .i64 ({ m with c := filC m.c (tln m p k) } : Ma).g.round, v4, .int .i64 ({ m with c := filC m.c (tln m p k) } : Ma).sp], .int .i64 (vic m.c)] ∧ MaM w.heap.size w' v1 v2 v3 v4 { m with c := filC m.c (tln m p k) } ∧ Below w.heap.size w w') := by
 obtain ⟨a1, a2, a3, a4⟩ := mav_len hm
 obtain ⟨W0, hW, hbx, hbo, hb0, hs0⟩ := box2 w #[vb, vf, vl, .int .i64 m.c.hand, .int .i64 m.g.count, .int .i64 m.g.next, .int .i64 m.g.round, vo, .int .i64 m.sp] 48 #[.slice none 0 0, .slice none 0 0, .slice none 0 0, .int .i64 0, .int .i64 0, .int .i64 0, .int .i64 0, .slice none 0 0, .int .i64 0] 48
 obtain ⟨m0q, m1q, m2q, m3q, m4q, m5q, m6q, m7q, m8q⟩ := cells9 hbx
 have HX0 := Hd hbx
 have HO0 := Hd hbo
 have HB0 := Hd hb0
 have HM := Hd hM
 clear hbx hbo hb0 hM
 clear m0q m1q m2q m3q m4q m5q m6q m7q m8q
 go_enter Tryz.func230, Tryz.ntmps230
 obtain ⟨m00, m10, m20, m30, m40, m50, m60, m70, m80⟩ := cells9 HX0.out
 go_wp2_with fail
 refine (l6Copy_any vb vf vl vo m _ (HM.out.now HB0.out) a1 a2 a3 a4).mono ?_
 rintro e w3 ⟨_, rfl, q1, q2, q3, q4, rfl, hM3, hb3⟩
 have hM3' := hM3.mono (B' := w.heap.size + 2) (Nat.le_of_eq hs0.symm)
 have hs3 : w.heap.size + 2 ≤ w3.heap.size := Nat.le_trans (Nat.le_of_eq hs0.symm) hb3.size
 obtain ⟨B1, d1, rfl, _⟩ := hM3.t.b
 obtain ⟨B2, d2, rfl, _⟩ := hM3.t.f
 obtain ⟨B3, d3, rfl, _⟩ := hM3.l
 obtain ⟨B4, d4, rfl, _⟩ := hM3.o
 have HX3 := Hd (HX0.out.below hb3)
 have HR3 := Hd (HO0.out.below hb3)
 have HB3 := Hd (bT HB0.out hb3)
 clear m00 m10 m20 m30 m40 m50 m60 m70 m80
 have ho4 := Own.new_ w3 48 #[.slice B1 m.t.bs.length d1, .slice B2 m.t.fs.length d2, .slice B3 m.c.ls.length d3, .int .i64 m.c.hand, .int .i64 m.g.count, .int .i64 m.g.next, .int .i64 m.g.round, .slice B4 m.g.os.length d4, .int .i64 m.sp]
 have hb4 : Below w3.heap.size w3 (w3.alloc (.cells #[.slice B1 m.t.bs.length d1, .slice B2 m.t.fs.length d2, .slice B3 m.c.ls.length d3, .int .i64 m.c.hand, .int .i64 m.g.count, .int .i64 m.g.next, .int .i64 m.g.round, .slice B4 m.g.os.length d4, .int .i64 m.sp] 48)) := bA bR
 generalize hW4 : w3.alloc (.cells #[.slice B1 m.t.bs.length d1, .slice B2 m.t.fs.length d2, .slice B3 m.c.ls.length d3, .int .i64 m.c.hand, .int .i64 m.g.count, .int .i64 m.g.next, .int .i64 m.g.round, .slice B4 m.g.os.length d4, .int .i64 m.sp] 48) = w4 at ho4 hb4
 have HM4 := Hd (hM3'.now hb4)
 have HO4 := Hd ho4
 have HX4 := Hd (HX3.out.below hb4)
 have HR4 := Hd (HR3.out.below hb4)
 have HB4 := Hd (bT HB3.out hb4)
 have hs4 := hb4.size
 clear hM3 hM3' ho4 hb3 hb4
 obtain ⟨f, ef⟩ : ∃ f, m.t.fs[k]? = some f := ⟨_, List.getElem?_eq_getElem hk⟩
 have HTL : Hid (tln m p k = ⟨true, tagT m m.sp p, p, k, f.r, false⟩) := by show _ = _; unfold tln; rw [Int.toNat_natCast, getD_at ef]
 obtain ⟨Af, cf, rfl, hfc, hfm, hF⟩ := HM.out.t.f
 obtain ⟨bf, of, rfl, hbf, y0, y1, y2, y3, y4⟩ := (hF.now (Nat.le_refl _) HB4.out).fr ef
 have m04 := HX4.out.cell_ 0 (v := vb) rfl
 have m14 := HX4.out.cell_ 1 (v := .slice (some ⟨bf, of, none⟩) m.t.fs.length cf) rfl
 have m24 := HX4.out.cell_ 2 (v := vl) rfl
 have m34 := HX4.out.cell_ 3 (v := .int .i64 m.c.hand) rfl
 have hlx := HX4.out.lt
 have hlo := HO4.out.lt
 clear y0 y1 y2 y4 ef hF
 go_wp2_with fail
 have hox := Own.new_ w4 129 #[.bool true, .int .i64 (tagT m m.sp p), .int .i64 p, .int .i64 k, .int .i64 f.r, .bool false]
 have hb5 : Below w4.heap.size w4 (w4.alloc (.cells #[.bool true, .int .i64 (tagT m m.sp p), .int .i64 p, .int .i64 k, .int .i64 f.r, .bool false] 129)) := bA bR
 generalize hW5 : w4.alloc (.cells #[.bool true, .int .i64 (tagT m m.sp p), .int .i64 p, .int .i64 k, .int .i64 f.r, .bool false] 129) = w5 at hox hb5 ⊢
 have HM5 := Hd (HM4.out.now hb5)
 have HO5 := Hd (HO4.out.below hb5)
 have HX5 := Hd (HX4.out.below hb5)
 have HR5 := Hd (HR4.out.below hb5)
 have HB5 := Hd (bT HB4.out hb5)
 have hs5 := hb5.size
 have HFL := Hd (sFillLine_any vl m.c (tln m p k) w5 (HM.out.l.now HB5.out))
 rw [filOK_true hok, hok, show filA m.c (tln m p k) = vic m.c by unfold filA; rw [hok, if_pos rfl]] at HFL
 clear hb5 hox
 have HFL2 := HFL.out
 rw [show lnV (tln m p k) = .agg #[.bool true, .int .i64 (tagT m m.sp p), .int .i64 p, .int .i64 k, .int .i64 f.r, .bool false] by unfold lnV; rw [HTL.out]] at HFL2
 have HFL := Hd HFL2
 clear HFL2
 generalize hVC : filC m.c (tln m p k) = V at *
 refine HFL.out.mono ?_
 rintro e w6 ⟨_, rfl, v1, rfl, hL6, hb6⟩
 obtain ⟨B5, d5, rfl, hx5, hy5, hz5⟩ := hL6
 have ho7 := Own.new_ w6 43 #[.slice B5 V.ls.length d5, .int .i64 V.hand]
 have hb7 : Below w6.heap.size w6 (w6.alloc (.cells #[.slice B5 V.ls.length d5, .int .i64 V.hand] 43)) := bA bR
 have HL6 : Hid (SlM lnE 129 w5.heap.size w6 (.slice B5 V.ls.length d5) V.ls) := ⟨B5, d5, rfl, hx5, hy5, hz5⟩
 generalize hW7 : w6.alloc (.cells #[.slice B5 V.ls.length d5, .int .i64 V.hand] 43) = w7 at ho7 hb7
 have HM7 := Hd (HM5.out.now (bT hb6 hb7))
 have HO7 := Hd (HO5.out.below (bT hb6 hb7))
 have HR7 := Hd (HR5.out.below (bT hb6 hb7))
 have HB7 := Hd (bT HB5.out (bT hb6 hb7))
 have HL7 := Hd ((HL6.out.now hb7).mono (show w.heap.size + 2 ≤ w5.heap.size by omega))
 have HC7 := Hd ho7
 clear ho7 HL6 hb6 hb7 m04 m14 m24 m34 y3 HFL
 have c0 := HC7.out.cell_ 0 (v := .slice B5 V.ls.length d5) rfl
 have c1 := HC7.out.cell_ 1 (v := .int .i64 V.hand) rfl
 have hlc := HC7.out.lt
 obtain ⟨r0x, r1x, r2x, r3x, r4x, r5x, r6x, r7x, r8x⟩ := cells9 HR7.out
 obtain ⟨z0x, z1x, z2x, z3x, z4x, z5x, z6x, z7x, z8x⟩ := free9 HR7.out
 obtain ⟨p0o, p1o, p2o, p3o, p4o, p5o, p6o, p7o, p8o⟩ := cells9 HO7.out
 have g2 := HO7.out.free 2
 have g3 := HO7.out.free 3
 have hlr := HR7.out.lt
 have hlo7 := HO7.out.lt
 have hrn : w.heap.size + 1 ≠ w3.heap.size := by omega
 have hrm : w3.heap.size ≠ w.heap.size + 1 := by omega
 have hcn : w6.heap.size ≠ w3.heap.size := HC7.out.ne HO7.out (by decide)
 have hcm : w3.heap.size ≠ w6.heap.size := fun h => hcn h.symm
 go_wp2
 have g1 := (HR7.out.far (p := ⟨w3.heap.size, 2, none⟩) (u := .slice B5 V.ls.length d5) hrn).far (p := ⟨w3.heap.size, 3, none⟩) (u := .int .i64 V.hand) hrn
 have hmm : MaM (w.heap.size + 2) w7 (.slice B1 m.t.bs.length d1) (.slice B2 m.t.fs.length d2) (.slice B5 V.ls.length d5) (.slice B4 m.g.os.length d4) { m with c := V } := ⟨HM7.out.t, HL7.out, HM7.out.o⟩
 have hmm2 := (hmm.farT (u := .slice B5 V.ls.length d5) (i := 2) HO7.out).farT (u := .int .i64 V.hand) (i := 3) (HO7.out.set_ 2 (.slice B5 V.ls.length d5))
 have o3 := g1.set9 (.slice B1 m.t.bs.length d1) (.slice B2 m.t.fs.length d2) (.slice B5 V.ls.length d5) (.int .i64 V.hand) (.int .i64 m.g.count) (.int .i64 m.g.next) (.int .i64 m.g.round) (.slice B4 m.g.os.length d4) (.int .i64 m.sp)
 obtain ⟨p0t, p1t, p2t, p3t, p4t, p5t, p6t, p7t, p8t⟩ := cells9 o3
 refine bodyPost_ret (v := .tuple #[.agg #[.slice B1 m.t.bs.length d1, .slice B2 m.t.fs.length d2, .slice B5 V.ls.length d5, .int .i64 ({ m with c := V } : Ma).c.hand, .int .i64 ({ m with c := V } : Ma).g.count, .int .i64 ({ m with c := V } : Ma).g.next, .int .i64 ({ m with c := V } : Ma).g.round, .slice B4 m.g.os.length d4, .int .i64 ({ m with c := V } : Ma).sp], .int .i64 (vic m.c)]) (by simp [results, Tryz.results230, go_sem, p0t, p1t, p2t, p3t, p4t, p5t, p6t, p7t, p8t]) rfl ⟨_, rfl, _, _, _, _, by rw [hVC], ?_, ?_⟩
 ·rw [hVC]
  exact (hmm2.far9 g1 _ _ _ _ _ _ _ _ _).mono (by omega)
 ·repeat (refine bS ?_ (by simp <;> omega))
  exact HB7.out
theorem fOK_page {t : Tab} {s p : Int} (h : fOK t s p = true) : inR p 256 = true := by
 unfold fOK kval at h
 simp only [Bool.and_eq_true] at h
 exact h.1.2.2
set_option maxHeartbeats 4000000 in
theorem sTakePage_any (vb vf vl vo : Value) (m : Ma) (s p  : Int) (w : World) (hM : MaR w vb vf vl vo m) :
  Calls Tryz.prog 41 #[.agg #[vb, vf, vl, .int .i64 m.c.hand, .int .i64 m.g.count, .int .i64 m.g.next, .int .i64 m.g.round, vo, .int .i64 m.sp], .agg #[.int .i64 s, .int .i64 p]] w (Post2 fun v w' => ∃ v1 v2 v3 v4, v = .tuple #[.agg #[v1, v2, v3, .int .i64 (takV m s p).c.hand, .int .i64 (takV m s p).g.count, .int .i64 (takV m s p).g.next, .int .i64 (takV m s p).g.round, v4, .int .i64 (takV m s p).sp], .bool (takO m s p)] ∧ MaM w.heap.size w' v1 v2 v3 v4 (takV m s p) ∧ Below w.heap.size w w') := by
 obtain ⟨W0, hW, hbx, hbk, hbo, hb0, hs0⟩ := box3 w #[vb, vf, vl, .int .i64 m.c.hand, .int .i64 m.g.count, .int .i64 m.g.next, .int .i64 m.g.round, vo, .int .i64 m.sp] 48 #[.int .i64 s, .int .i64 p] 61 #[.slice none 0 0, .slice none 0 0, .slice none 0 0, .int .i64 0, .int .i64 0, .int .i64 0, .int .i64 0, .slice none 0 0, .int .i64 0] 48
 have HX0 := Hd hbx
 have HK0 := Hd hbk
 have HR0 := Hd hbo
 have HB0 := Hd hb0
 have HS0 : Hid (w.heap.size + 3 ≤ W0.heap.size) := Nat.le_of_eq hs0.symm
 clear hbx hbk hbo hb0
 have HM := Hd hM
 clear hM
 obtain ⟨m00, m10, m20, m30, m40, m50, m60, m70, m80⟩ := cells9 HX0.out
 go_enter Tryz.func41, Tryz.ntmps41
 go_wp2_with fail
 refine (sMachineValid_any vb vf vl vo m _ (HM.out.now HB0.out)).mono ?_
 rintro e w1 ⟨rfl, hb1⟩
 have HX1 := Hd (HX0.out.below hb1)
 have HK1 := Hd (HK0.out.below hb1)
 have HR1 := Hd (HR0.out.below hb1)
 have HB1 := Hd (bT HB0.out hb1)
 have HS1 := Hd (Nat.le_trans HS0.out hb1.size)
 clear hb1
 clear m00 m10 m20 m30 m40 m50 m60 m70 m80
 cases h1 : mav m with
 | false =>
  have HA : Hid (takO m s p = false) := by show _ = _; unfold takO; rw [h1]; rfl
  have HV := Hd (takO_false HA.out)
  obtain ⟨r0x, r1x, r2x, r3x, r4x, r5x, r6x, r7x, r8x⟩ := cells9 HR1.out
  obtain ⟨z0x, z1x, z2x, z3x, z4x, z5x, z6x, z7x, z8x⟩ := free9 HR1.out
  go_wp2
  obtain ⟨t0, t1, t2, t3, t4, t5, t6, t7, t8⟩ := cells9 (set9z HR1.out)
  refine bodyPost_ret (v := .tuple #[.agg #[.slice none 0 0, .slice none 0 0, .slice none 0 0, .int .i64 0, .int .i64 0, .int .i64 0, .int .i64 0, .slice none 0 0, .int .i64 0], .bool false]) (by simp [results, Tryz.results41, go_sem, t0, t1, t2, t3, t4, t5, t6, t7, t8]) rfl ⟨_, rfl, _, _, _, _, by rw [HA.out, HV.out]; rfl, by rw [HV.out]; exact mam_z, ?_⟩
  repeat (refine bS ?_ (by simp <;> omega))
  exact HB1.out
 | true =>
  obtain ⟨m01, m11, m21, m31, m41, m51, m61, m71, m81⟩ := cells9 HX1.out
  have k01 := HK1.out.cell_ 0 (v := .int .i64 s) rfl
  have k11 := HK1.out.cell_ 1 (v := .int .i64 p) rfl
  go_wp2_with fail
  refine (sUnmapPage_any vb vf m.t s p _ (HM.out.t.now HB1.out)).mono ?_
  rintro e w2 ⟨_, rfl, v1, v2, rfl, hT2, hb2⟩
  obtain ⟨A1, c1, rfl, _⟩ := hT2.b
  obtain ⟨A2, c2, rfl, _⟩ := hT2.f
  have hs1 := HS1.out
  have HX2 := Hd (HX1.out.below hb2)
  have HK2 := Hd (HK1.out.below hb2)
  have HR2 := Hd (HR1.out.below hb2)
  have HB2 := Hd (bT HB1.out hb2)
  have HS2 := Hd (Nat.le_trans HS1.out hb2.size)
  clear hb2
  clear m01 m11 m21 m31 m41 m51 m61 m71 m81
  clear k01 k11
  have ho5 := Own.new_ w2 40 #[.slice A1 (unmV m.t s p).bs.length c1, .slice A2 (unmV m.t s p).fs.length c2]
  have hb5 : Below w2.heap.size w2 (w2.alloc (.cells #[.slice A1 (unmV m.t s p).bs.length c1, .slice A2 (unmV m.t s p).fs.length c2] 40)) := bA bR
  generalize hW5 : w2.alloc (.cells #[.slice A1 (unmV m.t s p).bs.length c1, .slice A2 (unmV m.t s p).fs.length c2] 40) = w5 at ho5 hb5
  have HT5 := Hd ((hT2.now hb5).mono hs1)
  have HY5 := Hd ho5
  clear hT2 ho5
  have HX5 := Hd (HX2.out.below hb5)
  have HK5 := Hd (HK2.out.below hb5)
  have HR5 := Hd (HR2.out.below hb5)
  have HB5 := Hd (bT HB2.out hb5)
  have HS5 := Hd (Nat.le_trans HS2.out hb5.size)
  clear hb5
  cases h3 : fOK m.t s p with
  | false =>
   have HA : Hid (takO m s p = false) := by show _ = _; unfold takO; rw [h3, Bool.and_false]
   have HV := Hd (takO_false HA.out)
   obtain ⟨r0x, r1x, r2x, r3x, r4x, r5x, r6x, r7x, r8x⟩ := cells9 HR5.out
   obtain ⟨z0x, z1x, z2x, z3x, z4x, z5x, z6x, z7x, z8x⟩ := free9 HR5.out
   go_wp2
   obtain ⟨t0, t1, t2, t3, t4, t5, t6, t7, t8⟩ := cells9 (set9z HR5.out)
   refine bodyPost_ret (v := .tuple #[.agg #[.slice none 0 0, .slice none 0 0, .slice none 0 0, .int .i64 0, .int .i64 0, .int .i64 0, .int .i64 0, .slice none 0 0, .int .i64 0], .bool false]) (by simp [results, Tryz.results41, go_sem, t0, t1, t2, t3, t4, t5, t6, t7, t8]) rfl ⟨_, rfl, _, _, _, _, by rw [HA.out, HV.out]; rfl, by rw [HV.out]; exact mam_z, ?_⟩
   repeat (refine bS ?_ (by simp <;> omega))
   exact HB5.out
  | true =>
   have HA : Hid (takO m s p = true) := by show _ = _; unfold takO; rw [h1, h3]; rfl
   have HV : Hid (takV m s p = drpM m (unmV m.t s p) s p) := by show _ = _; unfold takV; rw [HA.out]; rfl
   obtain ⟨m05, m15, m25, m35, m45, m55, m65, m75, m85⟩ := cells9 HX5.out
   have k05 := HK5.out.cell_ 0 (v := .int .i64 s) rfl
   have k15 := HK5.out.cell_ 1 (v := .int .i64 p) rfl
   have hs5 := HS5.out
   go_wp2_with fail
   refine (l6Forget_any vb vf vl vo m s p _ (HM.out.now HB5.out) h1 (fOK_page h3)).mono ?_
   rintro e w3 ⟨_, rfl, q1, q2, q3, q4, rfl, hM3, hb3⟩
   have HT3 := Hd (HT5.out.now hb3)
   have hy3 := HY5.out.below hb3
   have u0 := hy3.cell_ 0 (v := .slice A1 (unmV m.t s p).bs.length c1) rfl
   have u1 := hy3.cell_ 1 (v := .slice A2 (unmV m.t s p).fs.length c2) rfl
   have hly := hy3.lt
   have HX3 := Hd (HX5.out.below hb3)
   have HK3 := Hd (HK5.out.below hb3)
   have HR3 := Hd (HR5.out.below hb3)
   have HB3 := Hd (bT HB5.out hb3)
   have HS3 := Hd (Nat.le_trans HS5.out hb3.size)
   clear hb3
   clear m05 m15 m25 m35 m45 m55 m65 m75 m85
   clear k05 k15
   obtain ⟨r0x, r1x, r2x, r3x, r4x, r5x, r6x, r7x, r8x⟩ := cells9 HR3.out
   obtain ⟨z0x, z1x, z2x, z3x, z4x, z5x, z6x, z7x, z8x⟩ := free9 HR3.out
   have HM3 := Hd (hM3.mono hs5)
   obtain ⟨B1, d1, rfl, _⟩ := hM3.t.b
   obtain ⟨B2, d2, rfl, _⟩ := hM3.t.f
   obtain ⟨B3, d3, rfl, _⟩ := hM3.l
   obtain ⟨B4, d4, rfl, _⟩ := hM3.o
   clear hM3
   have hl3 := HR3.out.lt
   go_wp2
   have o3 := (HR3.out.set9 (.slice A1 (unmV m.t s p).bs.length c1) (.slice A2 (unmV m.t s p).fs.length c2) (.slice B3 (drpM m m.t s p).c.ls.length d3) (.int .i64 (drpM m m.t s p).c.hand) (.int .i64 (drpM m m.t s p).g.count) (.int .i64 (drpM m m.t s p).g.next) (.int .i64 (drpM m m.t s p).g.round) (.slice B4 (drpM m m.t s p).g.os.length d4) (.int .i64 (drpM m m.t s p).sp)).alloc (o := .cells #[.slice A1 (unmV m.t s p).bs.length c1, .slice A2 (unmV m.t s p).fs.length c2, .slice B3 (drpM m m.t s p).c.ls.length d3, .int .i64 (drpM m m.t s p).c.hand, .int .i64 (drpM m m.t s p).g.count, .int .i64 (drpM m m.t s p).g.next, .int .i64 (drpM m m.t s p).g.round, .slice B4 (drpM m m.t s p).g.os.length d4, .int .i64 (drpM m m.t s p).sp] 48)
   obtain ⟨p0t, p1t, p2t, p3t, p4t, p5t, p6t, p7t, p8t⟩ := cells9 o3
   have hmm : MaM (w.heap.size + 3) w3 (.slice A1 (unmV m.t s p).bs.length c1) (.slice A2 (unmV m.t s p).fs.length c2) (.slice B3 (drpM m m.t s p).c.ls.length d3) (.slice B4 (drpM m m.t s p).g.os.length d4) (drpM m (unmV m.t s p) s p) := ⟨HT3.out, HM3.out.l, HM3.out.o⟩
   refine bodyPost_ret (v := .tuple #[.agg #[.slice A1 (unmV m.t s p).bs.length c1, .slice A2 (unmV m.t s p).fs.length c2, .slice B3 (drpM m m.t s p).c.ls.length d3, .int .i64 (drpM m m.t s p).c.hand, .int .i64 (drpM m m.t s p).g.count, .int .i64 (drpM m m.t s p).g.next, .int .i64 (drpM m m.t s p).g.round, .slice B4 (drpM m m.t s p).g.os.length d4, .int .i64 (drpM m m.t s p).sp], .bool true]) (by simp [results, Tryz.results41, go_sem, p0t, p1t, p2t, p3t, p4t, p5t, p6t, p7t, p8t]) rfl ⟨_, rfl, _, _, _, _, by rw [HA.out, HV.out]; rfl, ?_, ?_⟩
   ·rw [HV.out]
    exact ((hmm.far9 HR3.out _ _ _ _ _ _ _ _ _).now (bA bR)).mono (by omega)
   ·refine bA ?_
    repeat (refine bS ?_ (by simp <;> omega))
    exact HB3.out
end Go.Proofs.YtibpnlojlfcpmaaGreatDoor
