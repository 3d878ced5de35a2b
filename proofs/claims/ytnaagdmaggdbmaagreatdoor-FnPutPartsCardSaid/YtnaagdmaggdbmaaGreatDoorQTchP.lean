/- A part of the proofs of this seat: TchP, WpP. -/
import Derived.Test.YtnaagdmaggdbmaaGreatDoorQVicP
set_option linter.unusedVariables false
set_option linter.unusedSimpArgs false
namespace Go.Proofs.YtnaagdmaggdbmaaGreatDoor
open Go.RowKit
theorem tlast_top {os : List (Int × Int)} {n : Int} : ∀ {k : Nat}, tok os n k = true → ∀ (j : Nat) (q : Int × Int), j < k → os[j]? = some q → q.2 ≤ tlast os k
  | 0, _, j, q, hj, _ => absurd hj (by omega)
  | k + 1, h, j, q, hj, e => by
    obtain ⟨o, eo, _, _, _, h1, _⟩ := tok_at h (Nat.lt_succ_self k)
    have h2 : tok os n k = true := by unfold tok at h; rw [Bool.and_eq_true] at h; exact h.1
    rw [tlast_of eo]
    rcases Nat.lt_or_ge j k with hlt | hge
    · have := tlast_top h2 j q hlt e
      omega
    · obtain rfl : j = k := by omega
      rw [eo] at e
      injection e with e
      rw [e]; exact Int.le_refl _
theorem tok_pre {os : List (Int × Int)} {n : Int} {m : Nat} : ∀ {k : Nat}, k ≤ m → tok os n m = true → tok os n k = true := by
 induction m with
 | zero =>
  intro k hk h
  obtain rfl : k = 0 := by omega
  rfl
 | succ m ih =>
  intro k hk h
  rcases Nat.lt_or_ge k (m + 1) with hlt | hge
  ·exact ih (by omega) (by unfold tok at h; rw [Bool.and_eq_true] at h; exact h.1)
  ·obtain rfl : k = m + 1 := by omega
   exact h
theorem spc_own {g : Tg} (hg : tgv g = true) {k : Nat} {o : Int × Int} (eo : g.os[k]? = some o) : spc g.os o.2 = some k := by
 obtain ⟨_, ht⟩ := tgv_parts hg
 have hk := (List.getElem?_eq_some_iff.1 eo).1
 refine spc_at eo (fun j q hj e hq => ?_) rfl
 obtain ⟨o', eo', _, _, _, h1, _⟩ := tok_at ht hk
 rw [eo] at eo'
 injection eo' with eo'
 have := tlast_top (tok_pre (Nat.le_of_lt hk) ht) j q hj e
 rw [eo'] at hq
 omega
def tln (m : Ma) (p fr : Int) : Ln := ⟨true, tagT m m.sp p, p, fr, (m.t.fs.getD fr.toNat frz).r, false⟩
theorem MV.tag {m : Ma} (M : MV m) (p : Int) : ((128 ≤ p) ↔ tagT m m.sp p = -1) ∧ (∀ x : Ln, x.p = p → x.t = tagT m m.sp p → ∃ s, lnSp m x = some s ∧ keyI s p = keyI m.sp p) := by
 obtain ⟨k, o, hk, eo, ho⟩ := ownI_lt M.o
 obtain ⟨b1, b2⟩ := tgO_yes M.g hk eo
 obtain ⟨_, ht⟩ := tgv_parts M.g
 obtain ⟨o', eo', _, q1, q2, _⟩ := tok_at ht (List.getElem?_eq_some_iff.1 eo).1
 rw [eo] at eo'
 injection eo' with eo'
 subst eo'
 by_cases h : 128 ≤ p
 ·have e1 : tagT m m.sp p = -1 := if_pos h
  refine ⟨⟨fun _ => e1, fun _ => h⟩, fun x hx _ => ⟨0, lnSp_sh (by rw [hx]; exact h), ?_⟩⟩
  unfold keyI
  rw [if_pos h, if_pos h]
 ·have e1 : tagT m m.sp p = o.2 := by unfold tagT; rw [if_neg h, b2]
  refine ⟨⟨fun h' => absurd h' h, fun h' => by rw [e1] at h'; omega⟩, fun x hx hxt => ⟨m.sp, ?_, rfl⟩⟩
  unfold lnSp
  rw [if_neg (by rw [hx]; exact h), hxt, e1, spc_own M.g eo]
  simp only
  rw [List.getD_eq_getElem?_getD, eo]
  simp only [Option.getD_some]
  rw [ho]
theorem MV.fill {m : Ma} (M : MV m) {p : Int} (hp : inR p 256 = true) (hmiss : ¬ 0 ≤ plcI m.c.ls (tagT m m.sp p) p) {k : Nat} (hf : fnd m.t.fs (keyI m.sp p) p = some k) :
  filOK m.c (tln m p k) = true ∧ mav { m with c := filC m.c (tln m p k) } = true := by
 obtain ⟨f, ef, hu, hfk⟩ := fnd_some hf
 obtain ⟨htag, hsp⟩ := M.tag p
 have hkl := (List.getElem?_eq_some_iff.1 ef).1
 have hr : (m.t.fs.getD (k : Int).toNat frz).r = f.r := by rw [Int.toNat_natCast, getD_at ef]
 have hfr := M.t.ok k f ef
 unfold frok at hfr
 rw [hu, if_pos rfl, Bool.and_eq_true] at hfr
 have hl : lnok (tln m p k) = true := by
  unfold lnok tln
  simp only [if_true, Bool.and_eq_true]
  refine ⟨⟨⟨tagT_ok M.g _ _, hp⟩, inR_iff.2 ⟨by omega, ?_⟩⟩, by rw [hr]; exact hfr.2⟩
  have := M.t.sz
  omega
 have hcl : ∀ (i : Nat) (y : Ln), m.c.ls[i]? = some y → clash (tln m p k) y = false := by
  intro i y e
  refine bool_ff fun h => ?_
  unfold clash tln at h
  simp only [Bool.and_eq_true, Bool.or_eq_true, decide_eq_true_eq] at h
  obtain ⟨⟨⟨_, hv⟩, hyp⟩, ht⟩ := h
  have hfit : fits (tagT m m.sp p) p y = true := by
   refine fits_iff.2 ⟨hv, hyp.symm, ?_⟩
   rcases ht with (ht | ht) | ht
   ·exact .inl ht.symm
   ·obtain ⟨_, _, _, _, _, _, h5, _⟩ := lnM_some hv (M.l i y e)
    exact .inr (h5.1 (by rw [← hyp]; exact htag.2 ht))
   ·exact .inr ht
  rw [plcI_none hmiss e] at hfit
  cases hfit
 have hcv := M.c.fill hl rfl hcl
 refine ⟨?_, ?_⟩
 ·unfold filOK
  rw [cav_CV.2 M.c, hl, cav_CV.2 hcv, show (tln m p k).t = tagT m m.sp p from rfl, show (tln m p k).p = p from rfl, decide_eq_false hmiss]
  rfl
 ·refine mav_MV.2 ⟨M.t, hcv, M.g, M.o, M.f, fun i x hi => ?_⟩
  simp only [filC] at hi
  rw [List.getElem?_set] at hi
  have hvi := vic_in M.c
  split at hi
  ·injection hi with hi
   rw [← hi]
   obtain ⟨s, hs1, hs2⟩ := hsp (tln m p k) rfl rfl
   exact lnM_mk (m := { m with c := filC m.c (tln m p k) }) (s := s) (i := k) hs1 (by show fnd m.t.fs (keyI s p) p = some k; rw [hs2]; exact hf) rfl (by show (m.t.fs.getD k frz).r = (m.t.fs.getD (k : Int).toNat frz).r; rw [Int.toNat_natCast]) htag (fun h => by cases h)
  ·exact M.l i x hi
def tchO (m : Ma) (p n : Int) : Bool := mav m && inR p 256 && inR n 8
def tchH (m : Ma) (p : Int) : Int := plcI m.c.ls (tagT m m.sp p) p
def tchK (m : Ma) (p : Int) : Int := fndI m.t.fs (keyI m.sp p) p
def tchFr (m : Ma) (p : Int) : Int := if 0 ≤ tchH m p then (m.c.ls.getD (tchH m p).toNat lnz).f else if 0 ≤ tchK m p then tchK m p else 0
def tchV (m : Ma) (p n : Int) : Ma := if tchO m p n = true then (if 0 ≤ tchH m p then m else if 0 ≤ tchK m p then { m with c := filC m.c (tln m p (tchK m p)) } else m) else maz
def tchF (m : Ma) (p n : Int) : Int := if tchO m p n = true then tchFr m p else 0
def tchA (m : Ma) (p n : Int) : Bool := alw (m.t.fs.getD (tchFr m p).toNat frz).r n
def tchR (m : Ma) (p n : Int) : Int := if tchO m p n = true then (if 0 ≤ tchH m p then (if tchA m p n = true then 1 else 4) else if 0 ≤ tchK m p then (if tchA m p n = true then 2 else 4) else 3) else 0
theorem tchO_no {m : Ma} {p n : Int} (h : tchO m p n = false) : tchV m p n = maz ∧ tchF m p n = 0 ∧ tchR m p n = 0 := by
 unfold tchV tchF tchR
 rw [h]
 exact ⟨rfl, rfl, rfl⟩
theorem fndI_fnd {fs : List Fr} {s p : Int} (h : 0 ≤ fndI fs s p) : ∃ k : Nat, fndI fs s p = (k : Int) ∧ fnd fs s p = some k := by
 unfold fndI at h ⊢
 cases e : fnd fs s p with
 | none => rw [e] at h; simp at h
 | some i => exact ⟨i, rfl, rfl⟩
theorem tchO_parts {m : Ma} {p n : Int} (h : tchO m p n = true) : MV m ∧ inR p 256 = true ∧ inR n 8 = true := by
 unfold tchO at h
 simp only [Bool.and_eq_true] at h
 exact ⟨mav_MV.1 h.1.1, h.1.2, h.2⟩
theorem mav_tch {m : Ma} {p n : Int} (h : tchO m p n = true) : mav (tchV m p n) = true := by
 obtain ⟨M, hp, hn⟩ := tchO_parts h
 unfold tchV
 rw [if_pos h]
 split
 ·exact mav_MV.2 M
 ·rename_i h1
  split
  ·rename_i h2
   obtain ⟨k, hk, hf⟩ := fndI_fnd (show 0 ≤ fndI m.t.fs (keyI m.sp p) p from h2)
   have := (M.fill hp h1 hf).2
   rw [show tchK m p = (k : Int) from hk]
   exact this
  ·exact mav_MV.2 M
theorem MV.hit {m : Ma} (M : MV m) {p : Int} (h : 0 ≤ tchH m p) : ∃ (k i : Nat) (x : Ln) (f : Fr), tchH m p = (k : Int) ∧ m.c.ls[k]? = some x ∧ x.f = (i : Int) ∧ m.t.fs[i]? = some f ∧ f.used = true ∧ f.r = x.r ∧ tchFr m p = (i : Int) ∧ fnd m.t.fs (keyI m.sp p) p = some i := by
 obtain ⟨k, x, hk, ex, hx⟩ := plcI_lt (show 0 ≤ plcI m.c.ls (tagT m m.sp p) p from h)
 obtain ⟨h1, h2, h3⟩ := fits_iff.1 hx
 obtain ⟨s, i, a1, a2, a3, a4, a5, a6⟩ := lnM_some h1 (M.l k x ex)
 obtain ⟨f, ef, hu, hfk⟩ := fnd_some a2
 rw [getD_at ef] at a4
 have hkk : tchH m p = (k : Int) := hk
 refine ⟨k, i, x, f, hkk, ex, a3.symm, ef, hu, a4, ?_, ?_⟩
 ·unfold tchFr
  rw [if_pos h, hkk, Int.toNat_natCast, List.getD_eq_getElem?_getD, ex]
  exact a3.symm
 ·rw [← h2]
  have hks : keyI s x.p = keyI m.sp x.p := by
   by_cases h128 : 128 ≤ x.p
   ·unfold keyI; rw [if_pos h128, if_pos h128]
   ·rcases h3 with h3 | h3
    ·obtain ⟨s', hs1, hs2⟩ := (M.tag p).2 x h2 h3
     rw [a1] at hs1
     injection hs1 with hs1
     rw [hs1, h2]; exact hs2
    ·exact absurd (a5.2 h3) h128
  rw [← hks]; exact a2
end Go.Proofs.YtnaagdmaggdbmaaGreatDoor
namespace Go.Proofs.YtnaagdmaggdbmaaGreatDoor
open Go.RowKit
def wpC (m : Ma) (p : Int) : Ca := (tchV m p 0).c
def wpI (m : Ma) (p : Int) : Int := plcI (wpC m p).ls (-1) p
def wpO (m : Ma) (p : Int) : Bool := tchO m p 0 && !decide (tchR m p 0 = 3) && decide (128 ≤ p) && wirOK (wpC m p) (wpI m p) true
def wpV (m : Ma) (p : Int) : Ma := if wpO m p = true then { tchV m p 0 with c := wirC (wpC m p) (wpI m p) true } else maz
theorem wpO_no {m : Ma} {p : Int} (h : wpO m p = false) : wpV m p = maz := by unfold wpV; rw [h]; rfl
theorem mav_wire {m : Ma} {p : Int} (h : wpO m p = true) : mav (wpV m p) = true := by
 have hV : wpV m p = { tchV m p 0 with c := wirC (wpC m p) (wpI m p) true } := by unfold wpV; rw [if_pos h]
 unfold wpO at h
 simp only [Bool.and_eq_true, decide_eq_true_eq] at h
 obtain ⟨⟨⟨h1, _⟩, h3⟩, h4⟩ := h
 have M := mav_MV.1 (mav_tch h1)
 unfold wirOK at h4
 simp only [Bool.and_eq_true] at h4
 obtain ⟨⟨⟨_, hin⟩, hvv⟩, hc⟩ := h4
 obtain ⟨hi0, hi1⟩ := inR_iff.1 hin
 obtain ⟨k, x, hk, ex, hx⟩ := plcI_lt (show 0 ≤ plcI (wpC m p).ls (-1) p from hi0)
 have hwi : wpI m p = (k : Int) := hk
 obtain ⟨hxv, hxp, hxt⟩ := fits_iff.1 hx
 have hwc : wirC (wpC m p) (wpI m p) true = ⟨(wpC m p).ls.set k { x with w := true }, (wpC m p).hand⟩ := by
  unfold wirC
  rw [hwi, Int.toNat_natCast, List.getD_eq_getElem?_getD, ex]
  rfl
 rw [hwc] at hc
 rw [hV, hwc]
 refine mav_MV.2 ⟨M.t, cav_CV.1 hc, M.g, M.o, M.f, fun i y hi => ?_⟩
 simp only at hi
 rw [List.getElem?_set] at hi
 split at hi
 ·split at hi
  ·injection hi with hi
   rw [← hi]
   obtain ⟨s, j, b1, b2, b3, b4, b5, b6⟩ := lnM_some hxv (M.l k x ex)
   exact lnM_mk (m := { tchV m p 0 with c := ⟨(wpC m p).ls.set k { x with w := true }, (wpC m p).hand⟩ }) (s := s) (i := j) b1 b2 b3 b4 b5 (fun _ => by show 128 ≤ x.p; rw [hxp]; exact h3)
  ·cases hi
 ·exact M.l i y hi
end Go.Proofs.YtnaagdmaggdbmaaGreatDoor
