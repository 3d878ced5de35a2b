/- A part of the proofs of this seat: PrI, Val, TagI, DrpI, UnmI, Plr. -/
import Derived.Test.YtnaagdmaggdbmaaGreatDoorUCaP
import Derived.Test.YtnaagdmaggdbmaaGreatDoorUFind
import Derived.Test.YtnaagdmaggdbmaaGreatDoorUMa
import Derived.Test.YtnaagdmaggdbmaaGreatDoorUCopy
import Derived.Test.YtnaagdmaggdbmaaGreatDoorUCaI
import Derived.Test.YtnaagdmaggdbmaaGreatDoorUCp6
import Derived.Test.YtnaagdmaggdbmaaGreatDoorUMvS
import Derived.Test.YtnaagdmaggdbmaaGreatDoorUKeep
set_option linter.unusedVariables false
set_option linter.unusedSimpArgs false
namespace Go.Proofs.YtnaagdmaggdbmaaGreatDoor
open Go.RowKit
set_option maxRecDepth 1000000
theorem MineE.farT {α : Type} {E : Enc α} {e ty : TypeId} {B g i : Nat} {w : World} {A : Option Addr} {l : List α} {cs : Array Value} {u : Value} (h : MineE E e B w A l) (ho : Own w g ty cs) (hne : ty ≠ e) : MineE E e B (w.setCell ⟨g, i, none⟩ u) A l := by
 rcases Nat.eq_zero_or_pos l.length with hl | hl
 ·exact ⟨⟨h.is.len, fun hn => absurd hn (by omega)⟩, fun hn => absurd hn (by omega)⟩
 ·obtain ⟨g2, cs2, rfl, _, ho2, _⟩ := h.own hl
  refine h.other (p := ⟨g, i, none⟩) (fun hg => ?_)
  replace hg : g = g2 := hg
  subst hg
  unfold Own at ho ho2
  rw [ho] at ho2
  injection ho2 with ho2
  injection ho2 with _ ho2
  exact hne ho2
theorem SlM.farT {α : Type} {E : Enc α} {e ty : TypeId} {B g i : Nat} {w : World} {v : Value} {l : List α} {cs : Array Value} {u : Value} (h : SlM E e B w v l) (ho : Own w g ty cs) (hne : ty ≠ e) : SlM E e B (w.setCell ⟨g, i, none⟩ u) v l := by
 obtain ⟨A, c, h1, h2, h3, h4⟩ := h
 exact ⟨A, c, h1, h2, h3, h4.farT ho hne⟩
theorem MaM.farT {B g i : Nat} {w : World} {vb vf vl vo : Value} {m : Ma} {cs : Array Value} {u : Value} (h : MaM B w vb vf vl vo m) (ho : Own w g 34 cs) : MaM B (w.setCell ⟨g, i, none⟩ u) vb vf vl vo m :=
 ⟨⟨h.t.b.farT ho (by decide), h.t.f.farT ho (by decide)⟩, h.l.farT ho (by decide), h.o.farT ho (by decide)⟩
theorem MaM.far9 {B g : Nat} {w : World} {vb vf vl vo : Value} {m : Ma} {cs : Array Value} (h : MaM B w vb vf vl vo m) (ho : Own w g 34 cs) (u0 u1 u2 u3 u4 u5 u6 u7 u8 : Value) :
  MaM B (((((((((w.setCell ⟨g, 0, none⟩ u0).setCell ⟨g, 1, none⟩ u1).setCell ⟨g, 2, none⟩ u2).setCell ⟨g, 3, none⟩ u3).setCell ⟨g, 4, none⟩ u4).setCell ⟨g, 5, none⟩ u5).setCell ⟨g, 6, none⟩ u6).setCell ⟨g, 7, none⟩ u7).setCell ⟨g, 8, none⟩ u8) vb vf vl vo m := by
 have o1 := ho.set_ 0 u0
 have o2 := o1.set_ 1 u1
 have o3 := o2.set_ 2 u2
 have o4 := o3.set_ 3 u3
 have o5 := o4.set_ 4 u4
 have o6 := o5.set_ 5 u5
 have o7 := o6.set_ 6 u6
 have o8 := o7.set_ 7 u7
 exact ((((((((h.farT ho).farT o1).farT o2).farT o3).farT o4).farT o5).farT o6).farT o7).farT o8
theorem Own.far9 {g h : Nat} {w : World} {ty : TypeId} {cs : Array Value} (ho : Own w h ty cs) (hne : h ≠ g) (u0 u1 u2 u3 u4 u5 u6 u7 u8 : Value) :
  Own (((((((((w.setCell ⟨g, 0, none⟩ u0).setCell ⟨g, 1, none⟩ u1).setCell ⟨g, 2, none⟩ u2).setCell ⟨g, 3, none⟩ u3).setCell ⟨g, 4, none⟩ u4).setCell ⟨g, 5, none⟩ u5).setCell ⟨g, 6, none⟩ u6).setCell ⟨g, 7, none⟩ u7).setCell ⟨g, 8, none⟩ u8) h ty cs :=
 ((((((((ho.far hne).far hne).far hne).far hne).far hne).far hne).far hne).far hne).far hne
theorem Own.set9 {g : Nat} {w : World} {ty : TypeId} {a0 a1 a2 a3 a4 a5 a6 a7 a8 : Value} (ho : Own w g ty #[a0, a1, a2, a3, a4, a5, a6, a7, a8]) (u0 u1 u2 u3 u4 u5 u6 u7 u8 : Value) :
  Own (((((((((w.setCell ⟨g, 0, none⟩ u0).setCell ⟨g, 1, none⟩ u1).setCell ⟨g, 2, none⟩ u2).setCell ⟨g, 3, none⟩ u3).setCell ⟨g, 4, none⟩ u4).setCell ⟨g, 5, none⟩ u5).setCell ⟨g, 6, none⟩ u6).setCell ⟨g, 7, none⟩ u7).setCell ⟨g, 8, none⟩ u8) g ty #[u0, u1, u2, u3, u4, u5, u6, u7, u8] := by
 have h := ((((((((ho.set_ 0 u0).set_ 1 u1).set_ 2 u2).set_ 3 u3).set_ 4 u4).set_ 5 u5).set_ 6 u6).set_ 7 u7).set_ 8 u8
 simpa using h
end Go.Proofs.YtnaagdmaggdbmaaGreatDoor
namespace Go.Proofs.YtnaagdmaggdbmaaGreatDoor
open Go.RowKit
structure CV (c : Ca) : Prop where
 sz : 1 ≤ c.ls.length ∧ c.ls.length ≤ 8
 hand : inR c.hand c.ls.length = true
 ok : ∀ (i : Nat) (x : Ln), c.ls[i]? = some x → lnok x = true
 cl : ∀ (i j : Nat) (x y : Ln), i ≠ j → c.ls[i]? = some x → c.ls[j]? = some y → clash x y = false
 loose : ∃ (i : Nat) (x : Ln), c.ls[i]? = some x ∧ x.w = false
theorem clash_symm (x y : Ln) : clash x y = clash y x := by
 unfold clash
 rw [Bool.eq_iff_iff]
 simp only [Bool.and_eq_true, Bool.or_eq_true, decide_eq_true_eq]
 constructor
 ·rintro ⟨⟨⟨a, b⟩, c⟩, d⟩
  refine ⟨⟨⟨b, a⟩, c.symm⟩, ?_⟩
  rcases d with (d | d) | d
  ·exact .inl (.inl d.symm)
  ·exact .inr d
  ·exact .inl (.inr d)
 ·rintro ⟨⟨⟨a, b⟩, c⟩, d⟩
  refine ⟨⟨⟨b, a⟩, c.symm⟩, ?_⟩
  rcases d with (d | d) | d
  ·exact .inl (.inl d.symm)
  ·exact .inr d
  ·exact .inl (.inr d)
theorem lok_of {ls : List Ln} (h1 : ∀ (i : Nat) (x : Ln), ls[i]? = some x → lnok x = true) (h2 : ∀ (i j : Nat) (x y : Ln), i ≠ j → ls[i]? = some x → ls[j]? = some y → clash x y = false) : ∀ k, k ≤ ls.length → lok ls k = true
  | 0, _ => rfl
  | k + 1, hk => by
    obtain ⟨x, e⟩ : ∃ x, ls[k]? = some x := ⟨_, List.getElem?_eq_getElem (by omega)⟩
    exact lok_step (lok_of h1 h2 k (by omega)) e (h1 k x e) (fun r y hr er => h2 k r x y (by omega) e er)
theorem cav_CV {c : Ca} : cav c = true ↔ CV c := by
 constructor
 ·intro h
  obtain ⟨a, b, d, e, f⟩ := cav_parts h
  refine ⟨⟨a, b⟩, d, fun i x hi => ?_, fun i j x y hij hi hj => ?_, ?_⟩
  ·obtain ⟨x', e1, e2, _⟩ := lok_at e (List.getElem?_eq_some_iff.1 hi).1
   rw [hi] at e1
   injection e1 with e1
   rw [e1]; exact e2
  ·rcases Nat.lt_or_gt_of_ne hij with hlt | hlt
   ·obtain ⟨y', e1, _, e3⟩ := lok_at e (List.getElem?_eq_some_iff.1 hj).1
    rw [hj] at e1
    injection e1 with e1
    subst e1
    rw [clash_symm]
    exact e3 i x hlt hi
   ·obtain ⟨x', e1, _, e3⟩ := lok_at e (List.getElem?_eq_some_iff.1 hi).1
    rw [hi] at e1
    injection e1 with e1
    subst e1
    exact e3 j y hlt hj
  ·rw [List.any_eq_true] at f
   obtain ⟨x, hx, hw⟩ := f
   obtain ⟨i, hi, e1⟩ := List.getElem_of_mem hx
   exact ⟨i, x, by rw [List.getElem?_eq_getElem hi, e1], by simpa using hw⟩
 ·intro h
  rw [cav_end h.sz.1 h.sz.2 h.hand (lok_of h.ok h.cl _ (Nat.le_refl _)), List.any_eq_true]
  obtain ⟨i, x, e, hw⟩ := h.loose
  exact ⟨x, List.mem_of_getElem? e, by rw [hw]; rfl⟩
theorem lnok_z : lnok lnz = true := by decide
theorem clash_z (y : Ln) : clash lnz y = false := by unfold clash; rfl
theorem CV.drop {c : Ca} (h : CV c) (k : Nat) : CV ⟨c.ls.set k lnz, c.hand⟩ := by
 refine ⟨by simpa using h.sz, by simpa using h.hand, fun i x hi => ?_, fun i j x y hij hi hj => ?_, ?_⟩
 ·simp only at hi
  rw [List.getElem?_set] at hi
  split at hi
  ·split at hi
   ·injection hi with hi
    rw [← hi]; exact lnok_z
   ·cases hi
  ·exact h.ok i x hi
 ·simp only at hi hj
  rw [List.getElem?_set] at hi hj
  split at hi
  ·split at hi
   ·injection hi with hi
    rw [← hi]; exact clash_z y
   ·cases hi
  ·split at hj
   ·split at hj
    ·injection hj with hj
     rw [← hj, clash_symm]; exact clash_z x
    ·cases hj
   ·exact h.cl i j x y hij hi hj
 ·obtain ⟨i, x, e, hw⟩ := h.loose
  by_cases hk : k = i
  ·subst hk
   exact ⟨k, lnz, by simp only; rw [List.getElem?_set, if_pos rfl, if_pos (List.getElem?_eq_some_iff.1 e).1], rfl⟩
  ·exact ⟨i, x, by simp only; rw [List.getElem?_set, if_neg hk]; exact e, hw⟩
theorem fits_iff {t p : Int} {x : Ln} : fits t p x = true ↔ x.v = true ∧ x.p = p ∧ (x.t = t ∨ x.t = -1) := by
 unfold fits
 simp only [Bool.and_eq_true, Bool.or_eq_true, decide_eq_true_eq, and_assoc]
theorem plcI_none {ls : List Ln} {t p : Int} (h : ¬ 0 ≤ plcI ls t p) {i : Nat} {x : Ln} (e : ls[i]? = some x) : fits t p x = false := by
 unfold plcI plc at h
 cases e2 : ls.findIdx? (fits t p) with
 | some j => rw [e2] at h; simp at h
 | none =>
  rw [List.findIdx?_eq_none_iff] at e2
  exact e2 x (List.mem_of_getElem? e)
theorem CV.once {c : Ca} (h : CV c) {t p : Int} {i j : Nat} {x y : Ln} (hi : c.ls[i]? = some x) (hj : c.ls[j]? = some y) (hx : fits t p x = true) (hy : fits t p y = true) : i = j := by
 by_cases hij : i = j
 ·exact hij
 ·have h1 := h.cl i j x y hij hi hj
  obtain ⟨a1, a2, a3⟩ := fits_iff.1 hx
  obtain ⟨b1, b2, b3⟩ := fits_iff.1 hy
  exfalso
  have : clash x y = true := by
   unfold clash
   simp only [Bool.and_eq_true, Bool.or_eq_true, decide_eq_true_eq]
   refine ⟨⟨⟨a1, b1⟩, by rw [a2, b2]⟩, ?_⟩
   rcases a3 with a3 | a3
   ·rcases b3 with b3 | b3
    ·exact .inl (.inl (by rw [a3, b3]))
    ·exact .inr b3
   ·exact .inl (.inr a3)
  rw [h1] at this
  cases this
theorem lnM_some {m : Ma} {x : Ln} (hv : x.v = true) (h : lnM m x = true) : ∃ (s : Int) (i : Nat), lnSp m x = some s ∧ fnd m.t.fs (keyI s x.p) x.p = some i ∧ (i : Int) = x.f ∧ (m.t.fs.getD i frz).r = x.r ∧ ((128 ≤ x.p) ↔ x.t = -1) ∧ (x.w = true → 128 ≤ x.p) := by
 rw [lnM_def, if_pos hv] at h
 simp only [Bool.and_eq_true, Bool.or_eq_true, decide_eq_true_eq] at h
 obtain ⟨⟨h1, h2⟩, h3⟩ := h
 have hw : x.w = true → 128 ≤ x.p := fun hw => by
  rcases h2 with h2 | h2
  ·rw [hw] at h2; cases h2
  ·exact h2
 cases hs : lnSp m x with
 | none => rw [hs] at h3; cases h3
 | some s =>
  rw [hs] at h3
  simp only at h3
  cases e : fnd m.t.fs (keyI s x.p) x.p with
  | none => rw [e] at h3; cases h3
  | some i =>
   rw [e] at h3
   simp only [Bool.and_eq_true, decide_eq_true_eq] at h3
   exact ⟨s, i, rfl, e, h3.1, h3.2, h1, hw⟩
theorem lnM_mk {m : Ma} {x : Ln} {s : Int} {i : Nat} (hs : lnSp m x = some s) (hf : fnd m.t.fs (keyI s x.p) x.p = some i) (hi : (i : Int) = x.f) (hr : (m.t.fs.getD i frz).r = x.r) (h1 : (128 ≤ x.p) ↔ x.t = -1) (hw : x.w = true → 128 ≤ x.p) : lnM m x = true := by
 rw [lnM_def]
 split
 ·rw [hs]
  simp only
  rw [hf]
  simp only [Bool.and_eq_true, Bool.or_eq_true, decide_eq_true_eq]
  refine ⟨⟨h1, ?_⟩, hi, hr⟩
  cases hx : x.w with
  | false => exact .inl rfl
  | true => exact .inr (hw hx)
 ·rfl
theorem lnM_keep {m m' : Ma} {x : Ln} (hg : m'.g = m.g) (hf : ∀ (s : Int) (i : Nat), lnSp m x = some s → fnd m.t.fs (keyI s x.p) x.p = some i → fnd m'.t.fs (keyI s x.p) x.p = some i ∧ (m'.t.fs.getD i frz).r = (m.t.fs.getD i frz).r) (h : lnM m x = true) : lnM m' x = true := by
 cases hv : x.v with
 | false => exact lnM_inv hv
 | true =>
  obtain ⟨s, i, a1, a2, a3, a4, a5, a6⟩ := lnM_some hv h
  obtain ⟨b1, b2⟩ := hf s i a1 a2
  exact lnM_mk (by unfold lnSp at a1 ⊢; rw [hg]; exact a1) b1 a3 (by rw [b2]; exact a4) a5 a6
structure MV (m : Ma) : Prop where
 t : TV m.t
 c : CV m.c
 g : tgv m.g = true
 o : 0 ≤ ownI m.g.os m.sp
 f : ∀ (i : Nat) (f : Fr), m.t.fs[i]? = some f → frM f = true
 l : ∀ (i : Nat) (x : Ln), m.c.ls[i]? = some x → lnM m x = true
theorem mav_MV {m : Ma} : mav m = true ↔ MV m := by
 constructor
 ·intro h
  obtain ⟨a, b, c, d, e, f⟩ := mav_parts h
  exact ⟨tv_TV.1 a, cav_CV.1 b, c, d, fun i x hi => e x (List.mem_of_getElem? hi), fun i x hi => f x (List.mem_of_getElem? hi)⟩
 ·intro h
  refine mav_end (tv_TV.2 h.t) (cav_CV.2 h.c) h.g h.o (fun f hf => ?_) (fun x hx => ?_)
  ·obtain ⟨i, hi, e⟩ := List.getElem_of_mem hf
   exact h.f i f (by rw [List.getElem?_eq_getElem hi, e])
  ·obtain ⟨i, hi, e⟩ := List.getElem_of_mem hx
   exact h.l i x (by rw [List.getElem?_eq_getElem hi, e])
theorem TV.fnd {t : Tab} (h : TV t) {s p : Int} {i : Nat} {f : Fr} (e : t.fs[i]? = some f) (hu : f.used = true) (hk : (f.s, f.p) = (s, p)) : fnd t.fs s p = some i := fnd_of (tv_parts (tv_TV.2 h)).2.1 e hu hk
theorem getD_at {fs : List Fr} {i : Nat} {f : Fr} (e : fs[i]? = some f) : fs.getD i frz = f := by rw [List.getD_eq_getElem?_getD, e]; rfl
theorem mav_put {m : Ma} {s p fr r : Int} (h : putOK m s p fr r = true) : mav (putV m s p fr r) = true := by
 have hV : putV m s p fr r = { m with t := mapV m.t s p fr r } := by unfold putV; rw [if_pos h]
 unfold putOK at h
 simp only [Bool.and_eq_true, decide_eq_true_eq] at h
 obtain ⟨⟨hm, hk⟩, hok⟩ := h
 have hT : mapV m.t s p fr r = mapT m.t s p fr r := by unfold mapV; rw [if_pos hok]
 unfold mapOK at hok
 simp only [Bool.and_eq_true] at hok
 obtain ⟨⟨⟨⟨⟨htv, hkv⟩, hnf⟩, hin⟩, hu⟩, hr⟩ := hok
 have M := mav_MV.1 hm
 have hnf' : fnd m.t.fs s p = none := by
  cases e : fnd m.t.fs s p with
  | none => rfl
  | some i => unfold fndI at hnf; rw [e] at hnf; simp at hnf
 obtain ⟨hi0, hi1⟩ := inR_iff.1 hin
 obtain ⟨k, rfl⟩ := Int.eq_ofNat_of_zero_le hi0
 rw [Int.toNat_natCast] at hu
 cases ef : m.t.fs[k]? with
 | none => rw [ef] at hu; cases hu
 | some f0 =>
 rw [ef] at hu
 have hu0 : f0.used = false := by simpa using hu
 have hTV := M.t.map hkv hnf' ef hu0 hr
 have hmt : mapT m.t s p (k : Int) r = ⟨m.t.bs.set (bkt m.t s p) k, m.t.fs.set k ⟨true, s, p, r, m.t.bs.getD (bkt m.t s p) 0⟩⟩ := by unfold mapT; rw [Int.toNat_natCast]
 rw [hV, hT, hmt]
 have hkl := (List.getElem?_eq_some_iff.1 ef).1
 refine mav_MV.2 ⟨hTV, M.c, M.g, M.o, fun i f hi => ?_, fun i x hi => ?_⟩
 ·simp only at hi
  rw [List.getElem?_set] at hi
  split at hi
  ·injection hi with hi
   rw [← hi]
   unfold frM
   unfold keyI at hk
   by_cases h128 : 128 ≤ p
   ·rw [if_pos h128] at hk
    simp [← hk]
   ·simp [h128]
  ·exact M.f i f hi
 ·refine lnM_keep (m := m) rfl (fun s' j hs' hj => ?_) (M.l i x hi)
  obtain ⟨f, e1, e2, e3⟩ := fnd_some hj
  have hne : k ≠ j := by rintro rfl; rw [ef] at e1; injection e1 with e1; rw [e1, e2] at hu0; cases hu0
  have e4 : (m.t.fs.set k ⟨true, s, p, r, m.t.bs.getD (bkt m.t s p) 0⟩)[j]? = some f := by rw [List.getElem?_set, if_neg hne]; exact e1
  exact ⟨hTV.fnd e4 e2 e3, by rw [getD_at e4, getD_at e1]⟩
theorem MV.apart {m : Ma} (M : MV m) {s p : Int} {i : Nat} {x : Ln} (hi : (drpC m s p).ls[i]? = some x) (hv : x.v = true) :
  m.c.ls[i]? = some x ∧ ∀ s', lnSp m x = some s' → ¬ (keyI s' x.p, x.p) = (s, p) := by
 have key : ∀ (y : Ln), m.c.ls[i]? = some y → y.v = true → ∀ s', lnSp m y = some s' → (keyI s' y.p, y.p) = (s, p) → tagO m s p = true ∧ fits (tagT m s p) p y = true := by
  intro y hy hyv s' hs' hkk
  obtain ⟨_, _, a1, a2, a3, a4, a5, a6⟩ := lnM_some hyv (M.l i y hy)
  injection hkk with hk1 hk2
  by_cases h128 : 128 ≤ p
  ·have ht : y.t = -1 := a5.1 (by rw [hk2]; exact h128)
   exact ⟨if_pos h128, fits_iff.2 ⟨hyv, hk2, .inr ht⟩⟩
  ·unfold lnSp at hs'
   rw [if_neg (by rw [hk2]; exact h128)] at hs'
   cases es : spc m.g.os y.t with
   | none => rw [es] at hs'; cases hs'
   | some j =>
    rw [es] at hs'
    injection hs' with hs'
    unfold spc at es
    obtain ⟨hj, hj1, _⟩ := List.findIdx?_eq_some_iff_getElem.1 es
    have ej : m.g.os[j]? = some m.g.os[j] := List.getElem?_eq_getElem hj
    rw [List.getD_eq_getElem?_getD, ej] at hs'
    simp only [Option.getD_some] at hs'
    have hj1 : m.g.os[j].2 = y.t := by simpa using hj1
    have hks : keyI s' y.p = s' := by unfold keyI; rw [if_neg (by rw [hk2]; exact h128)]
    rw [hks] at hk1
    have hos : m.g.os[j].1 = s := by rw [hs', hk1]
    obtain ⟨k, o, hk3, ek, hk4⟩ : ∃ (k : Nat) (o : Int × Int), ownI m.g.os s = (k : Int) ∧ m.g.os[k]? = some o ∧ o.1 = s := by
     refine ownI_lt ?_
     unfold ownI
     cases eo : own m.g.os s with
     | some _ => simp
     | none =>
      unfold own at eo
      rw [List.findIdx?_eq_none_iff] at eo
      have := eo _ (List.mem_of_getElem? ej)
      rw [hos] at this
      simp at this
    have hkj : k = j := by
     obtain ⟨_, ht⟩ := tgv_parts M.g
     rcases Nat.lt_trichotomy k j with hlt | heq | hlt
     ·obtain ⟨q, eq, _, _, _, _, hq⟩ := tok_at ht hj
      rw [ej] at eq
      injection eq with eq
      exact absurd (by rw [← eq, hos, hk4]) (hq k o hlt ek)
     ·exact heq
     ·obtain ⟨q, eq, _, _, _, _, hq⟩ := tok_at ht (List.getElem?_eq_some_iff.1 ek).1
      rw [ek] at eq
      injection eq with eq
      exact absurd (by rw [← eq, hos, hk4]) (hq j _ hlt ej)
    subst hkj
    obtain ⟨b1, b2⟩ := tgO_yes M.g hk3 ek
    rw [ej] at ek
    injection ek with ek
    refine ⟨by unfold tagO; rw [if_neg h128]; exact b1, fits_iff.2 ⟨hyv, hk2, .inl ?_⟩⟩
    unfold tagT
    rw [if_neg h128, b2, ← ek, hj1]
 unfold drpC at hi
 split at hi
 ·rename_i hh
  simp only at hi
  rw [List.getElem?_set] at hi
  split at hi
  ·split at hi
   ·injection hi with hi
    rw [← hi] at hv
    cases hv
   ·cases hi
  ·rename_i hne
   refine ⟨hi, fun s' hs' hkk => ?_⟩
   obtain ⟨_, hf⟩ := key x hi hv s' hs' hkk
   obtain ⟨k, y, e1, e2, e3⟩ := plcI_lt hh.2
   have := M.c.once hi e2 hf e3
   rw [e1, Int.toNat_natCast] at hne
   exact hne this.symm
 ·rename_i hh
  refine ⟨hi, fun s' hs' hkk => ?_⟩
  obtain ⟨h1, hf⟩ := key x hi hv s' hs' hkk
  by_cases hp : 0 ≤ plcI m.c.ls (tagT m s p) p
  ·exact hh ⟨h1, hp⟩
  ·rw [plcI_none hp hi] at hf; cases hf
theorem MV.drp {m : Ma} (M : MV m) (s p : Int) : CV (drpC m s p) := by
 unfold drpC
 split
 ·exact M.c.drop _
 ·exact M.c
theorem fOK_at {t : Tab} {s p : Int} (h : fOK t s p = true) : ∃ (k : Nat) (f : Fr), fndI t.fs s p = (k : Int) ∧ fnd t.fs s p = some k ∧ t.fs[k]? = some f ∧ f.used = true ∧ (f.s, f.p) = (s, p) ∧ kval (s, p) = true := by
 unfold fOK at h
 simp only [Bool.and_eq_true, decide_eq_true_eq] at h
 obtain ⟨⟨_, hk⟩, h3⟩ := h
 unfold fndI at h3 ⊢
 cases e : fnd t.fs s p with
 | none => rw [e] at h3; simp at h3
 | some i =>
  obtain ⟨f, a, b, c⟩ := fnd_some e
  exact ⟨i, f, rfl, rfl, a, b, c, hk⟩
theorem mav_tak {m : Ma} {s p : Int} (h : takO m s p = true) : mav (takV m s p) = true := by
 have hV : takV m s p = drpM m (unmV m.t s p) s p := by unfold takV; rw [if_pos h]
 unfold takO at h
 rw [Bool.and_eq_true] at h
 obtain ⟨hm, hf⟩ := h
 have hT : unmV m.t s p = unmT m.t s p := by unfold unmV; rw [if_pos hf]
 have M := mav_MV.1 hm
 obtain ⟨k, f, hk, hk', ef, hu, hkk, hkv⟩ := fOK_at hf
 injection hkk with hk1 hk2
 have hTV := M.t.unmap ef hu (by rw [hk1, hk2]; exact hkv)
 have hut : unmT m.t s p = (if m.t.bs.getD (bkt m.t f.s f.p) 0 = (k : Int) then ⟨m.t.bs.set (bkt m.t f.s f.p) f.n, m.t.fs.set k frz⟩ else ⟨m.t.bs, (m.t.fs.map (relink k f.n)).set k frz⟩) := by
  unfold unmT
  simp only [hk, Int.toNat_natCast, getD_at ef, hk1, hk2]
 rw [← hut] at hTV
 have hkl := (List.getElem?_eq_some_iff.1 ef).1
 /- what the table's frames are now -/
 have hfr : ∀ j, (unmT m.t s p).fs[j]? = if k = j then some frz else (m.t.fs[j]?).map (fun g => if (m.t.bs.getD (bkt m.t f.s f.p) 0 = (k : Int)) then g else relink k f.n g) := by
  intro j
  rw [hut]
  split
  ·simp only
   rw [List.getElem?_set]
   split
   ·rfl
   ·simp
  ·simp only
   rw [List.getElem?_set]
   split
   ·rw [if_pos (by simpa using hkl)]
   ·rw [List.getElem?_map]
 have hre : ∀ g : Fr, (relink k f.n g).used = g.used ∧ (relink k f.n g).s = g.s ∧ (relink k f.n g).p = g.p ∧ (relink k f.n g).r = g.r := by
  intro g
  unfold relink
  split <;> exact ⟨rfl, rfl, rfl, rfl⟩
 have hsame : ∀ (j : Nat) (g : Fr), k ≠ j → m.t.fs[j]? = some g → ∃ g', (unmT m.t s p).fs[j]? = some g' ∧ g'.used = g.used ∧ g'.s = g.s ∧ g'.p = g.p ∧ g'.r = g.r := by
  intro j g hj eg
  refine ⟨_, by rw [hfr, if_neg hj, eg]; rfl, ?_⟩
  split
  ·exact ⟨rfl, rfl, rfl, rfl⟩
  ·exact hre g
 rw [hV, hT]
 refine mav_MV.2 ⟨hTV, M.drp s p, M.g, M.o, fun i g hi => ?_, fun i x hi => ?_⟩
 ·simp only [drpM] at hi
  rw [hfr] at hi
  split at hi
  ·injection hi with hi
   rw [← hi]; rfl
  ·cases e : m.t.fs[i]? with
   | none => rw [e] at hi; cases hi
   | some g0 =>
    rw [e] at hi
    injection hi with hi
    have h0 := M.f i g0 e
    rw [← hi]
    split
    ·exact h0
    ·obtain ⟨r1, r2, r3, _⟩ := hre g0
     unfold frM at h0 ⊢
     rw [r1, r2, r3]; exact h0
 ·cases hv : x.v with
  | false => exact lnM_inv hv
  | true =>
   obtain ⟨e0, hne⟩ := M.apart hi hv
   refine lnM_keep (m := m) rfl (fun s' j hs' hj => ?_) (M.l i x e0)
   obtain ⟨g, e1, e2, e3⟩ := fnd_some hj
   have hkj : k ≠ j := by
    rintro rfl
    rw [ef] at e1
    injection e1 with e1
    subst e1
    exact hne s' hs' (by rw [← e3, hk1, hk2])
   obtain ⟨g', b1, b2, b3, b4, b5⟩ := hsame j g hkj e1
   exact ⟨hTV.fnd b1 (by rw [b2, e2]) (by rw [b3, b4]; exact e3), by simp only [drpM]; rw [getD_at b1, getD_at e1, b5]⟩
end Go.Proofs.YtnaagdmaggdbmaaGreatDoor
namespace Go.Proofs.YtnaagdmaggdbmaaGreatDoor
open Go.RowKit
set_option maxRecDepth 1000000
set_option maxHeartbeats 1000000 in
theorem TagOf_any (vo : Value) (g : Tg) (s : Int) (w : World) (hT : SlR owE w vo g.os) :
  Calls Tryz.prog 170 #[.agg #[.int .i64 g.count, .int .i64 g.next, .int .i64 g.round, vo], .int .i64 s] w fun r w' => r = .returned (.tuple #[.int .i64 (tgT g s), .bool (tgO g s)]) ∧ Below w.heap.size w w' := by
 have HV := Lib.hid hT
 obtain ⟨A, cc, rfl, hbc, hbm, hL⟩ := hT
 have hfm2 : g.os.length ≤ 9223372036854775807 := by unfold maxLen at hbm; omega
 have HL := Lib.hid hL
 have hbx := Own.new_ w 32 #[.int .i64 g.count, .int .i64 g.next, .int .i64 g.round, .slice A g.os.length cc]
 have hbz : Below w.heap.size w (w.alloc (.cells #[.int .i64 g.count, .int .i64 g.next, .int .i64 g.round, .slice A g.os.length cc] 32)) := bA bR
 have hsz0 : (w.alloc (.cells #[.int .i64 g.count, .int .i64 g.next, .int .i64 g.round, .slice A g.os.length cc] 32)).heap.size = w.heap.size + 1 := by simp
 generalize hW : w.alloc (.cells #[.int .i64 g.count, .int .i64 g.next, .int .i64 g.round, .slice A g.os.length cc] 32) = W0 at hbx hbz hsz0
 have q0 := hbx.cell_ 0 (v := .int .i64 g.count) rfl
 have q1 := hbx.cell_ 1 (v := .int .i64 g.next) rfl
 have q2 := hbx.cell_ 2 (v := .int .i64 g.round) rfl
 have q3 := hbx.cell_ 3 (v := .slice A g.os.length cc) rfl
 have HBX := Lib.hid hbx
 clear hL hbx
 go_enter Tryz.func170, Tryz.ntmps170
 go_wp2_with fail
 refine (TagsValid_any _ g _ (HV.out.now hbz)).mono ?_
 rintro e w1 ⟨rfl, hb1⟩
 have HBX1 := Lib.hid (HBX.out.below hb1)
 have HBZ1 := Lib.hid (bT hbz hb1)
 clear hb1 q0 q1 q2 q3
 have q0 := HBX1.out.cell_ 0 (v := .int .i64 g.count) rfl
 have q1 := HBX1.out.cell_ 1 (v := .int .i64 g.next) rfl
 have q2 := HBX1.out.cell_ 2 (v := .int .i64 g.round) rfl
 have q3 := HBX1.out.cell_ 3 (v := .slice A g.os.length cc) rfl
 cases h1 : tgv g with
 | false =>
  obtain ⟨e1, e2⟩ := tgO_no (s := s) h1
  have E1 := Lib.hid e1
  have E2 := Lib.hid e2
  clear e1 e2
  go_wp2
  go_ret2
  exact ⟨by rw [E1.out, E2.out]; rfl, HBZ1.out⟩
 | true =>
  go_wp2_with fail
  refine (own_any _ g s _ (HV.out.now HBZ1.out)).mono ?_
  rintro e w2 ⟨rfl, hb2⟩
  have HBX2 := Lib.hid (HBX1.out.below hb2)
  have HBZ2 := Lib.hid (bT HBZ1.out hb2)
  clear hb2 q0 q1 q2 q3
  have q0 := HBX2.out.cell_ 0 (v := .int .i64 g.count) rfl
  have q1 := HBX2.out.cell_ 1 (v := .int .i64 g.next) rfl
  have q2 := HBX2.out.cell_ 2 (v := .int .i64 g.round) rfl
  have q3 := HBX2.out.cell_ 3 (v := .slice A g.os.length cc) rfl
  by_cases h2 : 0 ≤ ownI g.os s
  case neg =>
   obtain ⟨e1, e2⟩ := tgO_neg h2
   have E1 := Lib.hid e1
   have E2 := Lib.hid e2
   have h2b : ownI g.os s < 0 := by omega
   clear e1 e2
   go_wp2
   go_ret2
   exact ⟨by rw [E1.out, E2.out]; rfl, HBZ2.out⟩
  case pos =>
   obtain ⟨k, o, hk, eo, _⟩ := ownI_lt h2
   obtain ⟨e1, e2⟩ := tgO_yes h1 hk eo
   have E1 := Lib.hid e1
   have E2 := Lib.hid e2
   have HN := Lib.hid hk
   have EO := Lib.hid eo
   have hkl := (List.getElem?_eq_some_iff.1 eo).1
   have HOW : Hid (∀ W, SlR owE W (.slice A g.os.length cc) g.os → Calls Tryz.prog 66 #[.agg #[.int .i64 g.count, .int .i64 g.next, .int .i64 g.round, .slice A g.os.length cc], .int .i64 s] W fun r w' => r = .returned (.int .i64 (k : Int)) ∧ Below W.heap.size W w') := fun W h => by rw [← hk]; exact own_any _ g s W h
   rw [hk]
   have h2b : ¬ (k : Int) < 0 := by omega
   clear e1 e2 hk eo h2 q0 q1 q2 q3
   obtain ⟨b, ob, rfl, hbb, d0, d1⟩ := (HL.out.now (Nat.le_refl _) HBZ2.out).ow EO.out
   have q0 := xcell (HBX2.out.cell_ 0 (v := .int .i64 g.count) rfl) HBX2.out.lt
   have q1 := xcell (HBX2.out.cell_ 1 (v := .int .i64 g.next) rfl) HBX2.out.lt
   have q2 := xcell (HBX2.out.cell_ 2 (v := .int .i64 g.round) rfl) HBX2.out.lt
   have q3 := xcell (HBX2.out.cell_ 3 (v := .slice (some ⟨b, ob, none⟩) g.os.length cc) rfl) HBX2.out.lt
   have y1 := xcell d1 hbb
   clear d0 d1
   go_wp2
   refine wp_region_ext (by kernel_rfl) (by kernel_rfl) ?_
   repeat (go_big_quiet_step ((go_at_call 66; exact ext_call (HOW.out _ (HV.out.now (bT HBZ2.out (Ext.ok _)))))))
   refine wpQuiet_nil ?_
   intro _ hw'
   obtain ⟨⟨wq, hq⟩, hw''⟩ := hw'
   subst hw''
   try dsimp only
   go_wp2
   go_ret2
   exact ⟨by rw [E1.out, E2.out]; rfl, bT HBZ2.out hq⟩
set_option maxHeartbeats 1000000 in
theorem tagFor_any (vb vf vl vo : Value) (m : Ma) (s p : Int) (w : World) (hM : MaR w vb vf vl vo m) :
  Calls Tryz.prog 102 #[.agg #[vb, vf, vl, .int .i64 m.c.hand, .int .i64 m.g.count, .int .i64 m.g.next, .int .i64 m.g.round, vo, .int .i64 m.sp], .int .i64 s, .int .i64 p] w fun r w' => r = .returned (.tuple #[.int .i64 (tagT m s p), .bool (tagO m s p)]) ∧ Below w.heap.size w w' := by
 have HM := Lib.hid hM
 clear hM
 obtain ⟨W0, hW, hbx, hbz, _⟩ := box1 w #[vb, vf, vl, .int .i64 m.c.hand, .int .i64 m.g.count, .int .i64 m.g.next, .int .i64 m.g.round, vo, .int .i64 m.sp] 34
 have HX0 := Lib.hid hbx
 have HB0 := Lib.hid hbz
 clear hbx hbz
 obtain ⟨m00, m10, m20, m30, m40, m50, m60, m70, m80⟩ := cells9 HX0.out
 by_cases h : 128 ≤ p
 ·have E1 : Hid (tagT m s p = -1) := if_pos h
  have E2 : Hid (tagO m s p = true) := if_pos h
  go_enter Tryz.func102, Tryz.ntmps102
  go_wp2
  go_ret2
  exact ⟨by rw [E1.out, E2.out]; rfl, HB0.out⟩
 ·have E1 : Hid (tagT m s p = tgT m.g s) := if_neg h
  have E2 : Hid (tagO m s p = tgO m.g s) := if_neg h
  go_enter Tryz.func102, Tryz.ntmps102
  go_wp2_with fail
  refine (TagOf_any vo m.g s _ (HM.out.o.now HB0.out)).mono ?_
  rintro e w1 ⟨rfl, hb1⟩
  go_wp2
  go_ret2
  exact ⟨by rw [E1.out, E2.out]; rfl, bT HB0.out hb1⟩
set_option maxHeartbeats 1000000 in
theorem l6Tag_any (vb vf vl vo : Value) (m : Ma) (s p : Int) (w : World) (hM : MaR w vb vf vl vo m) (hg : tgv m.g = true) :
  Calls Tryz.prog 142 #[.agg #[vb, vf, vl, .int .i64 m.c.hand, .int .i64 m.g.count, .int .i64 m.g.next, .int .i64 m.g.round, vo, .int .i64 m.sp], .int .i64 s, .int .i64 p] w fun r w' => r = .returned (.tuple #[.int .i64 (tagT m s p), .bool (tagO m s p)]) ∧ Below w.heap.size w w' := by
 have HM := Lib.hid hM
 clear hM
 obtain ⟨W0, hW, hbx, hbz, _⟩ := box1 w #[vb, vf, vl, .int .i64 m.c.hand, .int .i64 m.g.count, .int .i64 m.g.next, .int .i64 m.g.round, vo, .int .i64 m.sp] 34
 have HX0 := Lib.hid hbx
 have HB0 := Lib.hid hbz
 clear hbx hbz
 obtain ⟨m00, m10, m20, m30, m40, m50, m60, m70, m80⟩ := cells9 HX0.out
 by_cases h : 128 ≤ p
 ·have E1 : Hid (tagT m s p = -1) := if_pos h
  have E2 : Hid (tagO m s p = true) := if_pos h
  go_enter Tryz.func142, Tryz.ntmps142
  go_wp2
  go_ret2
  exact ⟨by rw [E1.out, E2.out]; rfl, HB0.out⟩
 ·have E1 : Hid (tagT m s p = tgT m.g s) := if_neg h
  have E2 : Hid (tagO m s p = tgO m.g s) := if_neg h
  by_cases h2 : 0 ≤ ownI m.g.os s
  case neg =>
   obtain ⟨e1, e2⟩ := tgO_neg h2
   have F1 := Lib.hid e1
   have F2 := Lib.hid e2
   have h2b : ownI m.g.os s < 0 := by omega
   clear e1 e2
   go_enter Tryz.func142, Tryz.ntmps142
   go_wp2_with fail
   refine (l5Find_any _ m.g s _ (HM.out.o.now HB0.out)).mono ?_
   rintro e w1 ⟨rfl, hb1⟩
   go_wp2
   go_ret2
   exact ⟨by rw [E1.out, E2.out, F1.out, F2.out]; rfl, bT HB0.out hb1⟩
  case pos =>
   obtain ⟨k, o, hk, eo, _⟩ := ownI_lt h2
   obtain ⟨e1, e2⟩ := tgO_yes hg hk eo
   have F1 := Lib.hid e1
   have F2 := Lib.hid e2
   have HN := Lib.hid hk
   have EO := Lib.hid eo
   have hkl := (List.getElem?_eq_some_iff.1 eo).1
   have h2b : ¬ (k : Int) < 0 := by omega
   clear e1 e2 hk eo h2
   go_enter Tryz.func142, Tryz.ntmps142
   go_wp2_with fail
   refine (l5Find_any _ m.g s _ (HM.out.o.now HB0.out)).mono ?_
   rintro e w1 ⟨rfl, hb1⟩
   rw [HN.out]
   obtain ⟨A, cc, rfl, hbc, hbm, hL⟩ := HM.out.o
   obtain ⟨b, ob, rfl, hbb, d0, d1⟩ := (hL.now (Nat.le_refl _) (bT HB0.out hb1)).ow EO.out
   have HB1 := Lib.hid (bT HB0.out hb1)
   have m7 := (HX0.out.below hb1).cell_ 7 (v := .slice (some ⟨b, ob, none⟩) m.g.os.length cc) rfl
   clear m00 m10 m20 m30 m40 m50 m60 m70 m80 hb1
   go_wp2
   go_ret2
   exact ⟨by rw [E1.out, E2.out, F1.out, F2.out]; rfl, HB1.out⟩
end Go.Proofs.YtnaagdmaggdbmaaGreatDoor
namespace Go.Proofs.YtnaagdmaggdbmaaGreatDoor
open Go.RowKit
set_option maxRecDepth 1000000
theorem Own.ne {w : World} {g g2 : Nat} {t t2 : TypeId} {cs cs2 : Array Value} (h : Own w g t cs) (h2 : Own w g2 t2 cs2) (hne : t ≠ t2) : g ≠ g2 := by
 rintro rfl
 unfold Own at h h2
 rw [h] at h2
 injection h2 with h2
 injection h2 with _ h2
 exact hne h2
set_option maxHeartbeats 2000000 in
theorem MineE.wln {e : TypeId} {B : Nat} {w : World} {g : Nat} {l : List Ln} (h : MineE lnE e B w (some ⟨g, 0, none⟩) l) {k : Nat} (hk : k < l.length) (x : Ln) :
  MineE lnE e B ((((((w.setCell ⟨g, k * 6, none⟩ (.bool x.v)).setCell ⟨g, k * 6 + 1, none⟩ (.int .i64 x.t)).setCell ⟨g, k * 6 + 2, none⟩ (.int .i64 x.p)).setCell ⟨g, k * 6 + 3, none⟩ (.int .i64 x.f)).setCell ⟨g, k * 6 + 4, none⟩ (.int .i64 x.r)).setCell ⟨g, k * 6 + 5, none⟩ (.bool x.w)) (some ⟨g, 0, none⟩) (l.set k x) := by
 obtain ⟨g2, cs, e1, hB, ho, hs⟩ := h.own (by omega)
 injection e1 with e1
 injection e1 with e1
 subst e1
 have hs2 : l.length * 6 ≤ cs.size := by simpa [lnE] using hs
 refine h.write ho ((((((ho.set_ (k * 6) _).set_ (k * 6 + 1) _).set_ (k * 6 + 2) _).set_ (k * 6 + 3) _).set_ (k * 6 + 4) _).set_ (k * 6 + 5) _) (by simp) hk x (fun j u hj => ?_) (fun i hi => ?_)
 ·simp only [lnE] at hj ⊢
  match j, hj with
  | 0, hj => simp at hj; subst hj; simp [Array.getElem?_setIfInBounds]; omega
  | 1, hj => simp at hj; subst hj; simp [Array.getElem?_setIfInBounds]; omega
  | 2, hj => simp at hj; subst hj; simp [Array.getElem?_setIfInBounds]; omega
  | 3, hj => simp at hj; subst hj; simp [Array.getElem?_setIfInBounds]; omega
  | 4, hj => simp at hj; subst hj; simp [Array.getElem?_setIfInBounds]; omega
  | 5, hj => simp at hj; subst hj; simp [Array.getElem?_setIfInBounds]; omega
  | j + 6, hj => simp at hj
 ·simp only [lnE] at hi
  rw [Array.getElem?_setIfInBounds, if_neg (by omega), Array.getElem?_setIfInBounds, if_neg (by omega), Array.getElem?_setIfInBounds, if_neg (by omega), Array.getElem?_setIfInBounds, if_neg (by omega), Array.getElem?_setIfInBounds, if_neg (by omega), Array.getElem?_setIfInBounds, if_neg (by omega)]
theorem SlM.own_ {α : Type} {E : Enc α} {e : TypeId} {B : Nat} {w : World} {A : Option Addr} {n c : Nat} {l : List α} (h : SlM E e B w (.slice A n c) l) : MineE E e B w A l ∧ n = l.length ∧ l.length ≤ c ∧ c ≤ maxLen := by
 obtain ⟨A', c', h1, h2, h3, h4⟩ := h
 injection h1 with h1 h5 h6
 subst h1 h6
 exact ⟨h4, h5, h2, h3⟩
end Go.Proofs.YtnaagdmaggdbmaaGreatDoor
namespace Go.Proofs.YtnaagdmaggdbmaaGreatDoor
open Go.RowKit
set_option maxRecDepth 1000000
theorem unmOK_false {t : Tab} {s p : Int} (h : fOK t s p = false) : unmV t s p = tabz := by unfold unmV; rw [h]; rfl
def rl (fs : List Fr) (a n : Int) (i : Nat) : List Fr := (fs.take i).map (relink a n) ++ fs.drop i
theorem rl_zero (fs : List Fr) (a n : Int) : rl fs a n 0 = fs := by simp [rl]
theorem rl_all (fs : List Fr) (a n : Int) : rl fs a n fs.length = fs.map (relink a n) := by simp [rl]
theorem rl_len (fs : List Fr) (a n : Int) (i : Nat) : (rl fs a n i).length = fs.length := by simp [rl]; omega
theorem rl_at {fs : List Fr} {a n : Int} {i : Nat} {f : Fr} (h : fs[i]? = some f) : (rl fs a n i)[i]? = some f := by
 obtain ⟨hlt, _⟩ := List.getElem?_eq_some_iff.1 h
 unfold rl
 rw [List.getElem?_append_right (by simp; omega)]
 simp [Nat.min_eq_left (Nat.le_of_lt hlt), h]
theorem rl_step {fs : List Fr} {a n : Int} {i : Nat} {f : Fr} (h : fs[i]? = some f) : rl fs a n (i + 1) = (rl fs a n i).set i (relink a n f) := by
 obtain ⟨hlt, he⟩ := List.getElem?_eq_some_iff.1 h
 apply List.ext_getElem?
 intro j
 rw [List.getElem?_set]
 unfold rl
 by_cases hj : i = j
 ·subst hj
  rw [if_pos rfl, if_pos (by simp; omega), List.getElem?_append_left (by simp; omega), List.getElem?_map, List.getElem?_take_of_lt (by omega), h]
  rfl
 ·rw [if_neg hj]
  by_cases hj2 : j < i
  ·rw [List.getElem?_append_left (by simp; omega), List.getElem?_append_left (by simp; omega), List.getElem?_map, List.getElem?_map, List.getElem?_take_of_lt (by omega), List.getElem?_take_of_lt (by omega)]
  ·rw [List.getElem?_append_right (by simp; omega), List.getElem?_append_right (by simp; omega), List.getElem?_drop, List.getElem?_drop]
   simp
   congr 1
   omega
end Go.Proofs.YtnaagdmaggdbmaaGreatDoor
namespace Go.Proofs.YtnaagdmaggdbmaaGreatDoor
open Go.RowKit
theorem bool_iff {a b : Bool} (h : a = true ↔ b = true) : a = b := by cases a <;> cases b <;> simp_all
end Go.Proofs.YtnaagdmaggdbmaaGreatDoor
