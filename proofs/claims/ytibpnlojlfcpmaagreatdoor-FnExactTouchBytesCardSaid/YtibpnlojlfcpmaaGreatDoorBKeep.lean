/- A part of the proofs of this seat: Keep, Val. -/
import Derived.Test.YtibpnlojlfcpmaaGreatDoorBCopy
set_option linter.unusedVariables false
set_option linter.unusedSimpArgs false
set_option maxRecDepth 1000000
namespace Go.Proofs.YtibpnlojlfcpmaaGreatDoor
open Go.RowKit
theorem chn_self {fs : List Fr} : ∀ {k : Nat} {i : Int} {ch : List Nat}, chn fs k i = some ch → chn fs ch.length i = some ch := by
 intro k
 induction k with
 | zero =>
  intro i ch h
  by_cases hi : i = -1
  ·subst hi; rw [chn_neg] at h ⊢; exact h
  ·rw [chn_none0 hi] at h; cases h
 | succ k ih =>
  intro i ch h
  by_cases hi : i = -1
  ·subst hi; rw [chn_neg] at h ⊢; exact h
  ·obtain ⟨j, k1, f, r, rfl, hk1, e, hu, h2, rfl⟩ := chn_cons h hi
   have : k1 = k := by omega
   subst this
   rw [List.length_cons, chn_step _ e hu, ih h2]
   rfl
theorem chn_congr {fs fs' : List Fr} : ∀ {k : Nat} {i : Int} {ch : List Nat}, chn fs k i = some ch → (∀ j ∈ ch, ∀ f, fs[j]? = some f → ∃ f', fs'[j]? = some f' ∧ f'.used = f.used ∧ f'.n = f.n) → chn fs' k i = some ch := by
 intro k
 induction k with
 | zero =>
  intro i ch h _
  by_cases hi : i = -1
  ·subst hi; rw [chn_neg] at h ⊢; exact h
  ·rw [chn_none0 hi] at h; cases h
 | succ k ih =>
  intro i ch h hc
  by_cases hi : i = -1
  ·subst hi; rw [chn_neg] at h ⊢; exact h
  ·obtain ⟨j, k1, f, r, rfl, hk1, e, hu, h2, rfl⟩ := chn_cons h hi
   have : k1 = k := by omega
   subst this
   obtain ⟨f', e', hu', hn'⟩ := hc j (by simp) f e
   rw [chn_step _ e' (hu'.trans hu), hn', ih h2 (fun j' hj' => hc j' (by simp [hj']))]
   rfl
theorem chn_lt' {fs : List Fr} {k : Nat} {i : Int} {ch : List Nat} {x : Nat} (h : chn fs k i = some ch) (hx : x < fs.length) (hn : x ∉ ch) : ch.length < fs.length := by
 have h1 := len_sub (a := x :: ch) (b := List.range fs.length) (List.nodup_cons.2 ⟨hn, chn_nodup h⟩) (fun y hy => by
  rcases List.mem_cons.1 hy with rfl | hy
  ·exact List.mem_range.2 hx
  ·obtain ⟨f, e, _⟩ := chn_mem h y hy
   obtain ⟨hx, _⟩ := List.getElem?_eq_some_iff.1 e
   exact List.mem_range.2 hx)
 simp at h1
 omega
structure TV (t : Tab) : Prop where
 sz : 1 ≤ t.fs.length ∧ t.fs.length ≤ 16 ∧ 1 ≤ t.bs.length ∧ t.bs.length ≤ 16
 ok : ∀ (i : Nat) (f : Fr), t.fs[i]? = some f → frok f = true
 key : ∀ (i j : Nat) (f g : Fr), t.fs[i]? = some f → t.fs[j]? = some g → f.used = true → g.used = true → (f.s, f.p) = (g.s, g.p) → i = j
 ch : ∀ b : Nat, b < t.bs.length → ∃ ch, bch t b = some ch ∧ ∀ i ∈ ch, hok t b i = true
 cov : ∀ (i : Nat) (f : Fr), t.fs[i]? = some f → f.used = true → ∃ b ch, b < t.bs.length ∧ bch t b = some ch ∧ i ∈ ch
theorem frs_of {fs : List Fr} (h : ∀ (i : Nat) (f : Fr), fs[i]? = some f → frok f = true) (hd : ∀ i, i < fs.length → dupf fs i = true) : ∀ n, n ≤ fs.length → frs fs n = true := by
 intro n
 induction n with
 | zero => intro _; rfl
 | succ n ih =>
  intro hn
  unfold frs
  have e : fs[n]? = some fs[n] := List.getElem?_eq_getElem (by omega)
  rw [ih (by omega), hd n (by omega), e]
  simp [h n _ e]
theorem dupf_of {fs : List Fr} {i : Nat} (h : ∀ (j : Nat) (f g : Fr), j < i → fs[j]? = some f → fs[i]? = some g → f.used = true → g.used = true → ¬ (f.s, f.p) = (g.s, g.p)) : dupf fs i = true := by
 unfold dupf
 cases e : fs[i]? with
 | none => rfl
 | some g =>
  simp only
  cases hg : g.used with
  | false => rfl
  | true =>
   rw [Bool.not_true, Bool.false_or, List.all_eq_true]
   intro f hf
   obtain ⟨j, hj, he⟩ := List.getElem_of_mem hf
   rw [List.length_take] at hj
   have ej : fs[j]? = some f := by rw [List.getElem_take] at he; rw [List.getElem?_eq_getElem (by omega), he]
   cases hu : f.used with
   | false => rfl
   | true =>
    rw [Bool.not_true, Bool.false_or, decide_eq_true_eq]
    exact h j f g (by omega) ej e hu hg
theorem boks_of {t : Tab} : ∀ {n : Nat}, (∀ b, b < n → bok t b = true) → boks t n = true := by
 intro n
 induction n with
 | zero => intro _; rfl
 | succ n ih => intro h; unfold boks; rw [ih (fun b hb => h b (by omega)), h n (by omega)]; rfl
theorem uni_of {t : Tab} {b : Nat} {ch : List Nat} {j : Nat} : ∀ {n : Nat}, b < n → bch t b = some ch → j ∈ ch → j ∈ uni t n := by
 intro n
 induction n with
 | zero => intro h; omega
 | succ n ih =>
  intro h e hj
  unfold uni
  rw [List.mem_append]
  rcases Nat.lt_or_ge b n with h1 | h1
  ·exact .inl (ih h1 e hj)
  ·obtain rfl : b = n := by omega
   exact .inr (by rw [e]; exact hj)
theorem tv_TV {t : Tab} : tv t = true ↔ TV t := by
 constructor
 ·intro h
  obtain ⟨h1, h2, h3, _⟩ := tv_parts h
  refine ⟨h1, fun i f e => ?_, fun i j f g ei ej hf hg hk => key_once h2 ei ej hf hg hk, fun b hb => bok_parts (boks_at h3 hb), fun i f e hu => ?_⟩
  ·obtain ⟨hi, _⟩ := List.getElem?_eq_some_iff.1 e
   obtain ⟨⟨g, eg, hg⟩, _⟩ := frs_at h2 hi
   rw [e] at eg
   injection eg with eg
   rw [eg]; exact hg
  ·obtain ⟨b, ch, hb, e1, h4, _⟩ := tv_in h e hu
   exact ⟨b, ch, hb, e1, h4⟩
 ·intro h
  obtain ⟨h1, h2, h3, h4⟩ := h.sz
  have hb : boks t t.bs.length = true := boks_of fun b hb => by
   obtain ⟨ch, e, hc⟩ := h.ch b hb
   unfold bok
   rw [e]
   exact List.all_eq_true.2 hc
  have hf : frs t.fs t.fs.length = true := frs_of h.ok (fun i hi => dupf_of fun j f g hj ej ei hu hg hk => by have := h.key j i f g ej ei hu hg hk; omega) _ (Nat.le_refl _)
  have hs : bsum t t.bs.length = nus t.fs t.fs.length := by
   rw [← uni_len, nus_eq _ _ (Nat.le_refl _)]
   apply Nat.le_antisymm
   ·refine len_sub (uni_nodup hb) fun x hx => ?_
    obtain ⟨b', ch, _, e1, h1⟩ := uni_mem hx
    obtain ⟨g, e2, hu2⟩ := bch_mem e1 x h1
    obtain ⟨hx, _⟩ := List.getElem?_eq_some_iff.1 e2
    rw [List.mem_filter, List.mem_range]
    exact ⟨hx, by unfold usedAt; rw [e2]; exact hu2⟩
   ·refine len_sub (List.nodup_range.filter _) fun x hx => ?_
    rw [List.mem_filter, List.mem_range] at hx
    obtain ⟨hx1, hx2⟩ := hx
    unfold usedAt at hx2
    rw [List.getElem?_eq_getElem hx1] at hx2
    obtain ⟨b, ch, hb', e, hm⟩ := h.cov x _ (List.getElem?_eq_getElem hx1) hx2
    exact uni_of hb' e hm
  unfold tv tsz
  rw [hf, hb, hs]
  simp [h1, h2, h3, h4]
theorem TV.map {t : Tab} (h : TV t) {s p r : Int} {i : Nat} {f0 : Fr} (hk : kval (s, p) = true) (hn : fnd t.fs s p = none) (hi : t.fs[i]? = some f0) (hu : f0.used = false) (hr : inR r 8 = true) :
  TV ⟨t.bs.set (bkt t s p) i, t.fs.set i ⟨true, s, p, r, t.bs.getD (bkt t s p) 0⟩⟩ := by
 obtain ⟨h1, h2, h3, h4⟩ := h.sz
 obtain ⟨hb, he⟩ := bkt_in hk h3
 obtain ⟨hil, _⟩ := List.getElem?_eq_some_iff.1 hi
 have hout : ∀ {b : Nat} {ch : List Nat}, bch t b = some ch → i ∉ ch := fun e hm => by
  obtain ⟨f, e1, hf⟩ := bch_mem e i hm
  rw [hi] at e1
  injection e1 with e1
  rw [e1] at hu
  rw [hu] at hf; cases hf
 have hcg : ∀ {k : Nat} {x : Int} {ch : List Nat} {f : Fr}, chn t.fs k x = some ch → i ∉ ch → chn (t.fs.set i f) k x = some ch := fun e hm =>
  chn_congr e fun j hj g eg => ⟨g, by rw [set_ne (by rintro rfl; exact hm hj)]; exact eg, rfl, rfl⟩
 have hbn : ∀ {b : Nat} {ch : List Nat}, b ≠ bkt t s p → bch t b = some ch → bch ⟨t.bs.set (bkt t s p) i, t.fs.set i ⟨true, s, p, r, t.bs.getD (bkt t s p) 0⟩⟩ b = some ch := fun hne e => by
  obtain ⟨x, ex, ec⟩ := bch_some e
  rw [bch_of (t := ⟨t.bs.set (bkt t s p) i, _⟩) (i := x) (by rw [set_ne (fun e => hne e.symm)]; exact ex)]
  simp only [List.length_set]
  exact hcg ec (hout e)
 have hbe : ∀ {ch : List Nat}, bch t (bkt t s p) = some ch → bch ⟨t.bs.set (bkt t s p) i, t.fs.set i ⟨true, s, p, r, t.bs.getD (bkt t s p) 0⟩⟩ (bkt t s p) = some (i :: ch) := fun {ch} e => by
  obtain ⟨x, ex, ec⟩ := bch_some e
  rw [bch_of (t := ⟨t.bs.set (bkt t s p) i, _⟩) (i := (i : Int)) (set_eq hb)]
  simp only [List.length_set]
  have hl := chn_lt' ec hil (hout e)
  obtain ⟨m, hm⟩ : ∃ m, t.fs.length = m + 1 := ⟨t.fs.length - 1, by omega⟩
  rw [hm, chn_step m (set_eq hil) rfl]
  have hx : t.bs.getD (bkt t s p) 0 = x := by rw [List.getD_eq_getElem?_getD, ex]; rfl
  simp only [hx]
  rw [chn_more (show ch.length ≤ m by omega) (hcg (chn_self ec) (hout e))]
  rfl
 have hok' : ∀ {b j : Nat}, j ≠ i → hok t b j = true → hok ⟨t.bs.set (bkt t s p) i, t.fs.set i ⟨true, s, p, r, t.bs.getD (bkt t s p) 0⟩⟩ b j = true := fun hne e => by
  unfold hok at e ⊢
  simp only [List.length_set]
  rw [set_ne (fun e => hne e.symm)]
  exact e
 refine ⟨by simp only [List.length_set]; exact h.sz, fun j f e => ?_, fun j k f g ej ek hf hg hkk => ?_, fun b hb' => ?_, fun j f e hf => ?_⟩
 ·by_cases hj : i = j
  ·subst hj
   rw [set_eq hil] at e
   injection e with e
   subst e
   simp [frok, hk, hr]
  ·rw [set_ne hj] at e
   exact h.ok j f e
 ·by_cases hj : i = j
  ·subst hj
   rw [set_eq hil] at ej
   injection ej with ej
   subst ej
   by_cases hk2 : i = k
   ·exact hk2
   ·rw [set_ne hk2] at ek
    exact absurd hkk.symm (fnd_none hn ek hg)
  ·rw [set_ne hj] at ej
   by_cases hk2 : i = k
   ·subst hk2
    rw [set_eq hil] at ek
    injection ek with ek
    subst ek
    exact absurd hkk (fnd_none hn ej hf)
   ·rw [set_ne hk2] at ek
    exact h.key j k f g ej ek hf hg hkk
 ·simp only [List.length_set] at hb'
  obtain ⟨ch, e, hc⟩ := h.ch b hb'
  by_cases hbb : b = bkt t s p
  ·subst hbb
   refine ⟨_, hbe e, fun j hj => ?_⟩
   rcases List.mem_cons.1 hj with hji | hm
   ·subst hji
    unfold hok
    simp only [List.length_set]
    rw [set_eq hil]
    simp only
    rw [decide_eq_true_eq]
    exact he
   ·exact hok' (by rintro rfl; exact hout e hm) (hc j hm)
  ·exact ⟨ch, hbn hbb e, fun j hj => hok' (by rintro rfl; exact hout e hj) (hc j hj)⟩
 ·by_cases hj : i = j
  ·subst hj
   obtain ⟨ch, e1, _⟩ := h.ch _ hb
   exact ⟨_, _, by simp only [List.length_set]; exact hb, hbe e1, by simp⟩
  ·rw [set_ne hj] at e
   obtain ⟨b, ch, hb', e1, hm⟩ := h.cov j f e hf
   by_cases hbb : b = bkt t s p
   ·subst hbb
    exact ⟨_, _, by simp only [List.length_set]; exact hb', hbe e1, by simp [hm]⟩
   ·exact ⟨b, ch, by simp only [List.length_set]; exact hb', hbn hbb e1, hm⟩
structure CV (c : Ca) : Prop where
 sz : 1 ≤ c.ls.length ∧ c.ls.length ≤ 8
 hand : inR c.hand c.ls.length = true
 ok : ∀ (i : Nat) (x : Ln), c.ls[i]? = some x → lnok x = true
 cl : ∀ (i j : Nat) (x y : Ln), i ≠ j → c.ls[i]? = some x → c.ls[j]? = some y → clash x y = false
 loose : ∃ (i : Nat) (x : Ln), c.ls[i]? = some x ∧ x.w = false
theorem clash_symm (x y : Ln) : clash x y = clash y x := by
 unfold clash
 rw [Bool.eq_iff_iff]
 simp only [Bool.and_eq_true, Bool.or_eq_true, decide_eq_true_eq]
 constructor
 ·rintro ⟨⟨⟨a, b⟩, c⟩, d⟩
  refine ⟨⟨⟨b, a⟩, c.symm⟩, ?_⟩
  rcases d with (d | d) | d
  ·exact .inl (.inl d.symm)
  ·exact .inr d
  ·exact .inl (.inr d)
 ·rintro ⟨⟨⟨a, b⟩, c⟩, d⟩
  refine ⟨⟨⟨b, a⟩, c.symm⟩, ?_⟩
  rcases d with (d | d) | d
  ·exact .inl (.inl d.symm)
  ·exact .inr d
  ·exact .inl (.inr d)
theorem lok_of {ls : List Ln} (h1 : ∀ (i : Nat) (x : Ln), ls[i]? = some x → lnok x = true) (h2 : ∀ (i j : Nat) (x y : Ln), i ≠ j → ls[i]? = some x → ls[j]? = some y → clash x y = false) : ∀ k, k ≤ ls.length → lok ls k = true
  | 0, _ => rfl
  | k + 1, hk => by
    obtain ⟨x, e⟩ : ∃ x, ls[k]? = some x := ⟨_, List.getElem?_eq_getElem (by omega)⟩
    exact lok_step (lok_of h1 h2 k (by omega)) e (h1 k x e) (fun r y hr er => h2 k r x y (by omega) e er)
theorem cav_CV {c : Ca} : cav c = true ↔ CV c := by
 constructor
 ·intro h
  obtain ⟨a, b, d, e, f⟩ := cav_parts h
  refine ⟨⟨a, b⟩, d, fun i x hi => ?_, fun i j x y hij hi hj => ?_, ?_⟩
  ·obtain ⟨x', e1, e2, _⟩ := lok_at e (List.getElem?_eq_some_iff.1 hi).1
   rw [hi] at e1
   injection e1 with e1
   rw [e1]; exact e2
  ·rcases Nat.lt_or_gt_of_ne hij with hlt | hlt
   ·obtain ⟨y', e1, _, e3⟩ := lok_at e (List.getElem?_eq_some_iff.1 hj).1
    rw [hj] at e1
    injection e1 with e1
    subst e1
    rw [clash_symm]
    exact e3 i x hlt hi
   ·obtain ⟨x', e1, _, e3⟩ := lok_at e (List.getElem?_eq_some_iff.1 hi).1
    rw [hi] at e1
    injection e1 with e1
    subst e1
    exact e3 j y hlt hj
  ·rw [List.any_eq_true] at f
   obtain ⟨x, hx, hw⟩ := f
   obtain ⟨i, hi, e1⟩ := List.getElem_of_mem hx
   exact ⟨i, x, by rw [List.getElem?_eq_getElem hi, e1], by simpa using hw⟩
 ·intro h
  rw [cav_end h.sz.1 h.sz.2 h.hand (lok_of h.ok h.cl _ (Nat.le_refl _)), List.any_eq_true]
  obtain ⟨i, x, e, hw⟩ := h.loose
  exact ⟨x, List.mem_of_getElem? e, by rw [hw]; rfl⟩
theorem lnok_z : lnok lnz = true := by decide
theorem clash_z (y : Ln) : clash lnz y = false := by unfold clash; rfl
theorem CV.drop {c : Ca} (h : CV c) (k : Nat) : CV ⟨c.ls.set k lnz, c.hand⟩ := by
 refine ⟨by simpa using h.sz, by simpa using h.hand, fun i x hi => ?_, fun i j x y hij hi hj => ?_, ?_⟩
 ·simp only at hi
  rw [List.getElem?_set] at hi
  split at hi
  ·split at hi
   ·injection hi with hi
    rw [← hi]; exact lnok_z
   ·cases hi
  ·exact h.ok i x hi
 ·simp only at hi hj
  rw [List.getElem?_set] at hi hj
  split at hi
  ·split at hi
   ·injection hi with hi
    rw [← hi]; exact clash_z y
   ·cases hi
  ·split at hj
   ·split at hj
    ·injection hj with hj
     rw [← hj, clash_symm]; exact clash_z x
    ·cases hj
   ·exact h.cl i j x y hij hi hj
 ·obtain ⟨i, x, e, hw⟩ := h.loose
  by_cases hk : k = i
  ·subst hk
   exact ⟨k, lnz, by simp only; rw [List.getElem?_set, if_pos rfl, if_pos (List.getElem?_eq_some_iff.1 e).1], rfl⟩
  ·exact ⟨i, x, by simp only; rw [List.getElem?_set, if_neg hk]; exact e, hw⟩
theorem fits_iff {t p : Int} {x : Ln} : fits t p x = true ↔ x.v = true ∧ x.p = p ∧ (x.t = t ∨ x.t = -1) := by
 unfold fits
 simp only [Bool.and_eq_true, Bool.or_eq_true, decide_eq_true_eq, and_assoc]
theorem plcI_none {ls : List Ln} {t p : Int} (h : ¬ 0 ≤ plcI ls t p) {i : Nat} {x : Ln} (e : ls[i]? = some x) : fits t p x = false := by
 unfold plcI plc at h
 cases e2 : ls.findIdx? (fits t p) with
 | some j => rw [e2] at h; simp at h
 | none =>
  rw [List.findIdx?_eq_none_iff] at e2
  exact e2 x (List.mem_of_getElem? e)
theorem CV.once {c : Ca} (h : CV c) {t p : Int} {i j : Nat} {x y : Ln} (hi : c.ls[i]? = some x) (hj : c.ls[j]? = some y) (hx : fits t p x = true) (hy : fits t p y = true) : i = j := by
 by_cases hij : i = j
 ·exact hij
 ·have h1 := h.cl i j x y hij hi hj
  obtain ⟨a1, a2, a3⟩ := fits_iff.1 hx
  obtain ⟨b1, b2, b3⟩ := fits_iff.1 hy
  exfalso
  have : clash x y = true := by
   unfold clash
   simp only [Bool.and_eq_true, Bool.or_eq_true, decide_eq_true_eq]
   refine ⟨⟨⟨a1, b1⟩, by rw [a2, b2]⟩, ?_⟩
   rcases a3 with a3 | a3
   ·rcases b3 with b3 | b3
    ·exact .inl (.inl (by rw [a3, b3]))
    ·exact .inr b3
   ·exact .inl (.inr a3)
  rw [h1] at this
  cases this
theorem lnM_some {m : Ma} {x : Ln} (hv : x.v = true) (h : lnM m x = true) : ∃ (s : Int) (i : Nat), lnSp m x = some s ∧ fnd m.t.fs (keyI s x.p) x.p = some i ∧ (i : Int) = x.f ∧ (m.t.fs.getD i frz).r = x.r ∧ ((128 ≤ x.p) ↔ x.t = -1) ∧ (x.w = true → 128 ≤ x.p) := by
 rw [lnM_def, if_pos hv] at h
 simp only [Bool.and_eq_true, Bool.or_eq_true, decide_eq_true_eq] at h
 obtain ⟨⟨h1, h2⟩, h3⟩ := h
 have hw : x.w = true → 128 ≤ x.p := fun hw => by
  rcases h2 with h2 | h2
  ·rw [hw] at h2; cases h2
  ·exact h2
 cases hs : lnSp m x with
 | none => rw [hs] at h3; cases h3
 | some s =>
  rw [hs] at h3
  simp only at h3
  cases e : fnd m.t.fs (keyI s x.p) x.p with
  | none => rw [e] at h3; cases h3
  | some i =>
   rw [e] at h3
   simp only [Bool.and_eq_true, decide_eq_true_eq] at h3
   exact ⟨s, i, rfl, e, h3.1, h3.2, h1, hw⟩
theorem lnM_mk {m : Ma} {x : Ln} {s : Int} {i : Nat} (hs : lnSp m x = some s) (hf : fnd m.t.fs (keyI s x.p) x.p = some i) (hi : (i : Int) = x.f) (hr : (m.t.fs.getD i frz).r = x.r) (h1 : (128 ≤ x.p) ↔ x.t = -1) (hw : x.w = true → 128 ≤ x.p) : lnM m x = true := by
 rw [lnM_def]
 split
 ·rw [hs]
  simp only
  rw [hf]
  simp only [Bool.and_eq_true, Bool.or_eq_true, decide_eq_true_eq]
  refine ⟨⟨h1, ?_⟩, hi, hr⟩
  cases hx : x.w with
  | false => exact .inl rfl
  | true => exact .inr (hw hx)
 ·rfl
structure MV (m : Ma) : Prop where
 t : TV m.t
 c : CV m.c
 g : tgv m.g = true
 o : 0 ≤ ownI m.g.os m.sp
 f : ∀ (i : Nat) (f : Fr), m.t.fs[i]? = some f → frM f = true
 l : ∀ (i : Nat) (x : Ln), m.c.ls[i]? = some x → lnM m x = true
theorem mav_MV {m : Ma} : mav m = true ↔ MV m := by
 constructor
 ·intro h
  obtain ⟨a, b, c, d, e, f⟩ := mav_parts h
  exact ⟨tv_TV.1 a, cav_CV.1 b, c, d, fun i x hi => e x (List.mem_of_getElem? hi), fun i x hi => f x (List.mem_of_getElem? hi)⟩
 ·intro h
  refine mav_end (tv_TV.2 h.t) (cav_CV.2 h.c) h.g h.o (fun f hf => ?_) (fun x hx => ?_)
  ·obtain ⟨i, hi, e⟩ := List.getElem_of_mem hf
   exact h.f i f (by rw [List.getElem?_eq_getElem hi, e])
  ·obtain ⟨i, hi, e⟩ := List.getElem_of_mem hx
   exact h.l i x (by rw [List.getElem?_eq_getElem hi, e])
theorem TV.fnd {t : Tab} (h : TV t) {s p : Int} {i : Nat} {f : Fr} (e : t.fs[i]? = some f) (hu : f.used = true) (hk : (f.s, f.p) = (s, p)) : fnd t.fs s p = some i := fnd_of (tv_parts (tv_TV.2 h)).2.1 e hu hk
theorem getD_at {fs : List Fr} {i : Nat} {f : Fr} (e : fs[i]? = some f) : fs.getD i frz = f := by rw [List.getD_eq_getElem?_getD, e]; rfl
theorem MV.apart {m : Ma} (M : MV m) {s p : Int} {i : Nat} {x : Ln} (hi : (drpC m s p).ls[i]? = some x) (hv : x.v = true) :
  m.c.ls[i]? = some x ∧ ∀ s', lnSp m x = some s' → ¬ (keyI s' x.p, x.p) = (s, p) := by
 have key : ∀ (y : Ln), m.c.ls[i]? = some y → y.v = true → ∀ s', lnSp m y = some s' → (keyI s' y.p, y.p) = (s, p) → tagO m s p = true ∧ fits (tagT m s p) p y = true := by
  intro y hy hyv s' hs' hkk
  obtain ⟨_, _, a1, a2, a3, a4, a5, a6⟩ := lnM_some hyv (M.l i y hy)
  injection hkk with hk1 hk2
  by_cases h128 : 128 ≤ p
  ·have ht : y.t = -1 := a5.1 (by rw [hk2]; exact h128)
   exact ⟨if_pos h128, fits_iff.2 ⟨hyv, hk2, .inr ht⟩⟩
  ·unfold lnSp at hs'
   rw [if_neg (by rw [hk2]; exact h128)] at hs'
   cases es : spc m.g.os y.t with
   | none => rw [es] at hs'; cases hs'
   | some j =>
    rw [es] at hs'
    injection hs' with hs'
    unfold spc at es
    obtain ⟨hj, hj1, _⟩ := List.findIdx?_eq_some_iff_getElem.1 es
    have ej : m.g.os[j]? = some m.g.os[j] := List.getElem?_eq_getElem hj
    rw [List.getD_eq_getElem?_getD, ej] at hs'
    simp only [Option.getD_some] at hs'
    have hj1 : m.g.os[j].2 = y.t := by simpa using hj1
    have hks : keyI s' y.p = s' := by unfold keyI; rw [if_neg (by rw [hk2]; exact h128)]
    rw [hks] at hk1
    have hos : m.g.os[j].1 = s := by rw [hs', hk1]
    obtain ⟨k, o, hk3, ek, hk4⟩ : ∃ (k : Nat) (o : Int × Int), ownI m.g.os s = (k : Int) ∧ m.g.os[k]? = some o ∧ o.1 = s := by
     refine ownI_lt ?_
     unfold ownI
     cases eo : own m.g.os s with
     | some _ => simp
     | none =>
      unfold own at eo
      rw [List.findIdx?_eq_none_iff] at eo
      have := eo _ (List.mem_of_getElem? ej)
      rw [hos] at this
      simp at this
    have hkj : k = j := by
     obtain ⟨_, ht⟩ := tgv_parts M.g
     rcases Nat.lt_trichotomy k j with hlt | heq | hlt
     ·obtain ⟨q, eq, _, _, _, _, hq⟩ := tok_at ht hj
      rw [ej] at eq
      injection eq with eq
      exact absurd (by rw [← eq, hos, hk4]) (hq k o hlt ek)
     ·exact heq
     ·obtain ⟨q, eq, _, _, _, _, hq⟩ := tok_at ht (List.getElem?_eq_some_iff.1 ek).1
      rw [ek] at eq
      injection eq with eq
      exact absurd (by rw [← eq, hos, hk4]) (hq j _ hlt ej)
    subst hkj
    obtain ⟨b1, b2⟩ := tgO_yes M.g hk3 ek
    rw [ej] at ek
    injection ek with ek
    refine ⟨by unfold tagO; rw [if_neg h128]; exact b1, fits_iff.2 ⟨hyv, hk2, .inl ?_⟩⟩
    unfold tagT
    rw [if_neg h128, b2, ← ek, hj1]
 unfold drpC at hi
 split at hi
 ·rename_i hh
  simp only at hi
  rw [List.getElem?_set] at hi
  split at hi
  ·split at hi
   ·injection hi with hi
    rw [← hi] at hv
    cases hv
   ·cases hi
  ·rename_i hne
   refine ⟨hi, fun s' hs' hkk => ?_⟩
   obtain ⟨_, hf⟩ := key x hi hv s' hs' hkk
   obtain ⟨k, y, e1, e2, e3⟩ := plcI_lt hh.2
   have := M.c.once hi e2 hf e3
   rw [e1, Int.toNat_natCast] at hne
   exact hne this.symm
 ·rename_i hh
  refine ⟨hi, fun s' hs' hkk => ?_⟩
  obtain ⟨h1, hf⟩ := key x hi hv s' hs' hkk
  by_cases hp : 0 ≤ plcI m.c.ls (tagT m s p) p
  ·exact hh ⟨h1, hp⟩
  ·rw [plcI_none hp hi] at hf; cases hf
end Go.Proofs.YtibpnlojlfcpmaaGreatDoor
