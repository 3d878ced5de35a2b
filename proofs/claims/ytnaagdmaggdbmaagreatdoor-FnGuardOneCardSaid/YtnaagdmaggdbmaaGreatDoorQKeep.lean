/- A part of the proofs of this seat: Keep, Val. -/
import Derived.Test.YtnaagdmaggdbmaaGreatDoorQPlain
import Derived.Test.YtnaagdmaggdbmaaGreatDoorQPrI
set_option linter.unusedVariables false
set_option linter.unusedSimpArgs false
namespace Go.Proofs.YtnaagdmaggdbmaaGreatDoor
open Go.RowKit
theorem chn_self {fs : List Fr} : ∀ {k : Nat} {i : Int} {ch : List Nat}, chn fs k i = some ch → chn fs ch.length i = some ch := by
 intro k
 induction k with
 | zero =>
  intro i ch h
  by_cases hi : i = -1
  ·subst hi; rw [chn_neg] at h ⊢; exact h
  ·rw [chn_none0 hi] at h; cases h
 | succ k ih =>
  intro i ch h
  by_cases hi : i = -1
  ·subst hi; rw [chn_neg] at h ⊢; exact h
  ·obtain ⟨j, k1, f, r, rfl, hk1, e, hu, h2, rfl⟩ := chn_cons h hi
   have : k1 = k := by omega
   subst this
   rw [List.length_cons, chn_step _ e hu, ih h2]
   rfl
theorem chn_congr {fs fs' : List Fr} : ∀ {k : Nat} {i : Int} {ch : List Nat}, chn fs k i = some ch → (∀ j ∈ ch, ∀ f, fs[j]? = some f → ∃ f', fs'[j]? = some f' ∧ f'.used = f.used ∧ f'.n = f.n) → chn fs' k i = some ch := by
 intro k
 induction k with
 | zero =>
  intro i ch h _
  by_cases hi : i = -1
  ·subst hi; rw [chn_neg] at h ⊢; exact h
  ·rw [chn_none0 hi] at h; cases h
 | succ k ih =>
  intro i ch h hc
  by_cases hi : i = -1
  ·subst hi; rw [chn_neg] at h ⊢; exact h
  ·obtain ⟨j, k1, f, r, rfl, hk1, e, hu, h2, rfl⟩ := chn_cons h hi
   have : k1 = k := by omega
   subst this
   obtain ⟨f', e', hu', hn'⟩ := hc j (by simp) f e
   rw [chn_step _ e' (hu'.trans hu), hn', ih h2 (fun j' hj' => hc j' (by simp [hj']))]
   rfl
theorem chn_lt' {fs : List Fr} {k : Nat} {i : Int} {ch : List Nat} {x : Nat} (h : chn fs k i = some ch) (hx : x < fs.length) (hn : x ∉ ch) : ch.length < fs.length := by
 have h1 := len_sub (a := x :: ch) (b := List.range fs.length) (List.nodup_cons.2 ⟨hn, chn_nodup h⟩) (fun y hy => by
  rcases List.mem_cons.1 hy with rfl | hy
  ·exact List.mem_range.2 hx
  ·obtain ⟨f, e, _⟩ := chn_mem h y hy
   obtain ⟨hx, _⟩ := List.getElem?_eq_some_iff.1 e
   exact List.mem_range.2 hx)
 simp at h1
 omega
structure TV (t : Tab) : Prop where
 sz : 1 ≤ t.fs.length ∧ t.fs.length ≤ 16 ∧ 1 ≤ t.bs.length ∧ t.bs.length ≤ 16
 ok : ∀ (i : Nat) (f : Fr), t.fs[i]? = some f → frok f = true
 key : ∀ (i j : Nat) (f g : Fr), t.fs[i]? = some f → t.fs[j]? = some g → f.used = true → g.used = true → (f.s, f.p) = (g.s, g.p) → i = j
 ch : ∀ b : Nat, b < t.bs.length → ∃ ch, bch t b = some ch ∧ ∀ i ∈ ch, hok t b i = true
 cov : ∀ (i : Nat) (f : Fr), t.fs[i]? = some f → f.used = true → ∃ b ch, b < t.bs.length ∧ bch t b = some ch ∧ i ∈ ch
theorem frs_of {fs : List Fr} (h : ∀ (i : Nat) (f : Fr), fs[i]? = some f → frok f = true) (hd : ∀ i, i < fs.length → dupf fs i = true) : ∀ n, n ≤ fs.length → frs fs n = true := by
 intro n
 induction n with
 | zero => intro _; rfl
 | succ n ih =>
  intro hn
  unfold frs
  have e : fs[n]? = some fs[n] := List.getElem?_eq_getElem (by omega)
  rw [ih (by omega), hd n (by omega), e]
  simp [h n _ e]
theorem dupf_of {fs : List Fr} {i : Nat} (h : ∀ (j : Nat) (f g : Fr), j < i → fs[j]? = some f → fs[i]? = some g → f.used = true → g.used = true → ¬ (f.s, f.p) = (g.s, g.p)) : dupf fs i = true := by
 unfold dupf
 cases e : fs[i]? with
 | none => rfl
 | some g =>
  simp only
  cases hg : g.used with
  | false => rfl
  | true =>
   rw [Bool.not_true, Bool.false_or, List.all_eq_true]
   intro f hf
   obtain ⟨j, hj, he⟩ := List.getElem_of_mem hf
   rw [List.length_take] at hj
   have ej : fs[j]? = some f := by rw [List.getElem_take] at he; rw [List.getElem?_eq_getElem (by omega), he]
   cases hu : f.used with
   | false => rfl
   | true =>
    rw [Bool.not_true, Bool.false_or, decide_eq_true_eq]
    exact h j f g (by omega) ej e hu hg
theorem boks_of {t : Tab} : ∀ {n : Nat}, (∀ b, b < n → bok t b = true) → boks t n = true := by
 intro n
 induction n with
 | zero => intro _; rfl
 | succ n ih => intro h; unfold boks; rw [ih (fun b hb => h b (by omega)), h n (by omega)]; rfl
theorem uni_of {t : Tab} {b : Nat} {ch : List Nat} {j : Nat} : ∀ {n : Nat}, b < n → bch t b = some ch → j ∈ ch → j ∈ uni t n := by
 intro n
 induction n with
 | zero => intro h; omega
 | succ n ih =>
  intro h e hj
  unfold uni
  rw [List.mem_append]
  rcases Nat.lt_or_ge b n with h1 | h1
  ·exact .inl (ih h1 e hj)
  ·obtain rfl : b = n := by omega
   exact .inr (by rw [e]; exact hj)
theorem tv_TV {t : Tab} : tv t = true ↔ TV t := by
 constructor
 ·intro h
  obtain ⟨h1, h2, h3, _⟩ := tv_parts h
  refine ⟨h1, fun i f e => ?_, fun i j f g ei ej hf hg hk => key_once h2 ei ej hf hg hk, fun b hb => bok_parts (boks_at h3 hb), fun i f e hu => ?_⟩
  ·obtain ⟨hi, _⟩ := List.getElem?_eq_some_iff.1 e
   obtain ⟨⟨g, eg, hg⟩, _⟩ := frs_at h2 hi
   rw [e] at eg
   injection eg with eg
   rw [eg]; exact hg
  ·obtain ⟨b, ch, hb, e1, h4, _⟩ := tv_in h e hu
   exact ⟨b, ch, hb, e1, h4⟩
 ·intro h
  obtain ⟨h1, h2, h3, h4⟩ := h.sz
  have hb : boks t t.bs.length = true := boks_of fun b hb => by
   obtain ⟨ch, e, hc⟩ := h.ch b hb
   unfold bok
   rw [e]
   exact List.all_eq_true.2 hc
  have hf : frs t.fs t.fs.length = true := frs_of h.ok (fun i hi => dupf_of fun j f g hj ej ei hu hg hk => by have := h.key j i f g ej ei hu hg hk; omega) _ (Nat.le_refl _)
  have hs : bsum t t.bs.length = nus t.fs t.fs.length := by
   rw [← uni_len, nus_eq _ _ (Nat.le_refl _)]
   apply Nat.le_antisymm
   ·refine len_sub (uni_nodup hb) fun x hx => ?_
    obtain ⟨b', ch, _, e1, h1⟩ := uni_mem hx
    obtain ⟨g, e2, hu2⟩ := bch_mem e1 x h1
    obtain ⟨hx, _⟩ := List.getElem?_eq_some_iff.1 e2
    rw [List.mem_filter, List.mem_range]
    exact ⟨hx, by unfold usedAt; rw [e2]; exact hu2⟩
   ·refine len_sub (List.nodup_range.filter _) fun x hx => ?_
    rw [List.mem_filter, List.mem_range] at hx
    obtain ⟨hx1, hx2⟩ := hx
    unfold usedAt at hx2
    rw [List.getElem?_eq_getElem hx1] at hx2
    obtain ⟨b, ch, hb', e, hm⟩ := h.cov x _ (List.getElem?_eq_getElem hx1) hx2
    exact uni_of hb' e hm
  unfold tv tsz
  rw [hf, hb, hs]
  simp [h1, h2, h3, h4]
theorem TV.map {t : Tab} (h : TV t) {s p r : Int} {i : Nat} {f0 : Fr} (hk : kval (s, p) = true) (hn : fnd t.fs s p = none) (hi : t.fs[i]? = some f0) (hu : f0.used = false) (hr : inR r 8 = true) :
  TV ⟨t.bs.set (bkt t s p) i, t.fs.set i ⟨true, s, p, r, t.bs.getD (bkt t s p) 0⟩⟩ := by
 obtain ⟨h1, h2, h3, h4⟩ := h.sz
 obtain ⟨hb, he⟩ := bkt_in hk h3
 obtain ⟨hil, _⟩ := List.getElem?_eq_some_iff.1 hi
 have hout : ∀ {b : Nat} {ch : List Nat}, bch t b = some ch → i ∉ ch := fun e hm => by
  obtain ⟨f, e1, hf⟩ := bch_mem e i hm
  rw [hi] at e1
  injection e1 with e1
  rw [e1] at hu
  rw [hu] at hf; cases hf
 have hcg : ∀ {k : Nat} {x : Int} {ch : List Nat} {f : Fr}, chn t.fs k x = some ch → i ∉ ch → chn (t.fs.set i f) k x = some ch := fun e hm =>
  chn_congr e fun j hj g eg => ⟨g, by rw [set_ne (by rintro rfl; exact hm hj)]; exact eg, rfl, rfl⟩
 have hbn : ∀ {b : Nat} {ch : List Nat}, b ≠ bkt t s p → bch t b = some ch → bch ⟨t.bs.set (bkt t s p) i, t.fs.set i ⟨true, s, p, r, t.bs.getD (bkt t s p) 0⟩⟩ b = some ch := fun hne e => by
  obtain ⟨x, ex, ec⟩ := bch_some e
  rw [bch_of (t := ⟨t.bs.set (bkt t s p) i, _⟩) (i := x) (by rw [set_ne (fun e => hne e.symm)]; exact ex)]
  simp only [List.length_set]
  exact hcg ec (hout e)
 have hbe : ∀ {ch : List Nat}, bch t (bkt t s p) = some ch → bch ⟨t.bs.set (bkt t s p) i, t.fs.set i ⟨true, s, p, r, t.bs.getD (bkt t s p) 0⟩⟩ (bkt t s p) = some (i :: ch) := fun {ch} e => by
  obtain ⟨x, ex, ec⟩ := bch_some e
  rw [bch_of (t := ⟨t.bs.set (bkt t s p) i, _⟩) (i := (i : Int)) (set_eq hb)]
  simp only [List.length_set]
  have hl := chn_lt' ec hil (hout e)
  obtain ⟨m, hm⟩ : ∃ m, t.fs.length = m + 1 := ⟨t.fs.length - 1, by omega⟩
  rw [hm, chn_step m (set_eq hil) rfl]
  have hx : t.bs.getD (bkt t s p) 0 = x := by rw [List.getD_eq_getElem?_getD, ex]; rfl
  simp only [hx]
  rw [chn_more (show ch.length ≤ m by omega) (hcg (chn_self ec) (hout e))]
  rfl
 have hok' : ∀ {b j : Nat}, j ≠ i → hok t b j = true → hok ⟨t.bs.set (bkt t s p) i, t.fs.set i ⟨true, s, p, r, t.bs.getD (bkt t s p) 0⟩⟩ b j = true := fun hne e => by
  unfold hok at e ⊢
  simp only [List.length_set]
  rw [set_ne (fun e => hne e.symm)]
  exact e
 refine ⟨by simp only [List.length_set]; exact h.sz, fun j f e => ?_, fun j k f g ej ek hf hg hkk => ?_, fun b hb' => ?_, fun j f e hf => ?_⟩
 ·by_cases hj : i = j
  ·subst hj
   rw [set_eq hil] at e
   injection e with e
   subst e
   simp [frok, hk, hr]
  ·rw [set_ne hj] at e
   exact h.ok j f e
 ·by_cases hj : i = j
  ·subst hj
   rw [set_eq hil] at ej
   injection ej with ej
   subst ej
   by_cases hk2 : i = k
   ·exact hk2
   ·rw [set_ne hk2] at ek
    exact absurd hkk.symm (fnd_none hn ek hg)
  ·rw [set_ne hj] at ej
   by_cases hk2 : i = k
   ·subst hk2
    rw [set_eq hil] at ek
    injection ek with ek
    subst ek
    exact absurd hkk (fnd_none hn ej hf)
   ·rw [set_ne hk2] at ek
    exact h.key j k f g ej ek hf hg hkk
 ·simp only [List.length_set] at hb'
  obtain ⟨ch, e, hc⟩ := h.ch b hb'
  by_cases hbb : b = bkt t s p
  ·subst hbb
   refine ⟨_, hbe e, fun j hj => ?_⟩
   rcases List.mem_cons.1 hj with hji | hm
   ·subst hji
    unfold hok
    simp only [List.length_set]
    rw [set_eq hil]
    simp only
    rw [decide_eq_true_eq]
    exact he
   ·exact hok' (by rintro rfl; exact hout e hm) (hc j hm)
  ·exact ⟨ch, hbn hbb e, fun j hj => hok' (by rintro rfl; exact hout e hj) (hc j hj)⟩
 ·by_cases hj : i = j
  ·subst hj
   obtain ⟨ch, e1, _⟩ := h.ch _ hb
   exact ⟨_, _, by simp only [List.length_set]; exact hb, hbe e1, by simp⟩
  ·rw [set_ne hj] at e
   obtain ⟨b, ch, hb', e1, hm⟩ := h.cov j f e hf
   by_cases hbb : b = bkt t s p
   ·subst hbb
    exact ⟨_, _, by simp only [List.length_set]; exact hb', hbe e1, by simp [hm]⟩
   ·exact ⟨b, ch, by simp only [List.length_set]; exact hb', hbn hbb e1, hm⟩
theorem TV.rights {t : Tab} (h : TV t) {r : Int} {i : Nat} {f0 : Fr} (hi : t.fs[i]? = some f0) (hu : f0.used = true) (hr : inR r 8 = true) : TV ⟨t.bs, t.fs.set i { f0 with r := r }⟩ := by
 obtain ⟨hil, _⟩ := List.getElem?_eq_some_iff.1 hi
 have hget : ∀ (j : Nat) (f : Fr), (t.fs.set i { f0 with r := r })[j]? = some f → ∃ g, t.fs[j]? = some g ∧ f.used = g.used ∧ f.s = g.s ∧ f.p = g.p ∧ f.n = g.n := fun j f e => by
  by_cases hj : i = j
  ·subst hj
   rw [set_eq hil] at e
   injection e with e
   subst e
   exact ⟨f0, hi, rfl, rfl, rfl, rfl⟩
  ·rw [set_ne hj] at e
   exact ⟨f, e, rfl, rfl, rfl, rfl⟩
 have hget' : ∀ (j : Nat) (g : Fr), t.fs[j]? = some g → ∃ f, (t.fs.set i { f0 with r := r })[j]? = some f ∧ f.used = g.used ∧ f.n = g.n ∧ f.s = g.s ∧ f.p = g.p := fun j g e => by
  by_cases hj : i = j
  ·subst hj
   rw [hi] at e
   injection e with e
   subst e
   exact ⟨_, set_eq hil, rfl, rfl, rfl, rfl⟩
  ·exact ⟨g, by rw [set_ne hj]; exact e, rfl, rfl, rfl, rfl⟩
 have hbe : ∀ {b : Nat} {ch : List Nat}, bch t b = some ch → bch ⟨t.bs, t.fs.set i { f0 with r := r }⟩ b = some ch := fun e => by
  obtain ⟨x, ex, ec⟩ := bch_some e
  rw [bch_of (t := ⟨t.bs, t.fs.set i { f0 with r := r }⟩) (i := x) ex]
  simp only [List.length_set]
  exact chn_congr ec fun j _ g eg => by
   obtain ⟨f, e1, e2, e3, _⟩ := hget' j g eg
   exact ⟨f, e1, e2, e3⟩
 refine ⟨by simp only [List.length_set]; exact h.sz, fun j f e => ?_, fun j k f g ej ek hf hg hkk => ?_, fun b hb' => ?_, fun j f e hf => ?_⟩
 ·by_cases hj : i = j
  ·subst hj
   rw [set_eq hil] at e
   injection e with e
   subst e
   have := h.ok i f0 hi
   unfold frok at this ⊢
   rw [hu] at this ⊢
   simp only [if_true] at this ⊢
   rw [Bool.and_eq_true] at this ⊢
   exact ⟨this.1, hr⟩
  ·rw [set_ne hj] at e
   exact h.ok j f e
 ·obtain ⟨f', e1, e2, e3, e4, _⟩ := hget j f ej
  obtain ⟨g', g1, g2, g3, g4, _⟩ := hget k g ek
  rw [e2] at hf
  rw [g2] at hg
  rw [e3, e4, g3, g4] at hkk
  exact h.key j k f' g' e1 g1 hf hg hkk
 ·obtain ⟨ch, e, hc⟩ := h.ch b hb'
  refine ⟨ch, hbe e, fun j hj => ?_⟩
  obtain ⟨f, e1, e2⟩ := hok_parts (hc j hj)
  obtain ⟨f', g1, _, _, g4, g5⟩ := hget' j f e1
  unfold hok
  simp only
  rw [g1]
  simp only
  rw [decide_eq_true_eq, g4, g5]
  exact e2
 ·obtain ⟨g, e1, e2, _⟩ := hget j f e
  rw [e2] at hf
  obtain ⟨b, ch, hb', e3, hm⟩ := h.cov j g e1 hf
  exact ⟨b, ch, hb', hbe e3, hm⟩
theorem chn_next {fs : List Fr} {k : Nat} {x : Int} {ch : List Nat} (h : chn fs k x = some ch) {j i : Nat} {f : Fr} (hj : j ∈ ch) (e : fs[j]? = some f) (hn : f.n = (i : Int)) : i ∈ ch ∧ ∃ a r, ch = a ++ j :: i :: r := by
 obtain ⟨g, e1, hu, a, r, e2, h3⟩ := chn_mem h j hj
 rw [e] at e1
 injection e1 with e1
 subst e1
 obtain ⟨j', k', f', r', h4, h5, h6, h7, h8, h9⟩ := chn_cons h3 (by omega)
 have hjj : j' = j := by omega
 subst hjj
 rw [e] at h6
 injection h6 with h6
 subst h6
 injection h9 with _ h9
 subst h9
 rw [hn] at h8
 obtain ⟨i', _, _, r'', h10, _, _, _, _, h11⟩ := chn_cons h8 (by omega)
 have : i' = i := by omega
 subst this
 rw [h11] at e2
 exact ⟨by rw [e2]; simp, a, r'', e2⟩
theorem chn_cut {fs : List Fr} {i : Nat} {n : Int} {φ : Fr → Fr} (h1 : ∀ f, (φ f).used = f.used) (h2 : ∀ f, f.n ≠ (i : Int) → (φ f).n = f.n) (h3 : ∀ f, f.used = true → f.n = (i : Int) → (φ f).n = n) {fi : Fr} (hi : fs[i]? = some fi) (hn : fi.n = n) :
  ∀ {a r : List Nat} {k : Nat} {x : Int}, a ≠ [] → chn fs k x = some (a ++ i :: r) → chn ((fs.map φ).set i frz) k x = some (a ++ r) := by
 have hget : ∀ {j : Nat} {f : Fr}, j ≠ i → fs[j]? = some f → ((fs.map φ).set i frz)[j]? = some (φ f) := fun hne e => by
  rw [set_ne (fun e => hne e.symm), List.getElem?_map, e]; rfl
 intro a
 induction a with
 | nil => intro r k x h; exact absurd rfl h
 | cons j a ih =>
  intro r k x _ h
  have hnd := chn_nodup h
  have hx : x ≠ -1 := by rintro rfl; rw [chn_neg] at h; injection h with h; cases h
  obtain ⟨j', k', f, r', rfl, rfl, e, hu, hr, hc⟩ := chn_cons h hx
  injection hc with hjj hc
  subst hjj
  have hji : j ≠ i := by rintro rfl; simp at hnd
  have hstep := fun k => chn_step k (hget hji e) (by rw [h1]; exact hu)
  rw [hstep]
  subst hc
  cases a with
  | nil =>
   change chn fs k' f.n = some (i :: r) at hr
   have hni : f.n ≠ -1 := by rintro e2; rw [e2, chn_neg] at hr; injection hr with hr; cases hr
   obtain ⟨i', k2, g, r2, h4, h5, h6, h7, h8, h9⟩ := chn_cons hr hni
   injection h9 with h9 h10
   subst h9 h10
   rw [h3 f hu h4]
   rw [hi] at h6
   injection h6 with h6
   subst h6
   rw [hn] at h8
   subst h5
   have hnd2 : i ∉ r := by simp at hnd; exact hnd.2.1
   rw [chn_congr (fs' := (fs.map φ).set i frz) (chn_more (Nat.le_succ _) h8) (fun y hy g eg => by
    have hne : y ≠ i := by rintro rfl; exact hnd2 hy
    refine ⟨φ g, hget hne eg, h1 g, ?_⟩
    apply h2
    intro hgn
    exact hnd2 (chn_next h8 hy eg hgn).1)]
   rfl
  | cons j2 a =>
   have hni : f.n ≠ (i : Int) := by
    intro e2
    rw [e2] at hr
    obtain ⟨i', _, _, _, h4, _, _, _, _, h9⟩ := chn_cons hr (by omega)
    injection h9 with h9
    have : i' = i := by omega
    subst this
    subst h9
    simp at hnd
   rw [h2 f hni, ih (by simp) hr]
   rfl
theorem TV.unmap {t : Tab} (h : TV t) {i : Nat} {f0 : Fr} (hi : t.fs[i]? = some f0) (hu : f0.used = true) (hk : kval (f0.s, f0.p) = true) :
  TV (if t.bs.getD (bkt t f0.s f0.p) 0 = (i : Int) then ⟨t.bs.set (bkt t f0.s f0.p) f0.n, t.fs.set i frz⟩ else ⟨t.bs, (t.fs.map (relink i f0.n)).set i frz⟩) := by
 obtain ⟨_, _, hz3, _⟩ := h.sz
 obtain ⟨hil, _⟩ := List.getElem?_eq_some_iff.1 hi
 obtain ⟨hb, he⟩ := bkt_in hk hz3
 obtain ⟨ch0, e0, hc0⟩ := h.ch _ hb
 have hin : i ∈ ch0 := by
  obtain ⟨b, ch, hb', e1, hm⟩ := h.cov i f0 hi hu
  obtain ⟨ch2, e2, hc2⟩ := h.ch b hb'
  rw [e1] at e2
  injection e2 with e2
  subst e2
  obtain ⟨f, ef, hh⟩ := hok_parts (hc2 i hm)
  rw [hi] at ef
  injection ef with ef
  subst ef
  have : b = bkt t f0.s f0.p := by omega
  subst this
  rw [e1] at e0
  injection e0 with e0
  rw [← e0]; exact hm
 obtain ⟨x, ex, ec⟩ := bch_some e0
 have hx : t.bs.getD (bkt t f0.s f0.p) 0 = x := by rw [List.getD_eq_getElem?_getD, ex]; rfl
 obtain ⟨_, _, _, a, r, ea, hir⟩ := chn_mem ec i hin
 have hnd : (a ++ i :: r).Nodup := ea ▸ chn_nodup ec
 -- what both ways have in common
 have main : ∀ (bs' : List Int) (φ : Fr → Fr), bs'.length = t.bs.length → (∀ b, b ≠ bkt t f0.s f0.p → bs'[b]? = t.bs[b]?) → (∀ f, (φ f).used = f.used ∧ (φ f).s = f.s ∧ (φ f).p = f.p ∧ (φ f).r = f.r) → (∀ f, f.used = false → φ f = f) → (∀ f, f.n ≠ (i : Int) → (φ f).n = f.n) →
   bch ⟨bs', (t.fs.map φ).set i frz⟩ (bkt t f0.s f0.p) = some (a ++ r) → TV ⟨bs', (t.fs.map φ).set i frz⟩ := by
  intro bs' φ hl hbs p1 p2 p3 hch
  have hget : ∀ {j : Nat} {f : Fr}, j ≠ i → t.fs[j]? = some f → ((t.fs.map φ).set i frz)[j]? = some (φ f) := fun hne e => by
   rw [set_ne (fun e => hne e.symm), List.getElem?_map, e]; rfl
  have hget' : ∀ {j : Nat} {f : Fr}, j ≠ i → ((t.fs.map φ).set i frz)[j]? = some f → ∃ g, t.fs[j]? = some g ∧ f = φ g := fun {j f} hne e => by
   rw [set_ne (fun e => hne e.symm), List.getElem?_map] at e
   cases eg : t.fs[j]? with
   | none => rw [eg] at e; cases e
   | some g => rw [eg] at e; injection e with e; exact ⟨g, rfl, e.symm⟩
  have hgi : ((t.fs.map φ).set i frz)[i]? = some frz := set_eq (by rw [List.length_map]; exact hil)
  have hbn : ∀ {b : Nat} {ch : List Nat}, b ≠ bkt t f0.s f0.p → b < t.bs.length → bch t b = some ch → i ∉ ch ∧ bch ⟨bs', (t.fs.map φ).set i frz⟩ b = some ch := fun {b ch} hne hb' e => by
   have hni : i ∉ ch := fun hm => by
    obtain ⟨ch2, e2, hc2⟩ := h.ch b hb'
    rw [e] at e2
    injection e2 with e2
    subst e2
    obtain ⟨f, ef, hh⟩ := hok_parts (hc2 i hm)
    rw [hi] at ef
    injection ef with ef
    subst ef
    omega
   refine ⟨hni, ?_⟩
   obtain ⟨y, ey, ecy⟩ := bch_some e
   rw [bch_of (t := ⟨bs', (t.fs.map φ).set i frz⟩) (i := y) (by rw [hbs b hne]; exact ey)]
   simp only [List.length_set, List.length_map]
   exact chn_congr ecy fun j hj g eg => ⟨φ g, hget (by rintro rfl; exact hni hj) eg, (p1 g).1, p3 g fun hgn => hni (chn_next ecy hj eg hgn).1⟩
  have hok' : ∀ {b j : Nat}, j ≠ i → hok t b j = true → hok ⟨bs', (t.fs.map φ).set i frz⟩ b j = true := fun hne e => by
   obtain ⟨f, ef, hh⟩ := hok_parts e
   unfold hok
   rw [hget hne ef]
   simp only [hl]
   rw [decide_eq_true_eq, (p1 f).2.1, (p1 f).2.2.1]
   exact hh
  have har : ∀ j ∈ a ++ r, j ≠ i ∧ j ∈ ch0 := fun j hj => by
   refine ⟨?_, ?_⟩
   ·rintro rfl
    rw [List.nodup_append] at hnd
    rcases List.mem_append.1 hj with hm | hm
    ·exact hnd.2.2 j hm j (by simp) rfl
    ·exact (List.nodup_cons.1 hnd.2.1).1 hm
   ·rw [ea]
    rcases List.mem_append.1 hj with hm | hm
    ·exact List.mem_append.2 (.inl hm)
    ·exact List.mem_append.2 (.inr (by simp [hm]))
  refine ⟨by simp only [List.length_set, List.length_map, hl]; exact h.sz, fun j f e => ?_, fun j k f g ej ek hf hg hkk => ?_, fun b hb' => ?_, fun j f e hf => ?_⟩
  ·by_cases hj : j = i
   ·subst hj
    rw [hgi] at e
    injection e with e
    rw [← e]; decide
   ·obtain ⟨g, eg, rfl⟩ := hget' hj e
    have hg := h.ok j g eg
    cases hgu : g.used with
    | false => rw [p2 g hgu]; exact hg
    | true =>
     unfold frok at hg ⊢
     rw [(p1 g).1, (p1 g).2.1, (p1 g).2.2.1, (p1 g).2.2.2]
     rw [hgu] at hg ⊢
     simp only [if_true] at hg ⊢
     exact hg
  ·have hji : j ≠ i := by rintro rfl; rw [hgi] at ej; injection ej with ej; rw [← ej] at hf; cases hf
   have hki : k ≠ i := by rintro rfl; rw [hgi] at ek; injection ek with ek; rw [← ek] at hg; cases hg
   obtain ⟨f', ef, rfl⟩ := hget' hji ej
   obtain ⟨g', eg, rfl⟩ := hget' hki ek
   rw [(p1 f').1] at hf
   rw [(p1 g').1] at hg
   rw [(p1 f').2.1, (p1 f').2.2.1, (p1 g').2.1, (p1 g').2.2.1] at hkk
   exact h.key j k f' g' ef eg hf hg hkk
  ·simp only [hl] at hb'
   by_cases hbb : b = bkt t f0.s f0.p
   ·subst hbb
    refine ⟨_, hch, fun j hj => ?_⟩
    obtain ⟨h1, h2⟩ := har j hj
    exact hok' h1 (hc0 j h2)
   ·obtain ⟨ch, e1, hc⟩ := h.ch b hb'
    obtain ⟨h1, h2⟩ := hbn hbb hb' e1
    exact ⟨ch, h2, fun j hj => hok' (by rintro rfl; exact h1 hj) (hc j hj)⟩
  ·have hji : j ≠ i := by rintro rfl; rw [hgi] at e; injection e with e; rw [← e] at hf; cases hf
   obtain ⟨g, eg, rfl⟩ := hget' hji e
   rw [(p1 g).1] at hf
   obtain ⟨b, ch, hb', e1, hm⟩ := h.cov j g eg hf
   by_cases hbb : b = bkt t f0.s f0.p
   ·subst hbb
    rw [e0] at e1
    injection e1 with e1
    subst e1
    rw [ea] at hm
    refine ⟨_, _, by simp only [hl]; exact hb', hch, ?_⟩
    rcases List.mem_append.1 hm with hm | hm
    ·exact List.mem_append.2 (.inl hm)
    ·rcases List.mem_cons.1 hm with hm | hm
     ·exact absurd hm hji
     ·exact List.mem_append.2 (.inr hm)
   ·exact ⟨b, ch, by simp only [hl]; exact hb', (hbn hbb hb' e1).2, hm⟩
 rw [hx]
 by_cases hxi : x = (i : Int)
 ·rw [if_pos hxi]
  subst hxi
  have ha : a = [] := by
   cases a with
   | nil => rfl
   | cons j a =>
    exfalso
    rw [ea] at ec
    have := chn_same ec hir
    injection this with h1 h2
    have hl := congrArg List.length h2
    simp at hl
    omega
  subst ha
  have := main (t.bs.set (bkt t f0.s f0.p) f0.n) id (by simp) (fun b hb' => set_ne (fun e => hb' e.symm)) (fun f => ⟨rfl, rfl, rfl, rfl⟩) (fun f _ => rfl) (fun f _ => rfl) (by
   rw [List.map_id, bch_of (t := ⟨t.bs.set (bkt t f0.s f0.p) f0.n, t.fs.set i frz⟩) (i := f0.n) (set_eq hb)]
   simp only [List.length_set, List.nil_append]
   obtain ⟨i', k', g, r', h4, h5, h6, h7, h8, h9⟩ := chn_cons hir (by omega)
   injection h9 with h9 h10
   subst h9 h10
   rw [hi] at h6
   injection h6 with h6
   subst h6
   have hnr : i ∉ r := by simp at hnd; exact hnd.1
   exact chn_congr (chn_more (by omega) h8) fun j hj g eg => ⟨g, by rw [set_ne (by rintro rfl; exact hnr hj)]; exact eg, rfl, rfl⟩)
  rwa [List.map_id] at this
 ·rw [if_neg hxi]
  have hane : a ≠ [] := by
   rintro rfl
   rw [ea] at ec
   have hx1 : x ≠ -1 := by rintro rfl; rw [chn_neg] at ec; injection ec with ec; cases ec
   obtain ⟨i', _, _, _, h4, _, _, _, _, h9⟩ := chn_cons ec hx1
   injection h9 with h9
   subst h9
   exact hxi h4
  refine main t.bs (relink i f0.n) rfl (fun b _ => rfl) (fun f => by unfold relink; split <;> exact ⟨rfl, rfl, rfl, rfl⟩) (fun f hf => by unfold relink; rw [if_neg (by simp [hf])]) (fun f hf => by unfold relink; rw [if_neg (fun h => hf h.2)]) ?_
  rw [bch_of (t := ⟨t.bs, (t.fs.map (relink i f0.n)).set i frz⟩) (i := x) ex]
  simp only [List.length_set, List.length_map]
  rw [ea] at ec
  exact chn_cut (fun f => by unfold relink; split <;> rfl) (fun f hf => by unfold relink; rw [if_neg (fun h => hf h.2)]) (fun f hf hn => by unfold relink; rw [if_pos ⟨hf, hn⟩]) hi rfl hane ec
end Go.Proofs.YtnaagdmaggdbmaaGreatDoor
namespace Go.Proofs.YtnaagdmaggdbmaaGreatDoor
open Go.RowKit
structure CV (c : Ca) : Prop where
 sz : 1 ≤ c.ls.length ∧ c.ls.length ≤ 8
 hand : inR c.hand c.ls.length = true
 ok : ∀ (i : Nat) (x : Ln), c.ls[i]? = some x → lnok x = true
 cl : ∀ (i j : Nat) (x y : Ln), i ≠ j → c.ls[i]? = some x → c.ls[j]? = some y → clash x y = false
 loose : ∃ (i : Nat) (x : Ln), c.ls[i]? = some x ∧ x.w = false
theorem clash_symm (x y : Ln) : clash x y = clash y x := by
 unfold clash
 rw [Bool.eq_iff_iff]
 simp only [Bool.and_eq_true, Bool.or_eq_true, decide_eq_true_eq]
 constructor
 ·rintro ⟨⟨⟨a, b⟩, c⟩, d⟩
  refine ⟨⟨⟨b, a⟩, c.symm⟩, ?_⟩
  rcases d with (d | d) | d
  ·exact .inl (.inl d.symm)
  ·exact .inr d
  ·exact .inl (.inr d)
 ·rintro ⟨⟨⟨a, b⟩, c⟩, d⟩
  refine ⟨⟨⟨b, a⟩, c.symm⟩, ?_⟩
  rcases d with (d | d) | d
  ·exact .inl (.inl d.symm)
  ·exact .inr d
  ·exact .inl (.inr d)
theorem lok_of {ls : List Ln} (h1 : ∀ (i : Nat) (x : Ln), ls[i]? = some x → lnok x = true) (h2 : ∀ (i j : Nat) (x y : Ln), i ≠ j → ls[i]? = some x → ls[j]? = some y → clash x y = false) : ∀ k, k ≤ ls.length → lok ls k = true
  | 0, _ => rfl
  | k + 1, hk => by
    obtain ⟨x, e⟩ : ∃ x, ls[k]? = some x := ⟨_, List.getElem?_eq_getElem (by omega)⟩
    exact lok_step (lok_of h1 h2 k (by omega)) e (h1 k x e) (fun r y hr er => h2 k r x y (by omega) e er)
theorem cav_CV {c : Ca} : cav c = true ↔ CV c := by
 constructor
 ·intro h
  obtain ⟨a, b, d, e, f⟩ := cav_parts h
  refine ⟨⟨a, b⟩, d, fun i x hi => ?_, fun i j x y hij hi hj => ?_, ?_⟩
  ·obtain ⟨x', e1, e2, _⟩ := lok_at e (List.getElem?_eq_some_iff.1 hi).1
   rw [hi] at e1
   injection e1 with e1
   rw [e1]; exact e2
  ·rcases Nat.lt_or_gt_of_ne hij with hlt | hlt
   ·obtain ⟨y', e1, _, e3⟩ := lok_at e (List.getElem?_eq_some_iff.1 hj).1
    rw [hj] at e1
    injection e1 with e1
    subst e1
    rw [clash_symm]
    exact e3 i x hlt hi
   ·obtain ⟨x', e1, _, e3⟩ := lok_at e (List.getElem?_eq_some_iff.1 hi).1
    rw [hi] at e1
    injection e1 with e1
    subst e1
    exact e3 j y hlt hj
  ·rw [List.any_eq_true] at f
   obtain ⟨x, hx, hw⟩ := f
   obtain ⟨i, hi, e1⟩ := List.getElem_of_mem hx
   exact ⟨i, x, by rw [List.getElem?_eq_getElem hi, e1], by simpa using hw⟩
 ·intro h
  rw [cav_end h.sz.1 h.sz.2 h.hand (lok_of h.ok h.cl _ (Nat.le_refl _)), List.any_eq_true]
  obtain ⟨i, x, e, hw⟩ := h.loose
  exact ⟨x, List.mem_of_getElem? e, by rw [hw]; rfl⟩
theorem lnok_z : lnok lnz = true := by decide
theorem clash_z (y : Ln) : clash lnz y = false := by unfold clash; rfl
theorem CV.drop {c : Ca} (h : CV c) (k : Nat) : CV ⟨c.ls.set k lnz, c.hand⟩ := by
 refine ⟨by simpa using h.sz, by simpa using h.hand, fun i x hi => ?_, fun i j x y hij hi hj => ?_, ?_⟩
 ·simp only at hi
  rw [List.getElem?_set] at hi
  split at hi
  ·split at hi
   ·injection hi with hi
    rw [← hi]; exact lnok_z
   ·cases hi
  ·exact h.ok i x hi
 ·simp only at hi hj
  rw [List.getElem?_set] at hi hj
  split at hi
  ·split at hi
   ·injection hi with hi
    rw [← hi]; exact clash_z y
   ·cases hi
  ·split at hj
   ·split at hj
    ·injection hj with hj
     rw [← hj, clash_symm]; exact clash_z x
    ·cases hj
   ·exact h.cl i j x y hij hi hj
 ·obtain ⟨i, x, e, hw⟩ := h.loose
  by_cases hk : k = i
  ·subst hk
   exact ⟨k, lnz, by simp only; rw [List.getElem?_set, if_pos rfl, if_pos (List.getElem?_eq_some_iff.1 e).1], rfl⟩
  ·exact ⟨i, x, by simp only; rw [List.getElem?_set, if_neg hk]; exact e, hw⟩
theorem fits_iff {t p : Int} {x : Ln} : fits t p x = true ↔ x.v = true ∧ x.p = p ∧ (x.t = t ∨ x.t = -1) := by
 unfold fits
 simp only [Bool.and_eq_true, Bool.or_eq_true, decide_eq_true_eq, and_assoc]
theorem plcI_none {ls : List Ln} {t p : Int} (h : ¬ 0 ≤ plcI ls t p) {i : Nat} {x : Ln} (e : ls[i]? = some x) : fits t p x = false := by
 unfold plcI plc at h
 cases e2 : ls.findIdx? (fits t p) with
 | some j => rw [e2] at h; simp at h
 | none =>
  rw [List.findIdx?_eq_none_iff] at e2
  exact e2 x (List.mem_of_getElem? e)
theorem CV.once {c : Ca} (h : CV c) {t p : Int} {i j : Nat} {x y : Ln} (hi : c.ls[i]? = some x) (hj : c.ls[j]? = some y) (hx : fits t p x = true) (hy : fits t p y = true) : i = j := by
 by_cases hij : i = j
 ·exact hij
 ·have h1 := h.cl i j x y hij hi hj
  obtain ⟨a1, a2, a3⟩ := fits_iff.1 hx
  obtain ⟨b1, b2, b3⟩ := fits_iff.1 hy
  exfalso
  have : clash x y = true := by
   unfold clash
   simp only [Bool.and_eq_true, Bool.or_eq_true, decide_eq_true_eq]
   refine ⟨⟨⟨a1, b1⟩, by rw [a2, b2]⟩, ?_⟩
   rcases a3 with a3 | a3
   ·rcases b3 with b3 | b3
    ·exact .inl (.inl (by rw [a3, b3]))
    ·exact .inr b3
   ·exact .inl (.inr a3)
  rw [h1] at this
  cases this
theorem lnM_some {m : Ma} {x : Ln} (hv : x.v = true) (h : lnM m x = true) : ∃ (s : Int) (i : Nat), lnSp m x = some s ∧ fnd m.t.fs (keyI s x.p) x.p = some i ∧ (i : Int) = x.f ∧ (m.t.fs.getD i frz).r = x.r ∧ ((128 ≤ x.p) ↔ x.t = -1) ∧ (x.w = true → 128 ≤ x.p) := by
 rw [lnM_def, if_pos hv] at h
 simp only [Bool.and_eq_true, Bool.or_eq_true, decide_eq_true_eq] at h
 obtain ⟨⟨h1, h2⟩, h3⟩ := h
 have hw : x.w = true → 128 ≤ x.p := fun hw => by
  rcases h2 with h2 | h2
  ·rw [hw] at h2; cases h2
  ·exact h2
 cases hs : lnSp m x with
 | none => rw [hs] at h3; cases h3
 | some s =>
  rw [hs] at h3
  simp only at h3
  cases e : fnd m.t.fs (keyI s x.p) x.p with
  | none => rw [e] at h3; cases h3
  | some i =>
   rw [e] at h3
   simp only [Bool.and_eq_true, decide_eq_true_eq] at h3
   exact ⟨s, i, rfl, e, h3.1, h3.2, h1, hw⟩
theorem lnM_mk {m : Ma} {x : Ln} {s : Int} {i : Nat} (hs : lnSp m x = some s) (hf : fnd m.t.fs (keyI s x.p) x.p = some i) (hi : (i : Int) = x.f) (hr : (m.t.fs.getD i frz).r = x.r) (h1 : (128 ≤ x.p) ↔ x.t = -1) (hw : x.w = true → 128 ≤ x.p) : lnM m x = true := by
 rw [lnM_def]
 split
 ·rw [hs]
  simp only
  rw [hf]
  simp only [Bool.and_eq_true, Bool.or_eq_true, decide_eq_true_eq]
  refine ⟨⟨h1, ?_⟩, hi, hr⟩
  cases hx : x.w with
  | false => exact .inl rfl
  | true => exact .inr (hw hx)
 ·rfl
theorem lnM_keep {m m' : Ma} {x : Ln} (hg : m'.g = m.g) (hf : ∀ (s : Int) (i : Nat), lnSp m x = some s → fnd m.t.fs (keyI s x.p) x.p = some i → fnd m'.t.fs (keyI s x.p) x.p = some i ∧ (m'.t.fs.getD i frz).r = (m.t.fs.getD i frz).r) (h : lnM m x = true) : lnM m' x = true := by
 cases hv : x.v with
 | false => exact lnM_inv hv
 | true =>
  obtain ⟨s, i, a1, a2, a3, a4, a5, a6⟩ := lnM_some hv h
  obtain ⟨b1, b2⟩ := hf s i a1 a2
  exact lnM_mk (by unfold lnSp at a1 ⊢; rw [hg]; exact a1) b1 a3 (by rw [b2]; exact a4) a5 a6
structure MV (m : Ma) : Prop where
 t : TV m.t
 c : CV m.c
 g : tgv m.g = true
 o : 0 ≤ ownI m.g.os m.sp
 f : ∀ (i : Nat) (f : Fr), m.t.fs[i]? = some f → frM f = true
 l : ∀ (i : Nat) (x : Ln), m.c.ls[i]? = some x → lnM m x = true
theorem mav_MV {m : Ma} : mav m = true ↔ MV m := by
 constructor
 ·intro h
  obtain ⟨a, b, c, d, e, f⟩ := mav_parts h
  exact ⟨tv_TV.1 a, cav_CV.1 b, c, d, fun i x hi => e x (List.mem_of_getElem? hi), fun i x hi => f x (List.mem_of_getElem? hi)⟩
 ·intro h
  refine mav_end (tv_TV.2 h.t) (cav_CV.2 h.c) h.g h.o (fun f hf => ?_) (fun x hx => ?_)
  ·obtain ⟨i, hi, e⟩ := List.getElem_of_mem hf
   exact h.f i f (by rw [List.getElem?_eq_getElem hi, e])
  ·obtain ⟨i, hi, e⟩ := List.getElem_of_mem hx
   exact h.l i x (by rw [List.getElem?_eq_getElem hi, e])
theorem TV.fnd {t : Tab} (h : TV t) {s p : Int} {i : Nat} {f : Fr} (e : t.fs[i]? = some f) (hu : f.used = true) (hk : (f.s, f.p) = (s, p)) : fnd t.fs s p = some i := fnd_of (tv_parts (tv_TV.2 h)).2.1 e hu hk
theorem getD_at {fs : List Fr} {i : Nat} {f : Fr} (e : fs[i]? = some f) : fs.getD i frz = f := by rw [List.getD_eq_getElem?_getD, e]; rfl
theorem mav_put {m : Ma} {s p fr r : Int} (h : putOK m s p fr r = true) : mav (putV m s p fr r) = true := by
 have hV : putV m s p fr r = { m with t := mapV m.t s p fr r } := by unfold putV; rw [if_pos h]
 unfold putOK at h
 simp only [Bool.and_eq_true, decide_eq_true_eq] at h
 obtain ⟨⟨hm, hk⟩, hok⟩ := h
 have hT : mapV m.t s p fr r = mapT m.t s p fr r := by unfold mapV; rw [if_pos hok]
 unfold mapOK at hok
 simp only [Bool.and_eq_true] at hok
 obtain ⟨⟨⟨⟨⟨htv, hkv⟩, hnf⟩, hin⟩, hu⟩, hr⟩ := hok
 have M := mav_MV.1 hm
 have hnf' : fnd m.t.fs s p = none := by
  cases e : fnd m.t.fs s p with
  | none => rfl
  | some i => unfold fndI at hnf; rw [e] at hnf; simp at hnf
 obtain ⟨hi0, hi1⟩ := inR_iff.1 hin
 obtain ⟨k, rfl⟩ := Int.eq_ofNat_of_zero_le hi0
 rw [Int.toNat_natCast] at hu
 cases ef : m.t.fs[k]? with
 | none => rw [ef] at hu; cases hu
 | some f0 =>
 rw [ef] at hu
 have hu0 : f0.used = false := by simpa using hu
 have hTV := M.t.map hkv hnf' ef hu0 hr
 have hmt : mapT m.t s p (k : Int) r = ⟨m.t.bs.set (bkt m.t s p) k, m.t.fs.set k ⟨true, s, p, r, m.t.bs.getD (bkt m.t s p) 0⟩⟩ := by unfold mapT; rw [Int.toNat_natCast]
 rw [hV, hT, hmt]
 have hkl := (List.getElem?_eq_some_iff.1 ef).1
 refine mav_MV.2 ⟨hTV, M.c, M.g, M.o, fun i f hi => ?_, fun i x hi => ?_⟩
 ·simp only at hi
  rw [List.getElem?_set] at hi
  split at hi
  ·injection hi with hi
   rw [← hi]
   unfold frM
   unfold keyI at hk
   by_cases h128 : 128 ≤ p
   ·rw [if_pos h128] at hk
    simp [← hk]
   ·simp [h128]
  ·exact M.f i f hi
 ·refine lnM_keep (m := m) rfl (fun s' j hs' hj => ?_) (M.l i x hi)
  obtain ⟨f, e1, e2, e3⟩ := fnd_some hj
  have hne : k ≠ j := by rintro rfl; rw [ef] at e1; injection e1 with e1; rw [e1, e2] at hu0; cases hu0
  have e4 : (m.t.fs.set k ⟨true, s, p, r, m.t.bs.getD (bkt m.t s p) 0⟩)[j]? = some f := by rw [List.getElem?_set, if_neg hne]; exact e1
  exact ⟨hTV.fnd e4 e2 e3, by rw [getD_at e4, getD_at e1]⟩
theorem MV.apart {m : Ma} (M : MV m) {s p : Int} {i : Nat} {x : Ln} (hi : (drpC m s p).ls[i]? = some x) (hv : x.v = true) :
  m.c.ls[i]? = some x ∧ ∀ s', lnSp m x = some s' → ¬ (keyI s' x.p, x.p) = (s, p) := by
 have key : ∀ (y : Ln), m.c.ls[i]? = some y → y.v = true → ∀ s', lnSp m y = some s' → (keyI s' y.p, y.p) = (s, p) → tagO m s p = true ∧ fits (tagT m s p) p y = true := by
  intro y hy hyv s' hs' hkk
  obtain ⟨_, _, a1, a2, a3, a4, a5, a6⟩ := lnM_some hyv (M.l i y hy)
  injection hkk with hk1 hk2
  by_cases h128 : 128 ≤ p
  ·have ht : y.t = -1 := a5.1 (by rw [hk2]; exact h128)
   exact ⟨if_pos h128, fits_iff.2 ⟨hyv, hk2, .inr ht⟩⟩
  ·unfold lnSp at hs'
   rw [if_neg (by rw [hk2]; exact h128)] at hs'
   cases es : spc m.g.os y.t with
   | none => rw [es] at hs'; cases hs'
   | some j =>
    rw [es] at hs'
    injection hs' with hs'
    unfold spc at es
    obtain ⟨hj, hj1, _⟩ := List.findIdx?_eq_some_iff_getElem.1 es
    have ej : m.g.os[j]? = some m.g.os[j] := List.getElem?_eq_getElem hj
    rw [List.getD_eq_getElem?_getD, ej] at hs'
    simp only [Option.getD_some] at hs'
    have hj1 : m.g.os[j].2 = y.t := by simpa using hj1
    have hks : keyI s' y.p = s' := by unfold keyI; rw [if_neg (by rw [hk2]; exact h128)]
    rw [hks] at hk1
    have hos : m.g.os[j].1 = s := by rw [hs', hk1]
    obtain ⟨k, o, hk3, ek, hk4⟩ : ∃ (k : Nat) (o : Int × Int), ownI m.g.os s = (k : Int) ∧ m.g.os[k]? = some o ∧ o.1 = s := by
     refine ownI_lt ?_
     unfold ownI
     cases eo : own m.g.os s with
     | some _ => simp
     | none =>
      unfold own at eo
      rw [List.findIdx?_eq_none_iff] at eo
      have := eo _ (List.mem_of_getElem? ej)
      rw [hos] at this
      simp at this
    have hkj : k = j := by
     obtain ⟨_, ht⟩ := tgv_parts M.g
     rcases Nat.lt_trichotomy k j with hlt | heq | hlt
     ·obtain ⟨q, eq, _, _, _, _, hq⟩ := tok_at ht hj
      rw [ej] at eq
      injection eq with eq
      exact absurd (by rw [← eq, hos, hk4]) (hq k o hlt ek)
     ·exact heq
     ·obtain ⟨q, eq, _, _, _, _, hq⟩ := tok_at ht (List.getElem?_eq_some_iff.1 ek).1
      rw [ek] at eq
      injection eq with eq
      exact absurd (by rw [← eq, hos, hk4]) (hq j _ hlt ej)
    subst hkj
    obtain ⟨b1, b2⟩ := tgO_yes M.g hk3 ek
    rw [ej] at ek
    injection ek with ek
    refine ⟨by unfold tagO; rw [if_neg h128]; exact b1, fits_iff.2 ⟨hyv, hk2, .inl ?_⟩⟩
    unfold tagT
    rw [if_neg h128, b2, ← ek, hj1]
 unfold drpC at hi
 split at hi
 ·rename_i hh
  simp only at hi
  rw [List.getElem?_set] at hi
  split at hi
  ·split at hi
   ·injection hi with hi
    rw [← hi] at hv
    cases hv
   ·cases hi
  ·rename_i hne
   refine ⟨hi, fun s' hs' hkk => ?_⟩
   obtain ⟨_, hf⟩ := key x hi hv s' hs' hkk
   obtain ⟨k, y, e1, e2, e3⟩ := plcI_lt hh.2
   have := M.c.once hi e2 hf e3
   rw [e1, Int.toNat_natCast] at hne
   exact hne this.symm
 ·rename_i hh
  refine ⟨hi, fun s' hs' hkk => ?_⟩
  obtain ⟨h1, hf⟩ := key x hi hv s' hs' hkk
  by_cases hp : 0 ≤ plcI m.c.ls (tagT m s p) p
  ·exact hh ⟨h1, hp⟩
  ·rw [plcI_none hp hi] at hf; cases hf
theorem MV.drp {m : Ma} (M : MV m) (s p : Int) : CV (drpC m s p) := by
 unfold drpC
 split
 ·exact M.c.drop _
 ·exact M.c
theorem fOK_at {t : Tab} {s p : Int} (h : fOK t s p = true) : ∃ (k : Nat) (f : Fr), fndI t.fs s p = (k : Int) ∧ fnd t.fs s p = some k ∧ t.fs[k]? = some f ∧ f.used = true ∧ (f.s, f.p) = (s, p) ∧ kval (s, p) = true := by
 unfold fOK at h
 simp only [Bool.and_eq_true, decide_eq_true_eq] at h
 obtain ⟨⟨_, hk⟩, h3⟩ := h
 unfold fndI at h3 ⊢
 cases e : fnd t.fs s p with
 | none => rw [e] at h3; simp at h3
 | some i =>
  obtain ⟨f, a, b, c⟩ := fnd_some e
  exact ⟨i, f, rfl, rfl, a, b, c, hk⟩
theorem mav_grd {m : Ma} {s p r : Int} (h : grdO m s p r = true) : mav (grdV m s p r) = true := by
 have hV : grdV m s p r = drpM m (prV m.t s p r) s p := by unfold grdV; rw [if_pos h]
 unfold grdO at h
 rw [Bool.and_eq_true] at h
 obtain ⟨hm, hok⟩ := h
 have hT : prV m.t s p r = prT m.t s p r := by unfold prV; rw [if_pos hok]
 unfold prOK at hok
 rw [Bool.and_eq_true] at hok
 obtain ⟨hf, hr⟩ := hok
 have M := mav_MV.1 hm
 obtain ⟨k, f, hk, hk', ef, hu, hkk, hkv⟩ := fOK_at hf
 have hpt : prT m.t s p r = ⟨m.t.bs, m.t.fs.set k { f with r := r }⟩ := by
  unfold prT
  rw [hk, Int.toNat_natCast]
  simp only [getD_at ef]
 have hTV := M.t.rights (r := r) ef hu hr
 have hkl := (List.getElem?_eq_some_iff.1 ef).1
 rw [hV, hT, hpt]
 refine mav_MV.2 ⟨hTV, M.drp s p, M.g, M.o, fun i g hi => ?_, fun i x hi => ?_⟩
 ·simp only [drpM] at hi
  rw [List.getElem?_set] at hi
  split at hi
  ·injection hi with hi
   rw [← hi]
   exact M.f k f ef
  ·exact M.f i g hi
 ·cases hv : x.v with
  | false => exact lnM_inv hv
  | true =>
   obtain ⟨e0, hne⟩ := M.apart hi hv
   refine lnM_keep (m := m) rfl (fun s' j hs' hj => ?_) (M.l i x e0)
   obtain ⟨g, e1, e2, e3⟩ := fnd_some hj
   have hkj : k ≠ j := by
    rintro rfl
    rw [ef] at e1
    injection e1 with e1
    subst e1
    exact hne s' hs' (e3.symm.trans hkk)
   have e4 : (m.t.fs.set k { f with r := r })[j]? = some g := by rw [List.getElem?_set, if_neg hkj]; exact e1
   exact ⟨hTV.fnd e4 e2 e3, by simp only [drpM]; rw [getD_at e4, getD_at e1]⟩
theorem mav_tak {m : Ma} {s p : Int} (h : takO m s p = true) : mav (takV m s p) = true := by
 have hV : takV m s p = drpM m (unmV m.t s p) s p := by unfold takV; rw [if_pos h]
 unfold takO at h
 rw [Bool.and_eq_true] at h
 obtain ⟨hm, hf⟩ := h
 have hT : unmV m.t s p = unmT m.t s p := by unfold unmV; rw [if_pos hf]
 have M := mav_MV.1 hm
 obtain ⟨k, f, hk, hk', ef, hu, hkk, hkv⟩ := fOK_at hf
 injection hkk with hk1 hk2
 have hTV := M.t.unmap ef hu (by rw [hk1, hk2]; exact hkv)
 have hut : unmT m.t s p = (if m.t.bs.getD (bkt m.t f.s f.p) 0 = (k : Int) then ⟨m.t.bs.set (bkt m.t f.s f.p) f.n, m.t.fs.set k frz⟩ else ⟨m.t.bs, (m.t.fs.map (relink k f.n)).set k frz⟩) := by
  unfold unmT
  simp only [hk, Int.toNat_natCast, getD_at ef, hk1, hk2]
 rw [← hut] at hTV
 have hkl := (List.getElem?_eq_some_iff.1 ef).1
 /- what the table's frames are now -/
 have hfr : ∀ j, (unmT m.t s p).fs[j]? = if k = j then some frz else (m.t.fs[j]?).map (fun g => if (m.t.bs.getD (bkt m.t f.s f.p) 0 = (k : Int)) then g else relink k f.n g) := by
  intro j
  rw [hut]
  split
  ·simp only
   rw [List.getElem?_set]
   split
   ·rfl
   ·simp
  ·simp only
   rw [List.getElem?_set]
   split
   ·rw [if_pos (by simpa using hkl)]
   ·rw [List.getElem?_map]
 have hre : ∀ g : Fr, (relink k f.n g).used = g.used ∧ (relink k f.n g).s = g.s ∧ (relink k f.n g).p = g.p ∧ (relink k f.n g).r = g.r := by
  intro g
  unfold relink
  split <;> exact ⟨rfl, rfl, rfl, rfl⟩
 have hsame : ∀ (j : Nat) (g : Fr), k ≠ j → m.t.fs[j]? = some g → ∃ g', (unmT m.t s p).fs[j]? = some g' ∧ g'.used = g.used ∧ g'.s = g.s ∧ g'.p = g.p ∧ g'.r = g.r := by
  intro j g hj eg
  refine ⟨_, by rw [hfr, if_neg hj, eg]; rfl, ?_⟩
  split
  ·exact ⟨rfl, rfl, rfl, rfl⟩
  ·exact hre g
 rw [hV, hT]
 refine mav_MV.2 ⟨hTV, M.drp s p, M.g, M.o, fun i g hi => ?_, fun i x hi => ?_⟩
 ·simp only [drpM] at hi
  rw [hfr] at hi
  split at hi
  ·injection hi with hi
   rw [← hi]; rfl
  ·cases e : m.t.fs[i]? with
   | none => rw [e] at hi; cases hi
   | some g0 =>
    rw [e] at hi
    injection hi with hi
    have h0 := M.f i g0 e
    rw [← hi]
    split
    ·exact h0
    ·obtain ⟨r1, r2, r3, _⟩ := hre g0
     unfold frM at h0 ⊢
     rw [r1, r2, r3]; exact h0
 ·cases hv : x.v with
  | false => exact lnM_inv hv
  | true =>
   obtain ⟨e0, hne⟩ := M.apart hi hv
   refine lnM_keep (m := m) rfl (fun s' j hs' hj => ?_) (M.l i x e0)
   obtain ⟨g, e1, e2, e3⟩ := fnd_some hj
   have hkj : k ≠ j := by
    rintro rfl
    rw [ef] at e1
    injection e1 with e1
    subst e1
    exact hne s' hs' (by rw [← e3, hk1, hk2])
   obtain ⟨g', b1, b2, b3, b4, b5⟩ := hsame j g hkj e1
   exact ⟨hTV.fnd b1 (by rw [b2, e2]) (by rw [b3, b4]; exact e3), by simp only [drpM]; rw [getD_at b1, getD_at e1, b5]⟩
end Go.Proofs.YtnaagdmaggdbmaaGreatDoor
