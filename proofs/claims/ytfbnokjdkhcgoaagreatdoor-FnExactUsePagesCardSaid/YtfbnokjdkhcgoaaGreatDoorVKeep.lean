/- A part of the proofs of this seat: Keep. -/
import Derived.Test.YtfbnokjdkhcgoaaGreatDoorVPlain
set_option linter.unusedVariables false
set_option linter.unusedSimpArgs false
set_option maxRecDepth 1000000
namespace Go.Proofs.YtfbnokjdkhcgoaaGreatDoor
open Go.RowKit
theorem chn_self {fs : List Fr} : ∀ {k : Nat} {i : Int} {ch : List Nat}, chn fs k i = some ch → chn fs ch.length i = some ch := by
 intro k
 induction k with
 | zero =>
  intro i ch h
  by_cases hi : i = -1
  ·subst hi; rw [chn_neg] at h ⊢; exact h
  ·rw [chn_none0 hi] at h; cases h
 | succ k ih =>
  intro i ch h
  by_cases hi : i = -1
  ·subst hi; rw [chn_neg] at h ⊢; exact h
  ·obtain ⟨j, k1, f, r, rfl, hk1, e, hu, h2, rfl⟩ := chn_cons h hi
   have : k1 = k := by omega
   subst this
   rw [List.length_cons, chn_step _ e hu, ih h2]
   rfl
theorem chn_congr {fs fs' : List Fr} : ∀ {k : Nat} {i : Int} {ch : List Nat}, chn fs k i = some ch → (∀ j ∈ ch, ∀ f, fs[j]? = some f → ∃ f', fs'[j]? = some f' ∧ f'.used = f.used ∧ f'.n = f.n) → chn fs' k i = some ch := by
 intro k
 induction k with
 | zero =>
  intro i ch h _
  by_cases hi : i = -1
  ·subst hi; rw [chn_neg] at h ⊢; exact h
  ·rw [chn_none0 hi] at h; cases h
 | succ k ih =>
  intro i ch h hc
  by_cases hi : i = -1
  ·subst hi; rw [chn_neg] at h ⊢; exact h
  ·obtain ⟨j, k1, f, r, rfl, hk1, e, hu, h2, rfl⟩ := chn_cons h hi
   have : k1 = k := by omega
   subst this
   obtain ⟨f', e', hu', hn'⟩ := hc j (by simp) f e
   rw [chn_step _ e' (hu'.trans hu), hn', ih h2 (fun j' hj' => hc j' (by simp [hj']))]
   rfl
theorem chn_lt' {fs : List Fr} {k : Nat} {i : Int} {ch : List Nat} {x : Nat} (h : chn fs k i = some ch) (hx : x < fs.length) (hn : x ∉ ch) : ch.length < fs.length := by
 have h1 := len_sub (a := x :: ch) (b := List.range fs.length) (List.nodup_cons.2 ⟨hn, chn_nodup h⟩) (fun y hy => by
  rcases List.mem_cons.1 hy with rfl | hy
  ·exact List.mem_range.2 hx
  ·obtain ⟨f, e, _⟩ := chn_mem h y hy
   obtain ⟨hx, _⟩ := List.getElem?_eq_some_iff.1 e
   exact List.mem_range.2 hx)
 simp at h1
 omega
structure TV (t : Tab) : Prop where
 sz : 1 ≤ t.fs.length ∧ t.fs.length ≤ 16 ∧ 1 ≤ t.bs.length ∧ t.bs.length ≤ 16
 ok : ∀ (i : Nat) (f : Fr), t.fs[i]? = some f → frok f = true
 key : ∀ (i j : Nat) (f g : Fr), t.fs[i]? = some f → t.fs[j]? = some g → f.used = true → g.used = true → (f.s, f.p) = (g.s, g.p) → i = j
 ch : ∀ b : Nat, b < t.bs.length → ∃ ch, bch t b = some ch ∧ ∀ i ∈ ch, hok t b i = true
 cov : ∀ (i : Nat) (f : Fr), t.fs[i]? = some f → f.used = true → ∃ b ch, b < t.bs.length ∧ bch t b = some ch ∧ i ∈ ch
theorem frs_of {fs : List Fr} (h : ∀ (i : Nat) (f : Fr), fs[i]? = some f → frok f = true) (hd : ∀ i, i < fs.length → dupf fs i = true) : ∀ n, n ≤ fs.length → frs fs n = true := by
 intro n
 induction n with
 | zero => intro _; rfl
 | succ n ih =>
  intro hn
  unfold frs
  have e : fs[n]? = some fs[n] := List.getElem?_eq_getElem (by omega)
  rw [ih (by omega), hd n (by omega), e]
  simp [h n _ e]
theorem dupf_of {fs : List Fr} {i : Nat} (h : ∀ (j : Nat) (f g : Fr), j < i → fs[j]? = some f → fs[i]? = some g → f.used = true → g.used = true → ¬ (f.s, f.p) = (g.s, g.p)) : dupf fs i = true := by
 unfold dupf
 cases e : fs[i]? with
 | none => rfl
 | some g =>
  simp only
  cases hg : g.used with
  | false => rfl
  | true =>
   rw [Bool.not_true, Bool.false_or, List.all_eq_true]
   intro f hf
   obtain ⟨j, hj, he⟩ := List.getElem_of_mem hf
   rw [List.length_take] at hj
   have ej : fs[j]? = some f := by rw [List.getElem_take] at he; rw [List.getElem?_eq_getElem (by omega), he]
   cases hu : f.used with
   | false => rfl
   | true =>
    rw [Bool.not_true, Bool.false_or, decide_eq_true_eq]
    exact h j f g (by omega) ej e hu hg
theorem boks_of {t : Tab} : ∀ {n : Nat}, (∀ b, b < n → bok t b = true) → boks t n = true := by
 intro n
 induction n with
 | zero => intro _; rfl
 | succ n ih => intro h; unfold boks; rw [ih (fun b hb => h b (by omega)), h n (by omega)]; rfl
theorem uni_of {t : Tab} {b : Nat} {ch : List Nat} {j : Nat} : ∀ {n : Nat}, b < n → bch t b = some ch → j ∈ ch → j ∈ uni t n := by
 intro n
 induction n with
 | zero => intro h; omega
 | succ n ih =>
  intro h e hj
  unfold uni
  rw [List.mem_append]
  rcases Nat.lt_or_ge b n with h1 | h1
  ·exact .inl (ih h1 e hj)
  ·obtain rfl : b = n := by omega
   exact .inr (by rw [e]; exact hj)
theorem tv_TV {t : Tab} : tv t = true ↔ TV t := by
 constructor
 ·intro h
  obtain ⟨h1, h2, h3, _⟩ := tv_parts h
  refine ⟨h1, fun i f e => ?_, fun i j f g ei ej hf hg hk => key_once h2 ei ej hf hg hk, fun b hb => bok_parts (boks_at h3 hb), fun i f e hu => ?_⟩
  ·obtain ⟨hi, _⟩ := List.getElem?_eq_some_iff.1 e
   obtain ⟨⟨g, eg, hg⟩, _⟩ := frs_at h2 hi
   rw [e] at eg
   injection eg with eg
   rw [eg]; exact hg
  ·obtain ⟨b, ch, hb, e1, h4, _⟩ := tv_in h e hu
   exact ⟨b, ch, hb, e1, h4⟩
 ·intro h
  obtain ⟨h1, h2, h3, h4⟩ := h.sz
  have hb : boks t t.bs.length = true := boks_of fun b hb => by
   obtain ⟨ch, e, hc⟩ := h.ch b hb
   unfold bok
   rw [e]
   exact List.all_eq_true.2 hc
  have hf : frs t.fs t.fs.length = true := frs_of h.ok (fun i hi => dupf_of fun j f g hj ej ei hu hg hk => by have := h.key j i f g ej ei hu hg hk; omega) _ (Nat.le_refl _)
  have hs : bsum t t.bs.length = nus t.fs t.fs.length := by
   rw [← uni_len, nus_eq _ _ (Nat.le_refl _)]
   apply Nat.le_antisymm
   ·refine len_sub (uni_nodup hb) fun x hx => ?_
    obtain ⟨b', ch, _, e1, h1⟩ := uni_mem hx
    obtain ⟨g, e2, hu2⟩ := bch_mem e1 x h1
    obtain ⟨hx, _⟩ := List.getElem?_eq_some_iff.1 e2
    rw [List.mem_filter, List.mem_range]
    exact ⟨hx, by unfold usedAt; rw [e2]; exact hu2⟩
   ·refine len_sub (List.nodup_range.filter _) fun x hx => ?_
    rw [List.mem_filter, List.mem_range] at hx
    obtain ⟨hx1, hx2⟩ := hx
    unfold usedAt at hx2
    rw [List.getElem?_eq_getElem hx1] at hx2
    obtain ⟨b, ch, hb', e, hm⟩ := h.cov x _ (List.getElem?_eq_getElem hx1) hx2
    exact uni_of hb' e hm
  unfold tv tsz
  rw [hf, hb, hs]
  simp [h1, h2, h3, h4]
theorem TV.map {t : Tab} (h : TV t) {s p r : Int} {i : Nat} {f0 : Fr} (hk : kval (s, p) = true) (hn : fnd t.fs s p = none) (hi : t.fs[i]? = some f0) (hu : f0.used = false) (hr : inR r 8 = true) :
  TV ⟨t.bs.set (bkt t s p) i, t.fs.set i ⟨true, s, p, r, t.bs.getD (bkt t s p) 0⟩⟩ := by
 obtain ⟨h1, h2, h3, h4⟩ := h.sz
 obtain ⟨hb, he⟩ := bkt_in hk h3
 obtain ⟨hil, _⟩ := List.getElem?_eq_some_iff.1 hi
 have hout : ∀ {b : Nat} {ch : List Nat}, bch t b = some ch → i ∉ ch := fun e hm => by
  obtain ⟨f, e1, hf⟩ := bch_mem e i hm
  rw [hi] at e1
  injection e1 with e1
  rw [e1] at hu
  rw [hu] at hf; cases hf
 have hcg : ∀ {k : Nat} {x : Int} {ch : List Nat} {f : Fr}, chn t.fs k x = some ch → i ∉ ch → chn (t.fs.set i f) k x = some ch := fun e hm =>
  chn_congr e fun j hj g eg => ⟨g, by rw [set_ne (by rintro rfl; exact hm hj)]; exact eg, rfl, rfl⟩
 have hbn : ∀ {b : Nat} {ch : List Nat}, b ≠ bkt t s p → bch t b = some ch → bch ⟨t.bs.set (bkt t s p) i, t.fs.set i ⟨true, s, p, r, t.bs.getD (bkt t s p) 0⟩⟩ b = some ch := fun hne e => by
  obtain ⟨x, ex, ec⟩ := bch_some e
  rw [bch_of (t := ⟨t.bs.set (bkt t s p) i, _⟩) (i := x) (by rw [set_ne (fun e => hne e.symm)]; exact ex)]
  simp only [List.length_set]
  exact hcg ec (hout e)
 have hbe : ∀ {ch : List Nat}, bch t (bkt t s p) = some ch → bch ⟨t.bs.set (bkt t s p) i, t.fs.set i ⟨true, s, p, r, t.bs.getD (bkt t s p) 0⟩⟩ (bkt t s p) = some (i :: ch) := fun {ch} e => by
  obtain ⟨x, ex, ec⟩ := bch_some e
  rw [bch_of (t := ⟨t.bs.set (bkt t s p) i, _⟩) (i := (i : Int)) (set_eq hb)]
  simp only [List.length_set]
  have hl := chn_lt' ec hil (hout e)
  obtain ⟨m, hm⟩ : ∃ m, t.fs.length = m + 1 := ⟨t.fs.length - 1, by omega⟩
  rw [hm, chn_step m (set_eq hil) rfl]
  have hx : t.bs.getD (bkt t s p) 0 = x := by rw [List.getD_eq_getElem?_getD, ex]; rfl
  simp only [hx]
  rw [chn_more (show ch.length ≤ m by omega) (hcg (chn_self ec) (hout e))]
  rfl
 have hok' : ∀ {b j : Nat}, j ≠ i → hok t b j = true → hok ⟨t.bs.set (bkt t s p) i, t.fs.set i ⟨true, s, p, r, t.bs.getD (bkt t s p) 0⟩⟩ b j = true := fun hne e => by
  unfold hok at e ⊢
  simp only [List.length_set]
  rw [set_ne (fun e => hne e.symm)]
  exact e
 refine ⟨by simp only [List.length_set]; exact h.sz, fun j f e => ?_, fun j k f g ej ek hf hg hkk => ?_, fun b hb' => ?_, fun j f e hf => ?_⟩
 ·by_cases hj : i = j
  ·subst hj
   rw [set_eq hil] at e
   injection e with e
   subst e
   simp [frok, hk, hr]
  ·rw [set_ne hj] at e
   exact h.ok j f e
 ·by_cases hj : i = j
  ·subst hj
   rw [set_eq hil] at ej
   injection ej with ej
   subst ej
   by_cases hk2 : i = k
   ·exact hk2
   ·rw [set_ne hk2] at ek
    exact absurd hkk.symm (fnd_none hn ek hg)
  ·rw [set_ne hj] at ej
   by_cases hk2 : i = k
   ·subst hk2
    rw [set_eq hil] at ek
    injection ek with ek
    subst ek
    exact absurd hkk (fnd_none hn ej hf)
   ·rw [set_ne hk2] at ek
    exact h.key j k f g ej ek hf hg hkk
 ·simp only [List.length_set] at hb'
  obtain ⟨ch, e, hc⟩ := h.ch b hb'
  by_cases hbb : b = bkt t s p
  ·subst hbb
   refine ⟨_, hbe e, fun j hj => ?_⟩
   rcases List.mem_cons.1 hj with hji | hm
   ·subst hji
    unfold hok
    simp only [List.length_set]
    rw [set_eq hil]
    simp only
    rw [decide_eq_true_eq]
    exact he
   ·exact hok' (by rintro rfl; exact hout e hm) (hc j hm)
  ·exact ⟨ch, hbn hbb e, fun j hj => hok' (by rintro rfl; exact hout e hj) (hc j hj)⟩
 ·by_cases hj : i = j
  ·subst hj
   obtain ⟨ch, e1, _⟩ := h.ch _ hb
   exact ⟨_, _, by simp only [List.length_set]; exact hb, hbe e1, by simp⟩
  ·rw [set_ne hj] at e
   obtain ⟨b, ch, hb', e1, hm⟩ := h.cov j f e hf
   by_cases hbb : b = bkt t s p
   ·subst hbb
    exact ⟨_, _, by simp only [List.length_set]; exact hb', hbe e1, by simp [hm]⟩
   ·exact ⟨b, ch, by simp only [List.length_set]; exact hb', hbn hbb e1, hm⟩
theorem chn_next {fs : List Fr} {k : Nat} {x : Int} {ch : List Nat} (h : chn fs k x = some ch) {j i : Nat} {f : Fr} (hj : j ∈ ch) (e : fs[j]? = some f) (hn : f.n = (i : Int)) : i ∈ ch ∧ ∃ a r, ch = a ++ j :: i :: r := by
 obtain ⟨g, e1, hu, a, r, e2, h3⟩ := chn_mem h j hj
 rw [e] at e1
 injection e1 with e1
 subst e1
 obtain ⟨j', k', f', r', h4, h5, h6, h7, h8, h9⟩ := chn_cons h3 (by omega)
 have hjj : j' = j := by omega
 subst hjj
 rw [e] at h6
 injection h6 with h6
 subst h6
 injection h9 with _ h9
 subst h9
 rw [hn] at h8
 obtain ⟨i', _, _, r'', h10, _, _, _, _, h11⟩ := chn_cons h8 (by omega)
 have : i' = i := by omega
 subst this
 rw [h11] at e2
 exact ⟨by rw [e2]; simp, a, r'', e2⟩
theorem chn_cut {fs : List Fr} {i : Nat} {n : Int} {φ : Fr → Fr} (h1 : ∀ f, (φ f).used = f.used) (h2 : ∀ f, f.n ≠ (i : Int) → (φ f).n = f.n) (h3 : ∀ f, f.used = true → f.n = (i : Int) → (φ f).n = n) {fi : Fr} (hi : fs[i]? = some fi) (hn : fi.n = n) :
  ∀ {a r : List Nat} {k : Nat} {x : Int}, a ≠ [] → chn fs k x = some (a ++ i :: r) → chn ((fs.map φ).set i frz) k x = some (a ++ r) := by
 have hget : ∀ {j : Nat} {f : Fr}, j ≠ i → fs[j]? = some f → ((fs.map φ).set i frz)[j]? = some (φ f) := fun hne e => by
  rw [set_ne (fun e => hne e.symm), List.getElem?_map, e]; rfl
 intro a
 induction a with
 | nil => intro r k x h; exact absurd rfl h
 | cons j a ih =>
  intro r k x _ h
  have hnd := chn_nodup h
  have hx : x ≠ -1 := by rintro rfl; rw [chn_neg] at h; injection h with h; cases h
  obtain ⟨j', k', f, r', rfl, rfl, e, hu, hr, hc⟩ := chn_cons h hx
  injection hc with hjj hc
  subst hjj
  have hji : j ≠ i := by rintro rfl; simp at hnd
  have hstep := fun k => chn_step k (hget hji e) (by rw [h1]; exact hu)
  rw [hstep]
  subst hc
  cases a with
  | nil =>
   change chn fs k' f.n = some (i :: r) at hr
   have hni : f.n ≠ -1 := by rintro e2; rw [e2, chn_neg] at hr; injection hr with hr; cases hr
   obtain ⟨i', k2, g, r2, h4, h5, h6, h7, h8, h9⟩ := chn_cons hr hni
   injection h9 with h9 h10
   subst h9 h10
   rw [h3 f hu h4]
   rw [hi] at h6
   injection h6 with h6
   subst h6
   rw [hn] at h8
   subst h5
   have hnd2 : i ∉ r := by simp at hnd; exact hnd.2.1
   rw [chn_congr (fs' := (fs.map φ).set i frz) (chn_more (Nat.le_succ _) h8) (fun y hy g eg => by
    have hne : y ≠ i := by rintro rfl; exact hnd2 hy
    refine ⟨φ g, hget hne eg, h1 g, ?_⟩
    apply h2
    intro hgn
    exact hnd2 (chn_next h8 hy eg hgn).1)]
   rfl
  | cons j2 a =>
   have hni : f.n ≠ (i : Int) := by
    intro e2
    rw [e2] at hr
    obtain ⟨i', _, _, _, h4, _, _, _, _, h9⟩ := chn_cons hr (by omega)
    injection h9 with h9
    have : i' = i := by omega
    subst this
    subst h9
    simp at hnd
   rw [h2 f hni, ih (by simp) hr]
   rfl
theorem TV.unmap {t : Tab} (h : TV t) {i : Nat} {f0 : Fr} (hi : t.fs[i]? = some f0) (hu : f0.used = true) (hk : kval (f0.s, f0.p) = true) :
  TV (if t.bs.getD (bkt t f0.s f0.p) 0 = (i : Int) then ⟨t.bs.set (bkt t f0.s f0.p) f0.n, t.fs.set i frz⟩ else ⟨t.bs, (t.fs.map (relink i f0.n)).set i frz⟩) := by
 obtain ⟨_, _, hz3, _⟩ := h.sz
 obtain ⟨hil, _⟩ := List.getElem?_eq_some_iff.1 hi
 obtain ⟨hb, he⟩ := bkt_in hk hz3
 obtain ⟨ch0, e0, hc0⟩ := h.ch _ hb
 have hin : i ∈ ch0 := by
  obtain ⟨b, ch, hb', e1, hm⟩ := h.cov i f0 hi hu
  obtain ⟨ch2, e2, hc2⟩ := h.ch b hb'
  rw [e1] at e2
  injection e2 with e2
  subst e2
  obtain ⟨f, ef, hh⟩ := hok_parts (hc2 i hm)
  rw [hi] at ef
  injection ef with ef
  subst ef
  have : b = bkt t f0.s f0.p := by omega
  subst this
  rw [e1] at e0
  injection e0 with e0
  rw [← e0]; exact hm
 obtain ⟨x, ex, ec⟩ := bch_some e0
 have hx : t.bs.getD (bkt t f0.s f0.p) 0 = x := by rw [List.getD_eq_getElem?_getD, ex]; rfl
 obtain ⟨_, _, _, a, r, ea, hir⟩ := chn_mem ec i hin
 have hnd : (a ++ i :: r).Nodup := ea ▸ chn_nodup ec
 -- what both ways have in common
 have main : ∀ (bs' : List Int) (φ : Fr → Fr), bs'.length = t.bs.length → (∀ b, b ≠ bkt t f0.s f0.p → bs'[b]? = t.bs[b]?) → (∀ f, (φ f).used = f.used ∧ (φ f).s = f.s ∧ (φ f).p = f.p ∧ (φ f).r = f.r) → (∀ f, f.used = false → φ f = f) → (∀ f, f.n ≠ (i : Int) → (φ f).n = f.n) →
   bch ⟨bs', (t.fs.map φ).set i frz⟩ (bkt t f0.s f0.p) = some (a ++ r) → TV ⟨bs', (t.fs.map φ).set i frz⟩ := by
  intro bs' φ hl hbs p1 p2 p3 hch
  have hget : ∀ {j : Nat} {f : Fr}, j ≠ i → t.fs[j]? = some f → ((t.fs.map φ).set i frz)[j]? = some (φ f) := fun hne e => by
   rw [set_ne (fun e => hne e.symm), List.getElem?_map, e]; rfl
  have hget' : ∀ {j : Nat} {f : Fr}, j ≠ i → ((t.fs.map φ).set i frz)[j]? = some f → ∃ g, t.fs[j]? = some g ∧ f = φ g := fun {j f} hne e => by
   rw [set_ne (fun e => hne e.symm), List.getElem?_map] at e
   cases eg : t.fs[j]? with
   | none => rw [eg] at e; cases e
   | some g => rw [eg] at e; injection e with e; exact ⟨g, rfl, e.symm⟩
  have hgi : ((t.fs.map φ).set i frz)[i]? = some frz := set_eq (by rw [List.length_map]; exact hil)
  have hbn : ∀ {b : Nat} {ch : List Nat}, b ≠ bkt t f0.s f0.p → b < t.bs.length → bch t b = some ch → i ∉ ch ∧ bch ⟨bs', (t.fs.map φ).set i frz⟩ b = some ch := fun {b ch} hne hb' e => by
   have hni : i ∉ ch := fun hm => by
    obtain ⟨ch2, e2, hc2⟩ := h.ch b hb'
    rw [e] at e2
    injection e2 with e2
    subst e2
    obtain ⟨f, ef, hh⟩ := hok_parts (hc2 i hm)
    rw [hi] at ef
    injection ef with ef
    subst ef
    omega
   refine ⟨hni, ?_⟩
   obtain ⟨y, ey, ecy⟩ := bch_some e
   rw [bch_of (t := ⟨bs', (t.fs.map φ).set i frz⟩) (i := y) (by rw [hbs b hne]; exact ey)]
   simp only [List.length_set, List.length_map]
   exact chn_congr ecy fun j hj g eg => ⟨φ g, hget (by rintro rfl; exact hni hj) eg, (p1 g).1, p3 g fun hgn => hni (chn_next ecy hj eg hgn).1⟩
  have hok' : ∀ {b j : Nat}, j ≠ i → hok t b j = true → hok ⟨bs', (t.fs.map φ).set i frz⟩ b j = true := fun hne e => by
   obtain ⟨f, ef, hh⟩ := hok_parts e
   unfold hok
   rw [hget hne ef]
   simp only [hl]
   rw [decide_eq_true_eq, (p1 f).2.1, (p1 f).2.2.1]
   exact hh
  have har : ∀ j ∈ a ++ r, j ≠ i ∧ j ∈ ch0 := fun j hj => by
   refine ⟨?_, ?_⟩
   ·rintro rfl
    rw [List.nodup_append] at hnd
    rcases List.mem_append.1 hj with hm | hm
    ·exact hnd.2.2 j hm j (by simp) rfl
    ·exact (List.nodup_cons.1 hnd.2.1).1 hm
   ·rw [ea]
    rcases List.mem_append.1 hj with hm | hm
    ·exact List.mem_append.2 (.inl hm)
    ·exact List.mem_append.2 (.inr (by simp [hm]))
  refine ⟨by simp only [List.length_set, List.length_map, hl]; exact h.sz, fun j f e => ?_, fun j k f g ej ek hf hg hkk => ?_, fun b hb' => ?_, fun j f e hf => ?_⟩
  ·by_cases hj : j = i
   ·subst hj
    rw [hgi] at e
    injection e with e
    rw [← e]; decide
   ·obtain ⟨g, eg, rfl⟩ := hget' hj e
    have hg := h.ok j g eg
    cases hgu : g.used with
    | false => rw [p2 g hgu]; exact hg
    | true =>
     unfold frok at hg ⊢
     rw [(p1 g).1, (p1 g).2.1, (p1 g).2.2.1, (p1 g).2.2.2]
     rw [hgu] at hg ⊢
     simp only [if_true] at hg ⊢
     exact hg
  ·have hji : j ≠ i := by rintro rfl; rw [hgi] at ej; injection ej with ej; rw [← ej] at hf; cases hf
   have hki : k ≠ i := by rintro rfl; rw [hgi] at ek; injection ek with ek; rw [← ek] at hg; cases hg
   obtain ⟨f', ef, rfl⟩ := hget' hji ej
   obtain ⟨g', eg, rfl⟩ := hget' hki ek
   rw [(p1 f').1] at hf
   rw [(p1 g').1] at hg
   rw [(p1 f').2.1, (p1 f').2.2.1, (p1 g').2.1, (p1 g').2.2.1] at hkk
   exact h.key j k f' g' ef eg hf hg hkk
  ·simp only [hl] at hb'
   by_cases hbb : b = bkt t f0.s f0.p
   ·subst hbb
    refine ⟨_, hch, fun j hj => ?_⟩
    obtain ⟨h1, h2⟩ := har j hj
    exact hok' h1 (hc0 j h2)
   ·obtain ⟨ch, e1, hc⟩ := h.ch b hb'
    obtain ⟨h1, h2⟩ := hbn hbb hb' e1
    exact ⟨ch, h2, fun j hj => hok' (by rintro rfl; exact h1 hj) (hc j hj)⟩
  ·have hji : j ≠ i := by rintro rfl; rw [hgi] at e; injection e with e; rw [← e] at hf; cases hf
   obtain ⟨g, eg, rfl⟩ := hget' hji e
   rw [(p1 g).1] at hf
   obtain ⟨b, ch, hb', e1, hm⟩ := h.cov j g eg hf
   by_cases hbb : b = bkt t f0.s f0.p
   ·subst hbb
    rw [e0] at e1
    injection e1 with e1
    subst e1
    rw [ea] at hm
    refine ⟨_, _, by simp only [hl]; exact hb', hch, ?_⟩
    rcases List.mem_append.1 hm with hm | hm
    ·exact List.mem_append.2 (.inl hm)
    ·rcases List.mem_cons.1 hm with hm | hm
     ·exact absurd hm hji
     ·exact List.mem_append.2 (.inr hm)
   ·exact ⟨b, ch, by simp only [hl]; exact hb', (hbn hbb hb' e1).2, hm⟩
 rw [hx]
 by_cases hxi : x = (i : Int)
 ·rw [if_pos hxi]
  subst hxi
  have ha : a = [] := by
   cases a with
   | nil => rfl
   | cons j a =>
    exfalso
    rw [ea] at ec
    have := chn_same ec hir
    injection this with h1 h2
    have hl := congrArg List.length h2
    simp at hl
    omega
  subst ha
  have := main (t.bs.set (bkt t f0.s f0.p) f0.n) id (by simp) (fun b hb' => set_ne (fun e => hb' e.symm)) (fun f => ⟨rfl, rfl, rfl, rfl⟩) (fun f _ => rfl) (fun f _ => rfl) (by
   rw [List.map_id, bch_of (t := ⟨t.bs.set (bkt t f0.s f0.p) f0.n, t.fs.set i frz⟩) (i := f0.n) (set_eq hb)]
   simp only [List.length_set, List.nil_append]
   obtain ⟨i', k', g, r', h4, h5, h6, h7, h8, h9⟩ := chn_cons hir (by omega)
   injection h9 with h9 h10
   subst h9 h10
   rw [hi] at h6
   injection h6 with h6
   subst h6
   have hnr : i ∉ r := by simp at hnd; exact hnd.1
   exact chn_congr (chn_more (by omega) h8) fun j hj g eg => ⟨g, by rw [set_ne (by rintro rfl; exact hnr hj)]; exact eg, rfl, rfl⟩)
  rwa [List.map_id] at this
 ·rw [if_neg hxi]
  have hane : a ≠ [] := by
   rintro rfl
   rw [ea] at ec
   have hx1 : x ≠ -1 := by rintro rfl; rw [chn_neg] at ec; injection ec with ec; cases ec
   obtain ⟨i', _, _, _, h4, _, _, _, _, h9⟩ := chn_cons ec hx1
   injection h9 with h9
   subst h9
   exact hxi h4
  refine main t.bs (relink i f0.n) rfl (fun b _ => rfl) (fun f => by unfold relink; split <;> exact ⟨rfl, rfl, rfl, rfl⟩) (fun f hf => by unfold relink; rw [if_neg (by simp [hf])]) (fun f hf => by unfold relink; rw [if_neg (fun h => hf h.2)]) ?_
  rw [bch_of (t := ⟨t.bs, (t.fs.map (relink i f0.n)).set i frz⟩) (i := x) ex]
  simp only [List.length_set, List.length_map]
  rw [ea] at ec
  exact chn_cut (fun f => by unfold relink; split <;> rfl) (fun f hf => by unfold relink; rw [if_neg (fun h => hf h.2)]) (fun f hf hn => by unfold relink; rw [if_pos ⟨hf, hn⟩]) hi rfl hane ec
end Go.Proofs.YtfbnokjdkhcgoaaGreatDoor
