/- A part of the proofs of this seat: Keep, Fp. -/
import Derived.Test.YtnaagdmaggdbmaaGreatDoorFPlain
import Derived.Test.YtnaagdmaggdbmaaGreatDoorFCaP
import Derived.Test.YtnaagdmaggdbmaaGreatDoorFTI
import Derived.Test.YtnaagdmaggdbmaaGreatDoorFCopy
set_option linter.unusedVariables false
set_option linter.unusedSimpArgs false
namespace Go.Proofs.YtnaagdmaggdbmaaGreatDoor
open Go.RowKit
theorem chn_self {fs : List Fr} : ∀ {k : Nat} {i : Int} {ch : List Nat}, chn fs k i = some ch → chn fs ch.length i = some ch := by
 intro k
 induction k with
 | zero =>
  intro i ch h
  by_cases hi : i = -1
  ·subst hi; rw [chn_neg] at h ⊢; exact h
  ·rw [chn_none0 hi] at h; cases h
 | succ k ih =>
  intro i ch h
  by_cases hi : i = -1
  ·subst hi; rw [chn_neg] at h ⊢; exact h
  ·obtain ⟨j, k1, f, r, rfl, hk1, e, hu, h2, rfl⟩ := chn_cons h hi
   have : k1 = k := by omega
   subst this
   rw [List.length_cons, chn_step _ e hu, ih h2]
   rfl
theorem chn_congr {fs fs' : List Fr} : ∀ {k : Nat} {i : Int} {ch : List Nat}, chn fs k i = some ch → (∀ j ∈ ch, ∀ f, fs[j]? = some f → ∃ f', fs'[j]? = some f' ∧ f'.used = f.used ∧ f'.n = f.n) → chn fs' k i = some ch := by
 intro k
 induction k with
 | zero =>
  intro i ch h _
  by_cases hi : i = -1
  ·subst hi; rw [chn_neg] at h ⊢; exact h
  ·rw [chn_none0 hi] at h; cases h
 | succ k ih =>
  intro i ch h hc
  by_cases hi : i = -1
  ·subst hi; rw [chn_neg] at h ⊢; exact h
  ·obtain ⟨j, k1, f, r, rfl, hk1, e, hu, h2, rfl⟩ := chn_cons h hi
   have : k1 = k := by omega
   subst this
   obtain ⟨f', e', hu', hn'⟩ := hc j (by simp) f e
   rw [chn_step _ e' (hu'.trans hu), hn', ih h2 (fun j' hj' => hc j' (by simp [hj']))]
   rfl
theorem chn_lt' {fs : List Fr} {k : Nat} {i : Int} {ch : List Nat} {x : Nat} (h : chn fs k i = some ch) (hx : x < fs.length) (hn : x ∉ ch) : ch.length < fs.length := by
 have h1 := len_sub (a := x :: ch) (b := List.range fs.length) (List.nodup_cons.2 ⟨hn, chn_nodup h⟩) (fun y hy => by
  rcases List.mem_cons.1 hy with rfl | hy
  ·exact List.mem_range.2 hx
  ·obtain ⟨f, e, _⟩ := chn_mem h y hy
   obtain ⟨hx, _⟩ := List.getElem?_eq_some_iff.1 e
   exact List.mem_range.2 hx)
 simp at h1
 omega
structure TV (t : Tab) : Prop where
 sz : 1 ≤ t.fs.length ∧ t.fs.length ≤ 16 ∧ 1 ≤ t.bs.length ∧ t.bs.length ≤ 16
 ok : ∀ (i : Nat) (f : Fr), t.fs[i]? = some f → frok f = true
 key : ∀ (i j : Nat) (f g : Fr), t.fs[i]? = some f → t.fs[j]? = some g → f.used = true → g.used = true → (f.s, f.p) = (g.s, g.p) → i = j
 ch : ∀ b : Nat, b < t.bs.length → ∃ ch, bch t b = some ch ∧ ∀ i ∈ ch, hok t b i = true
 cov : ∀ (i : Nat) (f : Fr), t.fs[i]? = some f → f.used = true → ∃ b ch, b < t.bs.length ∧ bch t b = some ch ∧ i ∈ ch
theorem frs_of {fs : List Fr} (h : ∀ (i : Nat) (f : Fr), fs[i]? = some f → frok f = true) (hd : ∀ i, i < fs.length → dupf fs i = true) : ∀ n, n ≤ fs.length → frs fs n = true := by
 intro n
 induction n with
 | zero => intro _; rfl
 | succ n ih =>
  intro hn
  unfold frs
  have e : fs[n]? = some fs[n] := List.getElem?_eq_getElem (by omega)
  rw [ih (by omega), hd n (by omega), e]
  simp [h n _ e]
theorem dupf_of {fs : List Fr} {i : Nat} (h : ∀ (j : Nat) (f g : Fr), j < i → fs[j]? = some f → fs[i]? = some g → f.used = true → g.used = true → ¬ (f.s, f.p) = (g.s, g.p)) : dupf fs i = true := by
 unfold dupf
 cases e : fs[i]? with
 | none => rfl
 | some g =>
  simp only
  cases hg : g.used with
  | false => rfl
  | true =>
   rw [Bool.not_true, Bool.false_or, List.all_eq_true]
   intro f hf
   obtain ⟨j, hj, he⟩ := List.getElem_of_mem hf
   rw [List.length_take] at hj
   have ej : fs[j]? = some f := by rw [List.getElem_take] at he; rw [List.getElem?_eq_getElem (by omega), he]
   cases hu : f.used with
   | false => rfl
   | true =>
    rw [Bool.not_true, Bool.false_or, decide_eq_true_eq]
    exact h j f g (by omega) ej e hu hg
theorem boks_of {t : Tab} : ∀ {n : Nat}, (∀ b, b < n → bok t b = true) → boks t n = true := by
 intro n
 induction n with
 | zero => intro _; rfl
 | succ n ih => intro h; unfold boks; rw [ih (fun b hb => h b (by omega)), h n (by omega)]; rfl
theorem uni_of {t : Tab} {b : Nat} {ch : List Nat} {j : Nat} : ∀ {n : Nat}, b < n → bch t b = some ch → j ∈ ch → j ∈ uni t n := by
 intro n
 induction n with
 | zero => intro h; omega
 | succ n ih =>
  intro h e hj
  unfold uni
  rw [List.mem_append]
  rcases Nat.lt_or_ge b n with h1 | h1
  ·exact .inl (ih h1 e hj)
  ·obtain rfl : b = n := by omega
   exact .inr (by rw [e]; exact hj)
theorem tv_TV {t : Tab} : tv t = true ↔ TV t := by
 constructor
 ·intro h
  obtain ⟨h1, h2, h3, _⟩ := tv_parts h
  refine ⟨h1, fun i f e => ?_, fun i j f g ei ej hf hg hk => key_once h2 ei ej hf hg hk, fun b hb => bok_parts (boks_at h3 hb), fun i f e hu => ?_⟩
  ·obtain ⟨hi, _⟩ := List.getElem?_eq_some_iff.1 e
   obtain ⟨⟨g, eg, hg⟩, _⟩ := frs_at h2 hi
   rw [e] at eg
   injection eg with eg
   rw [eg]; exact hg
  ·obtain ⟨b, ch, hb, e1, h4, _⟩ := tv_in h e hu
   exact ⟨b, ch, hb, e1, h4⟩
 ·intro h
  obtain ⟨h1, h2, h3, h4⟩ := h.sz
  have hb : boks t t.bs.length = true := boks_of fun b hb => by
   obtain ⟨ch, e, hc⟩ := h.ch b hb
   unfold bok
   rw [e]
   exact List.all_eq_true.2 hc
  have hf : frs t.fs t.fs.length = true := frs_of h.ok (fun i hi => dupf_of fun j f g hj ej ei hu hg hk => by have := h.key j i f g ej ei hu hg hk; omega) _ (Nat.le_refl _)
  have hs : bsum t t.bs.length = nus t.fs t.fs.length := by
   rw [← uni_len, nus_eq _ _ (Nat.le_refl _)]
   apply Nat.le_antisymm
   ·refine len_sub (uni_nodup hb) fun x hx => ?_
    obtain ⟨b', ch, _, e1, h1⟩ := uni_mem hx
    obtain ⟨g, e2, hu2⟩ := bch_mem e1 x h1
    obtain ⟨hx, _⟩ := List.getElem?_eq_some_iff.1 e2
    rw [List.mem_filter, List.mem_range]
    exact ⟨hx, by unfold usedAt; rw [e2]; exact hu2⟩
   ·refine len_sub (List.nodup_range.filter _) fun x hx => ?_
    rw [List.mem_filter, List.mem_range] at hx
    obtain ⟨hx1, hx2⟩ := hx
    unfold usedAt at hx2
    rw [List.getElem?_eq_getElem hx1] at hx2
    obtain ⟨b, ch, hb', e, hm⟩ := h.cov x _ (List.getElem?_eq_getElem hx1) hx2
    exact uni_of hb' e hm
  unfold tv tsz
  rw [hf, hb, hs]
  simp [h1, h2, h3, h4]
theorem TV.map {t : Tab} (h : TV t) {s p r : Int} {i : Nat} {f0 : Fr} (hk : kval (s, p) = true) (hn : fnd t.fs s p = none) (hi : t.fs[i]? = some f0) (hu : f0.used = false) (hr : inR r 8 = true) :
  TV ⟨t.bs.set (bkt t s p) i, t.fs.set i ⟨true, s, p, r, t.bs.getD (bkt t s p) 0⟩⟩ := by
 obtain ⟨h1, h2, h3, h4⟩ := h.sz
 obtain ⟨hb, he⟩ := bkt_in hk h3
 obtain ⟨hil, _⟩ := List.getElem?_eq_some_iff.1 hi
 have hout : ∀ {b : Nat} {ch : List Nat}, bch t b = some ch → i ∉ ch := fun e hm => by
  obtain ⟨f, e1, hf⟩ := bch_mem e i hm
  rw [hi] at e1
  injection e1 with e1
  rw [e1] at hu
  rw [hu] at hf; cases hf
 have hcg : ∀ {k : Nat} {x : Int} {ch : List Nat} {f : Fr}, chn t.fs k x = some ch → i ∉ ch → chn (t.fs.set i f) k x = some ch := fun e hm =>
  chn_congr e fun j hj g eg => ⟨g, by rw [set_ne (by rintro rfl; exact hm hj)]; exact eg, rfl, rfl⟩
 have hbn : ∀ {b : Nat} {ch : List Nat}, b ≠ bkt t s p → bch t b = some ch → bch ⟨t.bs.set (bkt t s p) i, t.fs.set i ⟨true, s, p, r, t.bs.getD (bkt t s p) 0⟩⟩ b = some ch := fun hne e => by
  obtain ⟨x, ex, ec⟩ := bch_some e
  rw [bch_of (t := ⟨t.bs.set (bkt t s p) i, _⟩) (i := x) (by rw [set_ne (fun e => hne e.symm)]; exact ex)]
  simp only [List.length_set]
  exact hcg ec (hout e)
 have hbe : ∀ {ch : List Nat}, bch t (bkt t s p) = some ch → bch ⟨t.bs.set (bkt t s p) i, t.fs.set i ⟨true, s, p, r, t.bs.getD (bkt t s p) 0⟩⟩ (bkt t s p) = some (i :: ch) := fun {ch} e => by
  obtain ⟨x, ex, ec⟩ := bch_some e
  rw [bch_of (t := ⟨t.bs.set (bkt t s p) i, _⟩) (i := (i : Int)) (set_eq hb)]
  simp only [List.length_set]
  have hl := chn_lt' ec hil (hout e)
  obtain ⟨m, hm⟩ : ∃ m, t.fs.length = m + 1 := ⟨t.fs.length - 1, by omega⟩
  rw [hm, chn_step m (set_eq hil) rfl]
  have hx : t.bs.getD (bkt t s p) 0 = x := by rw [List.getD_eq_getElem?_getD, ex]; rfl
  simp only [hx]
  rw [chn_more (show ch.length ≤ m by omega) (hcg (chn_self ec) (hout e))]
  rfl
 have hok' : ∀ {b j : Nat}, j ≠ i → hok t b j = true → hok ⟨t.bs.set (bkt t s p) i, t.fs.set i ⟨true, s, p, r, t.bs.getD (bkt t s p) 0⟩⟩ b j = true := fun hne e => by
  unfold hok at e ⊢
  simp only [List.length_set]
  rw [set_ne (fun e => hne e.symm)]
  exact e
 refine ⟨by simp only [List.length_set]; exact h.sz, fun j f e => ?_, fun j k f g ej ek hf hg hkk => ?_, fun b hb' => ?_, fun j f e hf => ?_⟩
 ·by_cases hj : i = j
  ·subst hj
   rw [set_eq hil] at e
   injection e with e
   subst e
   simp [frok, hk, hr]
  ·rw [set_ne hj] at e
   exact h.ok j f e
 ·by_cases hj : i = j
  ·subst hj
   rw [set_eq hil] at ej
   injection ej with ej
   subst ej
   by_cases hk2 : i = k
   ·exact hk2
   ·rw [set_ne hk2] at ek
    exact absurd hkk.symm (fnd_none hn ek hg)
  ·rw [set_ne hj] at ej
   by_cases hk2 : i = k
   ·subst hk2
    rw [set_eq hil] at ek
    injection ek with ek
    subst ek
    exact absurd hkk (fnd_none hn ej hf)
   ·rw [set_ne hk2] at ek
    exact h.key j k f g ej ek hf hg hkk
 ·simp only [List.length_set] at hb'
  obtain ⟨ch, e, hc⟩ := h.ch b hb'
  by_cases hbb : b = bkt t s p
  ·subst hbb
   refine ⟨_, hbe e, fun j hj => ?_⟩
   rcases List.mem_cons.1 hj with hji | hm
   ·subst hji
    unfold hok
    simp only [List.length_set]
    rw [set_eq hil]
    simp only
    rw [decide_eq_true_eq]
    exact he
   ·exact hok' (by rintro rfl; exact hout e hm) (hc j hm)
  ·exact ⟨ch, hbn hbb e, fun j hj => hok' (by rintro rfl; exact hout e hj) (hc j hj)⟩
 ·by_cases hj : i = j
  ·subst hj
   obtain ⟨ch, e1, _⟩ := h.ch _ hb
   exact ⟨_, _, by simp only [List.length_set]; exact hb, hbe e1, by simp⟩
  ·rw [set_ne hj] at e
   obtain ⟨b, ch, hb', e1, hm⟩ := h.cov j f e hf
   by_cases hbb : b = bkt t s p
   ·subst hbb
    exact ⟨_, _, by simp only [List.length_set]; exact hb', hbe e1, by simp [hm]⟩
   ·exact ⟨b, ch, by simp only [List.length_set]; exact hb', hbn hbb e1, hm⟩
theorem chn_next {fs : List Fr} {k : Nat} {x : Int} {ch : List Nat} (h : chn fs k x = some ch) {j i : Nat} {f : Fr} (hj : j ∈ ch) (e : fs[j]? = some f) (hn : f.n = (i : Int)) : i ∈ ch ∧ ∃ a r, ch = a ++ j :: i :: r := by
 obtain ⟨g, e1, hu, a, r, e2, h3⟩ := chn_mem h j hj
 rw [e] at e1
 injection e1 with e1
 subst e1
 obtain ⟨j', k', f', r', h4, h5, h6, h7, h8, h9⟩ := chn_cons h3 (by omega)
 have hjj : j' = j := by omega
 subst hjj
 rw [e] at h6
 injection h6 with h6
 subst h6
 injection h9 with _ h9
 subst h9
 rw [hn] at h8
 obtain ⟨i', _, _, r'', h10, _, _, _, _, h11⟩ := chn_cons h8 (by omega)
 have : i' = i := by omega
 subst this
 rw [h11] at e2
 exact ⟨by rw [e2]; simp, a, r'', e2⟩
theorem chn_cut {fs : List Fr} {i : Nat} {n : Int} {φ : Fr → Fr} (h1 : ∀ f, (φ f).used = f.used) (h2 : ∀ f, f.n ≠ (i : Int) → (φ f).n = f.n) (h3 : ∀ f, f.used = true → f.n = (i : Int) → (φ f).n = n) {fi : Fr} (hi : fs[i]? = some fi) (hn : fi.n = n) :
  ∀ {a r : List Nat} {k : Nat} {x : Int}, a ≠ [] → chn fs k x = some (a ++ i :: r) → chn ((fs.map φ).set i frz) k x = some (a ++ r) := by
 have hget : ∀ {j : Nat} {f : Fr}, j ≠ i → fs[j]? = some f → ((fs.map φ).set i frz)[j]? = some (φ f) := fun hne e => by
  rw [set_ne (fun e => hne e.symm), List.getElem?_map, e]; rfl
 intro a
 induction a with
 | nil => intro r k x h; exact absurd rfl h
 | cons j a ih =>
  intro r k x _ h
  have hnd := chn_nodup h
  have hx : x ≠ -1 := by rintro rfl; rw [chn_neg] at h; injection h with h; cases h
  obtain ⟨j', k', f, r', rfl, rfl, e, hu, hr, hc⟩ := chn_cons h hx
  injection hc with hjj hc
  subst hjj
  have hji : j ≠ i := by rintro rfl; simp at hnd
  have hstep := fun k => chn_step k (hget hji e) (by rw [h1]; exact hu)
  rw [hstep]
  subst hc
  cases a with
  | nil =>
   change chn fs k' f.n = some (i :: r) at hr
   have hni : f.n ≠ -1 := by rintro e2; rw [e2, chn_neg] at hr; injection hr with hr; cases hr
   obtain ⟨i', k2, g, r2, h4, h5, h6, h7, h8, h9⟩ := chn_cons hr hni
   injection h9 with h9 h10
   subst h9 h10
   rw [h3 f hu h4]
   rw [hi] at h6
   injection h6 with h6
   subst h6
   rw [hn] at h8
   subst h5
   have hnd2 : i ∉ r := by simp at hnd; exact hnd.2.1
   rw [chn_congr (fs' := (fs.map φ).set i frz) (chn_more (Nat.le_succ _) h8) (fun y hy g eg => by
    have hne : y ≠ i := by rintro rfl; exact hnd2 hy
    refine ⟨φ g, hget hne eg, h1 g, ?_⟩
    apply h2
    intro hgn
    exact hnd2 (chn_next h8 hy eg hgn).1)]
   rfl
  | cons j2 a =>
   have hni : f.n ≠ (i : Int) := by
    intro e2
    rw [e2] at hr
    obtain ⟨i', _, _, _, h4, _, _, _, _, h9⟩ := chn_cons hr (by omega)
    injection h9 with h9
    have : i' = i := by omega
    subst this
    subst h9
    simp at hnd
   rw [h2 f hni, ih (by simp) hr]
   rfl
theorem TV.unmap {t : Tab} (h : TV t) {i : Nat} {f0 : Fr} (hi : t.fs[i]? = some f0) (hu : f0.used = true) (hk : kval (f0.s, f0.p) = true) :
  TV (if t.bs.getD (bkt t f0.s f0.p) 0 = (i : Int) then ⟨t.bs.set (bkt t f0.s f0.p) f0.n, t.fs.set i frz⟩ else ⟨t.bs, (t.fs.map (relink i f0.n)).set i frz⟩) := by
 obtain ⟨_, _, hz3, _⟩ := h.sz
 obtain ⟨hil, _⟩ := List.getElem?_eq_some_iff.1 hi
 obtain ⟨hb, he⟩ := bkt_in hk hz3
 obtain ⟨ch0, e0, hc0⟩ := h.ch _ hb
 have hin : i ∈ ch0 := by
  obtain ⟨b, ch, hb', e1, hm⟩ := h.cov i f0 hi hu
  obtain ⟨ch2, e2, hc2⟩ := h.ch b hb'
  rw [e1] at e2
  injection e2 with e2
  subst e2
  obtain ⟨f, ef, hh⟩ := hok_parts (hc2 i hm)
  rw [hi] at ef
  injection ef with ef
  subst ef
  have : b = bkt t f0.s f0.p := by omega
  subst this
  rw [e1] at e0
  injection e0 with e0
  rw [← e0]; exact hm
 obtain ⟨x, ex, ec⟩ := bch_some e0
 have hx : t.bs.getD (bkt t f0.s f0.p) 0 = x := by rw [List.getD_eq_getElem?_getD, ex]; rfl
 obtain ⟨_, _, _, a, r, ea, hir⟩ := chn_mem ec i hin
 have hnd : (a ++ i :: r).Nodup := ea ▸ chn_nodup ec
 -- what both ways have in common
 have main : ∀ (bs' : List Int) (φ : Fr → Fr), bs'.length = t.bs.length → (∀ b, b ≠ bkt t f0.s f0.p → bs'[b]? = t.bs[b]?) → (∀ f, (φ f).used = f.used ∧ (φ f).s = f.s ∧ (φ f).p = f.p ∧ (φ f).r = f.r) → (∀ f, f.used = false → φ f = f) → (∀ f, f.n ≠ (i : Int) → (φ f).n = f.n) →
   bch ⟨bs', (t.fs.map φ).set i frz⟩ (bkt t f0.s f0.p) = some (a ++ r) → TV ⟨bs', (t.fs.map φ).set i frz⟩ := by
  intro bs' φ hl hbs p1 p2 p3 hch
  have hget : ∀ {j : Nat} {f : Fr}, j ≠ i → t.fs[j]? = some f → ((t.fs.map φ).set i frz)[j]? = some (φ f) := fun hne e => by
   rw [set_ne (fun e => hne e.symm), List.getElem?_map, e]; rfl
  have hget' : ∀ {j : Nat} {f : Fr}, j ≠ i → ((t.fs.map φ).set i frz)[j]? = some f → ∃ g, t.fs[j]? = some g ∧ f = φ g := fun {j f} hne e => by
   rw [set_ne (fun e => hne e.symm), List.getElem?_map] at e
   cases eg : t.fs[j]? with
   | none => rw [eg] at e; cases e
   | some g => rw [eg] at e; injection e with e; exact ⟨g, rfl, e.symm⟩
  have hgi : ((t.fs.map φ).set i frz)[i]? = some frz := set_eq (by rw [List.length_map]; exact hil)
  have hbn : ∀ {b : Nat} {ch : List Nat}, b ≠ bkt t f0.s f0.p → b < t.bs.length → bch t b = some ch → i ∉ ch ∧ bch ⟨bs', (t.fs.map φ).set i frz⟩ b = some ch := fun {b ch} hne hb' e => by
   have hni : i ∉ ch := fun hm => by
    obtain ⟨ch2, e2, hc2⟩ := h.ch b hb'
    rw [e] at e2
    injection e2 with e2
    subst e2
    obtain ⟨f, ef, hh⟩ := hok_parts (hc2 i hm)
    rw [hi] at ef
    injection ef with ef
    subst ef
    omega
   refine ⟨hni, ?_⟩
   obtain ⟨y, ey, ecy⟩ := bch_some e
   rw [bch_of (t := ⟨bs', (t.fs.map φ).set i frz⟩) (i := y) (by rw [hbs b hne]; exact ey)]
   simp only [List.length_set, List.length_map]
   exact chn_congr ecy fun j hj g eg => ⟨φ g, hget (by rintro rfl; exact hni hj) eg, (p1 g).1, p3 g fun hgn => hni (chn_next ecy hj eg hgn).1⟩
  have hok' : ∀ {b j : Nat}, j ≠ i → hok t b j = true → hok ⟨bs', (t.fs.map φ).set i frz⟩ b j = true := fun hne e => by
   obtain ⟨f, ef, hh⟩ := hok_parts e
   unfold hok
   rw [hget hne ef]
   simp only [hl]
   rw [decide_eq_true_eq, (p1 f).2.1, (p1 f).2.2.1]
   exact hh
  have har : ∀ j ∈ a ++ r, j ≠ i ∧ j ∈ ch0 := fun j hj => by
   refine ⟨?_, ?_⟩
   ·rintro rfl
    rw [List.nodup_append] at hnd
    rcases List.mem_append.1 hj with hm | hm
    ·exact hnd.2.2 j hm j (by simp) rfl
    ·exact (List.nodup_cons.1 hnd.2.1).1 hm
   ·rw [ea]
    rcases List.mem_append.1 hj with hm | hm
    ·exact List.mem_append.2 (.inl hm)
    ·exact List.mem_append.2 (.inr (by simp [hm]))
  refine ⟨by simp only [List.length_set, List.length_map, hl]; exact h.sz, fun j f e => ?_, fun j k f g ej ek hf hg hkk => ?_, fun b hb' => ?_, fun j f e hf => ?_⟩
  ·by_cases hj : j = i
   ·subst hj
    rw [hgi] at e
    injection e with e
    rw [← e]; decide
   ·obtain ⟨g, eg, rfl⟩ := hget' hj e
    have hg := h.ok j g eg
    cases hgu : g.used with
    | false => rw [p2 g hgu]; exact hg
    | true =>
     unfold frok at hg ⊢
     rw [(p1 g).1, (p1 g).2.1, (p1 g).2.2.1, (p1 g).2.2.2]
     rw [hgu] at hg ⊢
     simp only [if_true] at hg ⊢
     exact hg
  ·have hji : j ≠ i := by rintro rfl; rw [hgi] at ej; injection ej with ej; rw [← ej] at hf; cases hf
   have hki : k ≠ i := by rintro rfl; rw [hgi] at ek; injection ek with ek; rw [← ek] at hg; cases hg
   obtain ⟨f', ef, rfl⟩ := hget' hji ej
   obtain ⟨g', eg, rfl⟩ := hget' hki ek
   rw [(p1 f').1] at hf
   rw [(p1 g').1] at hg
   rw [(p1 f').2.1, (p1 f').2.2.1, (p1 g').2.1, (p1 g').2.2.1] at hkk
   exact h.key j k f' g' ef eg hf hg hkk
  ·simp only [hl] at hb'
   by_cases hbb : b = bkt t f0.s f0.p
   ·subst hbb
    refine ⟨_, hch, fun j hj => ?_⟩
    obtain ⟨h1, h2⟩ := har j hj
    exact hok' h1 (hc0 j h2)
   ·obtain ⟨ch, e1, hc⟩ := h.ch b hb'
    obtain ⟨h1, h2⟩ := hbn hbb hb' e1
    exact ⟨ch, h2, fun j hj => hok' (by rintro rfl; exact h1 hj) (hc j hj)⟩
  ·have hji : j ≠ i := by rintro rfl; rw [hgi] at e; injection e with e; rw [← e] at hf; cases hf
   obtain ⟨g, eg, rfl⟩ := hget' hji e
   rw [(p1 g).1] at hf
   obtain ⟨b, ch, hb', e1, hm⟩ := h.cov j g eg hf
   by_cases hbb : b = bkt t f0.s f0.p
   ·subst hbb
    rw [e0] at e1
    injection e1 with e1
    subst e1
    rw [ea] at hm
    refine ⟨_, _, by simp only [hl]; exact hb', hch, ?_⟩
    rcases List.mem_append.1 hm with hm | hm
    ·exact List.mem_append.2 (.inl hm)
    ·rcases List.mem_cons.1 hm with hm | hm
     ·exact absurd hm hji
     ·exact List.mem_append.2 (.inr hm)
   ·exact ⟨b, ch, by simp only [hl]; exact hb', (hbn hbb hb' e1).2, hm⟩
 rw [hx]
 by_cases hxi : x = (i : Int)
 ·rw [if_pos hxi]
  subst hxi
  have ha : a = [] := by
   cases a with
   | nil => rfl
   | cons j a =>
    exfalso
    rw [ea] at ec
    have := chn_same ec hir
    injection this with h1 h2
    have hl := congrArg List.length h2
    simp at hl
    omega
  subst ha
  have := main (t.bs.set (bkt t f0.s f0.p) f0.n) id (by simp) (fun b hb' => set_ne (fun e => hb' e.symm)) (fun f => ⟨rfl, rfl, rfl, rfl⟩) (fun f _ => rfl) (fun f _ => rfl) (by
   rw [List.map_id, bch_of (t := ⟨t.bs.set (bkt t f0.s f0.p) f0.n, t.fs.set i frz⟩) (i := f0.n) (set_eq hb)]
   simp only [List.length_set, List.nil_append]
   obtain ⟨i', k', g, r', h4, h5, h6, h7, h8, h9⟩ := chn_cons hir (by omega)
   injection h9 with h9 h10
   subst h9 h10
   rw [hi] at h6
   injection h6 with h6
   subst h6
   have hnr : i ∉ r := by simp at hnd; exact hnd.1
   exact chn_congr (chn_more (by omega) h8) fun j hj g eg => ⟨g, by rw [set_ne (by rintro rfl; exact hnr hj)]; exact eg, rfl, rfl⟩)
  rwa [List.map_id] at this
 ·rw [if_neg hxi]
  have hane : a ≠ [] := by
   rintro rfl
   rw [ea] at ec
   have hx1 : x ≠ -1 := by rintro rfl; rw [chn_neg] at ec; injection ec with ec; cases ec
   obtain ⟨i', _, _, _, h4, _, _, _, _, h9⟩ := chn_cons ec hx1
   injection h9 with h9
   subst h9
   exact hxi h4
  refine main t.bs (relink i f0.n) rfl (fun b _ => rfl) (fun f => by unfold relink; split <;> exact ⟨rfl, rfl, rfl, rfl⟩) (fun f hf => by unfold relink; rw [if_neg (by simp [hf])]) (fun f hf => by unfold relink; rw [if_neg (fun h => hf h.2)]) ?_
  rw [bch_of (t := ⟨t.bs, (t.fs.map (relink i f0.n)).set i frz⟩) (i := x) ex]
  simp only [List.length_set, List.length_map]
  rw [ea] at ec
  exact chn_cut (fun f => by unfold relink; split <;> rfl) (fun f hf => by unfold relink; rw [if_neg (fun h => hf h.2)]) (fun f hf hn => by unfold relink; rw [if_pos ⟨hf, hn⟩]) hi rfl hane ec
end Go.Proofs.YtnaagdmaggdbmaaGreatDoor
namespace Go.Proofs.YtnaagdmaggdbmaaGreatDoor
open Go.RowKit
set_option maxRecDepth 1000000
set_option linter.unusedVariables false
set_option maxHeartbeats 2000000 in
theorem chain_any (vb vf : Value) (t : Tab) (b : Nat) (ch : List Nat) (w : World) (hT : TaR w vb vf t) (hb : b < t.bs.length) (hl : t.fs.length ≤ 100000) (hch : bch t b = some ch) :
  Calls Tryz.prog 74 #[.agg #[vb, vf], .int .i64 b] w (Post2 fun v w' => SlR intE w' v (ints ch) ∧ Below w.heap.size w w') := by
 obtain ⟨Ab, cb, rfl, hbc, hbm, hB⟩ := hT.b
 obtain ⟨Af, cf, rfl, hfc, hfm, hF⟩ := hT.f
 obtain ⟨i0, ei0⟩ : ∃ i0, t.bs[b]? = some i0 := ⟨_, List.getElem?_eq_getElem hb⟩
 have H0 := Lib.hid (chst_zero ei0)
 obtain ⟨b1, o1, rfl, hb1, c1⟩ := hB.i1 ei0
 have HF := Lib.hid hF
 have HCH := Lib.hid hch
 clear hF hB hT ei0 hch
 obtain ⟨W0, hW, hbx, hb0, hs0⟩ := box1 w #[.slice (some ⟨b1, o1, none⟩) t.bs.length cb, .slice Af t.fs.length cf] 26
 have HBX := Lib.hid hbx
 have HB0 := Lib.hid hb0
 have c1' := (hb0.cell (p := ⟨b1, o1 + b, none⟩) (by show b1 < _; omega)).trans c1
 have q0 := hbx.cell_ 0 (v := .slice (some ⟨b1, o1, none⟩) t.bs.length cb) rfl
 have HO : Hid (W0.ownsRow (w.heap.size + 1) 3 1 (.slice none 0 0) 0 (intE.cells (ints []))) := World.ownsRow_nil _ _ _ _
 clear hbx hb0 c1
 go_enter Tryz.func74, Tryz.ntmps74
 go_wp2
 clear c1' q0
 go_loopw [5, 6] (fun v u wr => ∃ (pre : List Nat) (i : Int), u = .int .i64 i ∧ pre.length ≤ t.fs.length ∧ Hid (ChSt t b pre i) ∧ wr.ownsRow (w.heap.size + 1) 3 1 v pre.length (intE.cells (ints pre)) ∧ Own wr w.heap.size 26 #[.slice (some ⟨b1, o1, none⟩) t.bs.length cb, .slice Af t.fs.length cf] ∧ Below w.heap.size w wr) (fun v _ _ => t.fs.length - lenV v)
 case atStart => exact ⟨[], i0, rfl, by simp, H0, HO.out, HBX.out, HB0.out⟩
 case round =>
  obtain ⟨pre, i, rfl, hpl, hst, hown, hbox, hb'⟩ := hrel
  obtain ⟨Ao, co, rfl, hoc, hom, hro⟩ := rs_own (E := intE) (l := ints pre) (ints_length pre).symm hown
  rw [ints_length] at *
  have q0 := hbox.cell_ 0 (v := .slice (some ⟨b1, o1, none⟩) t.bs.length cb) rfl
  have q1 := hbox.cell_ 1 (v := .slice Af t.fs.length cf) rfl
  have hbl := hbox.lt
  have HBOX := Lib.hid hbox
  have HOWN := Lib.hid hown
  clear hbox hown
  by_cases h1 : i = -1
  ·subst h1
   have hpe : pre = ch := by have := chst_end hst.out; rw [HCH.out] at this; injection this with this; exact this.symm
   subst hpe
   have HR : Hid (SlR intE wr (.slice Ao pre.length pre.length) (ints pre)) := ⟨Ao, pre.length, by rw [ints_length], by rw [ints_length]; omega, by omega, hro⟩
   have HCL := Lib.hid (clipint_any Ao pre.length co wr hoc)
   clear hro
   go_wp2_with fail
   refine HCL.out.mono ?_
   rintro e w2 ⟨rfl, rfl⟩
   go_wp2
   go_ret
   exact ⟨_, rfl, HR.out, hb'⟩
  ·have g1 : (i == -1) = false := by rw [beq_eq_false_iff_ne]; exact h1
   have hin : 0 ≤ i ∧ i < t.fs.length := by
    by_cases h2 : 0 ≤ i ∧ i < t.fs.length
    ·exact h2
    ·have := chst_out hst.out h1 h2; rw [HCH.out] at this; cases this
   obtain ⟨h3, h4⟩ := hin
   obtain ⟨k, rfl⟩ := Int.eq_ofNat_of_zero_le h3
   have h5 : pre.length < t.fs.length := by
    by_cases h5 : pre.length < t.fs.length
    ·exact h5
    ·have := chst_full hst.out h1 (by omega); rw [HCH.out] at this; cases this
   obtain ⟨f, ef⟩ : ∃ f, t.fs[k]? = some f := ⟨_, List.getElem?_eq_getElem (by omega)⟩
   have hu : f.used = true := by
    cases hu : f.used with
    | true => rfl
    | false => have := chst_free hst.out ef hu; rw [HCH.out] at this; cases this
   obtain ⟨b2, o2, rfl, hb2, d0, d1, d2, d3, d4⟩ := (HF.out.below hb').fr ef
   have HST := Lib.hid (chst_step hst.out ef hu h5)
   obtain ⟨v4, w4, hrun, hown4, hg4, _⟩ := run_append_i (w.heap.size + 1) wr _ pre.length (ints pre) (k : Int) HOWN.out (ints_length pre) (by omega) (by omega)
   have hb4 := bG (bA hb' (o := .cells #[.int .i64 (k : Int)] 3)) hg4 (fun x hx => by have := own_block HOWN.out x hx; omega)
   have hne : ∀ k, k ≤ w.heap.size → some k ≠ Value.ownBlock (.slice Ao pre.length co) := fun k hk e => by have := own_block HOWN.out k e.symm; omega
   have hd4 : w4.cell? ⟨b2, o2 + k * 5 + 4, none⟩ = some (.int .i64 f.n) := hg4.cell (a := ⟨b2, o2 + k * 5 + 4, none⟩) (((bA (bR (w := wr))).cell (p := ⟨b2, o2 + k * 5 + 4, none⟩) (by have := hb'.size; show b2 < _; omega)).trans d4) (hne b2 (by have := hb'.size; omega))
   have hbox4 := own_other (HBOX.out.alloc (o := .cells #[.int .i64 (k : Int)] 3)) hg4 (hne _ (Nat.le_refl _))
   rw [show ints pre ++ [(k : Int)] = ints (pre ++ [k]) by rw [ints_append]; rfl] at hown4
   obtain ⟨A4, c4, rfl, _, _, _⟩ := own_rd hown4
   have y1 := hbox4.cell_ 1 (v := .slice (some ⟨b2, o2, none⟩) t.fs.length cf) rfl
   have HB4 := Lib.hid hbox4
   have HO4 := Lib.hid hown4
   have hk0 : (0 : Int) ≤ (k : Int) := by omega
   clear hown4 hbox4 hg4 hne ef hu d0 d1 d2 d3 d4
   go_wp2_with (at_builtin; refine wpList_append_run _ rfl (.tmp 20) (.tmp 22) 23 rfl _ _ _ _ rfl rfl hrun ?_)
   go_roundw
   case rel => exact ⟨pre ++ [k], f.n, rfl, by simp; omega, HST, by simpa using HO4.out, HB4.out, hb4⟩
   case measure => simp [lenV]; omega
def fpI (t : Tab) (s p : Int) : Int := if fOK t s p = true then fndI t.fs s p else 0
set_option maxHeartbeats 2000000 in
theorem FindPage_any (vb vf : Value) (t : Tab) (s p : Int) (w : World) (hT : TaR w vb vf t) (hfree : Free w) :
    Calls Tryz.prog 25 #[.agg #[vb, vf], .agg #[.int .i64 s, .int .i64 p]] w (Post2 fun v w' => ∃ n : Int, v = .tuple #[.int .i64 (fpI t s p), .int .i64 n, .bool (fOK t s p)] ∧ Below w.heap.size w w') := by
  have HT := Lib.hid hT
  have HF := Lib.hid hfree
  obtain ⟨Ab, cb, rfl, hbc, hbm, hB⟩ := hT.b
  obtain ⟨Af, cf, rfl, hfc, hfm, hFs⟩ := hT.f
  clear hB hFs hfree
  obtain ⟨W0, hW, hbx, hky, hb0, hs0⟩ := box2 w #[.slice Ab t.bs.length cb, .slice Af t.fs.length cf] 26 #[.int .i64 s, .int .i64 p] 36
  have q0 := hbx.cell_ 0 (v := .slice Ab t.bs.length cb) rfl
  have q1 := hbx.cell_ 1 (v := .slice Af t.fs.length cf) rfl
  have HX0 := Lib.hid hbx
  have HK0 := Lib.hid hky
  have HB0 := Lib.hid hb0
  clear hbx hky hb0
  go_enter Tryz.func25, Tryz.ntmps25
  go_wp2_with fail
  refine (TableValid_any _ _ t W0 (HT.out.now HB0.out) (HF.out.now HB0.out)).mono ?_
  rintro e w1 ⟨rfl, hb1⟩
  clear q0 q1
  have HX1 := Lib.hid (HX0.out.below hb1)
  have HK1 := Lib.hid (HK0.out.below hb1)
  have HB1 := Lib.hid (bT HB0.out hb1)
  clear hb1 HX0 HK0 HB0
  cases htv : tv t with
  | false =>
    have HE : Hid (fOK t s p = false) := by show _ = _; unfold fOK; rw [htv]; rfl
    have HI : Hid (fpI t s p = 0) := by show _ = _; unfold fpI; rw [if_neg (by rw [HE.out]; decide)]
    go_wp2
    refine bodyPost_ret (v := .tuple #[.int .i64 (fpI t s p), .int .i64 0, .bool (fOK t s p)]) (by simp [results, Tryz.results25, go_sem, HE.out, HI.out]) rfl ⟨_, rfl, _, rfl, HB1.out⟩
  | true =>
    have k0 := HK1.out.cell_ 0 (v := .int .i64 s) rfl
    have k1 := HK1.out.cell_ 1 (v := .int .i64 p) rfl
    go_wp2_with fail
    refine (keyValid_any s p w1).mono ?_
    rintro e w2 ⟨rfl, hb2⟩
    clear k0 k1
    have HX2 := Lib.hid (HX1.out.below hb2)
    have HK2 := Lib.hid (HK1.out.below hb2)
    have HB2 := Lib.hid (bT HB1.out hb2)
    clear hb2 HX1 HK1 HB1
    cases hk : kval (s, p) with
    | false =>
      have HE : Hid (fOK t s p = false) := by show _ = _; unfold fOK; rw [htv, hk]; rfl
      have HI : Hid (fpI t s p = 0) := by show _ = _; unfold fpI; rw [if_neg (by rw [HE.out]; decide)]
      go_wp2
      refine bodyPost_ret (v := .tuple #[.int .i64 (fpI t s p), .int .i64 0, .bool (fOK t s p)]) (by simp [results, Tryz.results25, go_sem, HE.out, HI.out]) rfl ⟨_, rfl, _, rfl, HB2.out⟩
    | true =>
      obtain ⟨⟨_, hfl, hb1', hbl⟩, _⟩ := tv_parts htv
      obtain ⟨ch, hch, _⟩ := fnd_chain htv hk
      obtain ⟨hbk, hbe⟩ := bkt_in hk hb1'
      have hcl := (show ch.length ≤ t.fs.length from by
        obtain ⟨x, _, ec⟩ := bch_some hch
        exact chn_len ec)
      have HH := Lib.hid (fun W => post2_of (hash_any s p t.bs.length W hk ⟨by omega, by omega⟩))
      have HC := Lib.hid (fun W (h : TaR W (.slice Ab t.bs.length cb) (.slice Af t.fs.length cf) t) => chain_any (.slice Ab t.bs.length cb) (.slice Af t.fs.length cf) t (bkt t s p) ch W h hbk (by omega) hch)
      have q0 := HX2.out.cell_ 0 (v := .slice Ab t.bs.length cb) rfl
      have q1 := HX2.out.cell_ 1 (v := .slice Af t.fs.length cf) rfl
      have k0 := HK2.out.cell_ 0 (v := .int .i64 s) rfl
      have k1 := HK2.out.cell_ 1 (v := .int .i64 p) rfl
      go_wp2
      go_region_held_law (fun w' => w'.cell? ⟨w.heap.size, 0, none⟩ = some (.slice Ab t.bs.length cb) ∧ w'.cell? ⟨w.heap.size, 1, none⟩ = some (.slice Af t.fs.length cf) ∧ w'.cell? ⟨w.heap.size + 1, 0, none⟩ = some (.int .i64 s) ∧ w'.cell? ⟨w.heap.size + 1, 1, none⟩ = some (.int .i64 p)) (go_keep) (first
        | (go_at_call 75
           refine (HH.out _).mono ?_
           rintro _ w3 ⟨_, rfl, rfl, hb3⟩
           rw [hbe]
           have HB3 := Lib.hid (bT (bD HB2.out) hb3)
           have hx3 := HX2.out.drew.below hb3
           have hk3 := HK2.out.drew.below hb3
           have d0 := hx3.cell_ 0 (v := .slice Ab t.bs.length cb) rfl
           have d1 := hx3.cell_ 1 (v := .slice Af t.fs.length cf) rfl
           have d2 := hk3.cell_ 0 (v := .int .i64 s) rfl
           have d3 := hk3.cell_ 1 (v := .int .i64 p) rfl
           have HX3 := Lib.hid hx3
           have HK3 := Lib.hid hk3
           clear hx3 hk3 hb3)
        | (go_at_call 74
           refine (HC.out _ (HT.out.now HB3.out)).mono ?_
           rintro _ w4 ⟨_, rfl, hsv, hb4⟩
           have HB4 := Lib.hid (bT HB3.out hb4)
           have hx4 := HX3.out.below hb4
           have hk4 := HK3.out.below hb4
           have e0 := hx4.cell_ 0 (v := .slice Ab t.bs.length cb) rfl
           have e1 := hx4.cell_ 1 (v := .slice Af t.fs.length cf) rfl
           have e2 := hk4.cell_ 0 (v := .int .i64 s) rfl
           have e3 := hk4.cell_ 1 (v := .int .i64 p) rfl
           have HX4 := Lib.hid hx4
           have HK4 := Lib.hid hk4
           obtain ⟨Al, cl, rfl, hlc, hlm, hL⟩ := hsv
           have HL := Lib.hid hL
           rw [ints_length] at *
           clear hx4 hk4 hb4 hL d0 d1 d2 d3))
      all_goals
        go_wp2
        clear e0 e1 e2 e3
        go_loopw [27] (fun u wi => ∃ r : Nat, r ≤ ch.length ∧ u = .int .i64 r ∧ Hid (∀ (m j : Nat) (f : Fr), m < r → ch[m]? = some j → t.fs[j]? = some f → ¬ (f.s, f.p) = (s, p)) ∧ Below w4.heap.size w4 wi) (fun u _ => ch.length - (intOf u).toNat)
        case atStart => exact ⟨0, by omega, rfl, (fun m j f h => absurd h (by omega)), bR⟩
        case round =>
          obtain ⟨r, hr, rfl, hacc, hbi⟩ := hrel
          by_cases hlr : r < ch.length
          · obtain ⟨j, ej⟩ : ∃ j, ch[r]? = some j := ⟨_, List.getElem?_eq_getElem hlr⟩
            obtain ⟨f, ef, huf⟩ := bch_mem hch j (List.mem_of_getElem? ej)
            obtain ⟨hjl, _⟩ := List.getElem?_eq_some_iff.1 ef
            obtain ⟨b5, o5, hAl, hb5, y0⟩ := (HL.out.now (Nat.le_refl _) hbi).i1 (ints_get ej)
            obtain ⟨b4, o4, hAf, hb4, x0, x1, x2, x3, x4⟩ := ((HT.out.now (bT HB4.out hbi)).fsl).fr ef
            subst hAl hAf
            have z1 := xcell (w := wr) ((HX4.out.below hbi).cell_ 1 (v := .slice (some ⟨b4, o4, none⟩) t.fs.length cf) rfl) (HX4.out.below hbi).lt
            have z2 := xcell (w := wr) ((HK4.out.below hbi).cell_ 0 (v := .int .i64 s) rfl) (HK4.out.below hbi).lt
            have z3 := xcell (w := wr) ((HK4.out.below hbi).cell_ 1 (v := .int .i64 p) rfl) (HK4.out.below hbi).lt
            have z5 := xcell (w := wr) x1 (by show b4 < _; omega)
            have z6 := xcell (w := wr) x2 (by show b4 < _; omega)
            have hj2 : (j : Int) < (t.fs.length : Int) := by omega
            have he := fun W => eql_key f.s f.p s p W
            have hi1 : ((ints ch).length : Int) = (ch.length : Int) := by rw [ints_length]
            cases hq1 : keq f.s f.p s p with
            | true =>
              rw [hq1] at he
              have hfn := chain_some htv hk hch ej ef (keq_iff.1 hq1)
              have HE : Hid (fOK t s p = true) := by show _ = _; unfold fOK; rw [htv, hk, hfn]; simp
              have HI : Hid (fpI t s p = (j : Int)) := by show _ = _; unfold fpI; rw [if_pos HE.out, hfn]
              clear ej ef huf x0 x1 x2 x3 x4 hfn
              go_wp2
              refine wp_region_ext (by kernel_rfl) (by kernel_rfl) ?_
              repeat (go_big_quiet_step (fail))
              refine wpQuiet_nil ?_
              intro _ hw'
              obtain ⟨⟨wq, hq⟩, hw''⟩ := hw'
              subst hw''
              try dsimp only
              go_wp2
              refine bodyPost_ret (v := .tuple #[.int .i64 (fpI t s p), .int .i64 ((r : Int) + 1), .bool (fOK t s p)]) (by simp [results, Tryz.results25, go_sem, HE.out, HI.out]) rfl ⟨_, rfl, _, rfl, bT HB4.out (bT hbi hq)⟩
            | false =>
              rw [hq1] at he
              have HACC : Hid (∀ (m j : Nat) (f : Fr), m < r + 1 → ch[m]? = some j → t.fs[j]? = some f → ¬ (f.s, f.p) = (s, p)) := fun m j' f' hm e1 e2 => by
                rcases Nat.lt_or_ge m r with h | h
                · exact hacc.out m j' f' h e1 e2
                · obtain rfl : m = r := by omega
                  rw [ej] at e1
                  injection e1 with e1
                  subst e1
                  rw [ef] at e2
                  injection e2 with e2
                  subst e2
                  exact keq_no hq1
              clear ej ef huf x0 x1 x2 x3 x4
              go_wp2
              refine wp_region_ext (by kernel_rfl) (by kernel_rfl) ?_
              repeat (go_big_quiet_step (fail))
              refine wpQuiet_nil ?_
              intro _ hw'
              obtain ⟨⟨wq, hq⟩, hw''⟩ := hw'
              subst hw''
              try dsimp only
              go_wp2
              go_roundw
              case rel => exact ⟨r + 1, by omega, by go_num, HACC, bT hbi hq⟩
              case measure => simp [intOf]; omega
          · obtain rfl : r = ch.length := by omega
            have hfn : fndI t.fs s p = -1 := chain_none htv hk hch (fun m j f e1 e2 => hacc.out m j f (List.getElem?_eq_some_iff.1 e1).1 e1 e2)
            have HE : Hid (fOK t s p = false) := by show _ = _; unfold fOK; rw [hfn]; simp
            have HI : Hid (fpI t s p = 0) := by show _ = _; unfold fpI; rw [if_neg (by rw [HE.out]; decide)]
            clear hfn
            go_wp2
            refine bodyPost_ret (v := .tuple #[.int .i64 (fpI t s p), .int .i64 (ch.length : Int), .bool (fOK t s p)]) (by simp [results, Tryz.results25, go_sem, HE.out, HI.out]) rfl ⟨_, rfl, _, rfl, bT HB4.out hbi⟩
end Go.Proofs.YtnaagdmaggdbmaaGreatDoor
