/- A part of the proofs of this seat: Keep, KyP. -/
import Derived.Test.YtibpnlojlfcpmaaGreatDoorRPlain
set_option linter.unusedVariables false
set_option linter.unusedSimpArgs false
set_option maxRecDepth 1000000
namespace Go.Proofs.YtibpnlojlfcpmaaGreatDoor
open Go.RowKit
theorem chn_self {fs : List Fr} : ∀ {k : Nat} {i : Int} {ch : List Nat}, chn fs k i = some ch → chn fs ch.length i = some ch := by
 intro k
 induction k with
 | zero =>
  intro i ch h
  by_cases hi : i = -1
  ·subst hi; rw [chn_neg] at h ⊢; exact h
  ·rw [chn_none0 hi] at h; cases h
 | succ k ih =>
  intro i ch h
  by_cases hi : i = -1
  ·subst hi; rw [chn_neg] at h ⊢; exact h
  ·obtain ⟨j, k1, f, r, rfl, hk1, e, hu, h2, rfl⟩ := chn_cons h hi
   have : k1 = k := by omega
   subst this
   rw [List.length_cons, chn_step _ e hu, ih h2]
   rfl
theorem chn_congr {fs fs' : List Fr} : ∀ {k : Nat} {i : Int} {ch : List Nat}, chn fs k i = some ch → (∀ j ∈ ch, ∀ f, fs[j]? = some f → ∃ f', fs'[j]? = some f' ∧ f'.used = f.used ∧ f'.n = f.n) → chn fs' k i = some ch := by
 intro k
 induction k with
 | zero =>
  intro i ch h _
  by_cases hi : i = -1
  ·subst hi; rw [chn_neg] at h ⊢; exact h
  ·rw [chn_none0 hi] at h; cases h
 | succ k ih =>
  intro i ch h hc
  by_cases hi : i = -1
  ·subst hi; rw [chn_neg] at h ⊢; exact h
  ·obtain ⟨j, k1, f, r, rfl, hk1, e, hu, h2, rfl⟩ := chn_cons h hi
   have : k1 = k := by omega
   subst this
   obtain ⟨f', e', hu', hn'⟩ := hc j (by simp) f e
   rw [chn_step _ e' (hu'.trans hu), hn', ih h2 (fun j' hj' => hc j' (by simp [hj']))]
   rfl
theorem chn_lt' {fs : List Fr} {k : Nat} {i : Int} {ch : List Nat} {x : Nat} (h : chn fs k i = some ch) (hx : x < fs.length) (hn : x ∉ ch) : ch.length < fs.length := by
 have h1 := len_sub (a := x :: ch) (b := List.range fs.length) (List.nodup_cons.2 ⟨hn, chn_nodup h⟩) (fun y hy => by
  rcases List.mem_cons.1 hy with rfl | hy
  ·exact List.mem_range.2 hx
  ·obtain ⟨f, e, _⟩ := chn_mem h y hy
   obtain ⟨hx, _⟩ := List.getElem?_eq_some_iff.1 e
   exact List.mem_range.2 hx)
 simp at h1
 omega
structure TV (t : Tab) : Prop where
 sz : 1 ≤ t.fs.length ∧ t.fs.length ≤ 16 ∧ 1 ≤ t.bs.length ∧ t.bs.length ≤ 16
 ok : ∀ (i : Nat) (f : Fr), t.fs[i]? = some f → frok f = true
 key : ∀ (i j : Nat) (f g : Fr), t.fs[i]? = some f → t.fs[j]? = some g → f.used = true → g.used = true → (f.s, f.p) = (g.s, g.p) → i = j
 ch : ∀ b : Nat, b < t.bs.length → ∃ ch, bch t b = some ch ∧ ∀ i ∈ ch, hok t b i = true
 cov : ∀ (i : Nat) (f : Fr), t.fs[i]? = some f → f.used = true → ∃ b ch, b < t.bs.length ∧ bch t b = some ch ∧ i ∈ ch
theorem frs_of {fs : List Fr} (h : ∀ (i : Nat) (f : Fr), fs[i]? = some f → frok f = true) (hd : ∀ i, i < fs.length → dupf fs i = true) : ∀ n, n ≤ fs.length → frs fs n = true := by
 intro n
 induction n with
 | zero => intro _; rfl
 | succ n ih =>
  intro hn
  unfold frs
  have e : fs[n]? = some fs[n] := List.getElem?_eq_getElem (by omega)
  rw [ih (by omega), hd n (by omega), e]
  simp [h n _ e]
theorem dupf_of {fs : List Fr} {i : Nat} (h : ∀ (j : Nat) (f g : Fr), j < i → fs[j]? = some f → fs[i]? = some g → f.used = true → g.used = true → ¬ (f.s, f.p) = (g.s, g.p)) : dupf fs i = true := by
 unfold dupf
 cases e : fs[i]? with
 | none => rfl
 | some g =>
  simp only
  cases hg : g.used with
  | false => rfl
  | true =>
   rw [Bool.not_true, Bool.false_or, List.all_eq_true]
   intro f hf
   obtain ⟨j, hj, he⟩ := List.getElem_of_mem hf
   rw [List.length_take] at hj
   have ej : fs[j]? = some f := by rw [List.getElem_take] at he; rw [List.getElem?_eq_getElem (by omega), he]
   cases hu : f.used with
   | false => rfl
   | true =>
    rw [Bool.not_true, Bool.false_or, decide_eq_true_eq]
    exact h j f g (by omega) ej e hu hg
theorem boks_of {t : Tab} : ∀ {n : Nat}, (∀ b, b < n → bok t b = true) → boks t n = true := by
 intro n
 induction n with
 | zero => intro _; rfl
 | succ n ih => intro h; unfold boks; rw [ih (fun b hb => h b (by omega)), h n (by omega)]; rfl
theorem uni_of {t : Tab} {b : Nat} {ch : List Nat} {j : Nat} : ∀ {n : Nat}, b < n → bch t b = some ch → j ∈ ch → j ∈ uni t n := by
 intro n
 induction n with
 | zero => intro h; omega
 | succ n ih =>
  intro h e hj
  unfold uni
  rw [List.mem_append]
  rcases Nat.lt_or_ge b n with h1 | h1
  ·exact .inl (ih h1 e hj)
  ·obtain rfl : b = n := by omega
   exact .inr (by rw [e]; exact hj)
theorem tv_TV {t : Tab} : tv t = true ↔ TV t := by
 constructor
 ·intro h
  obtain ⟨h1, h2, h3, _⟩ := tv_parts h
  refine ⟨h1, fun i f e => ?_, fun i j f g ei ej hf hg hk => key_once h2 ei ej hf hg hk, fun b hb => bok_parts (boks_at h3 hb), fun i f e hu => ?_⟩
  ·obtain ⟨hi, _⟩ := List.getElem?_eq_some_iff.1 e
   obtain ⟨⟨g, eg, hg⟩, _⟩ := frs_at h2 hi
   rw [e] at eg
   injection eg with eg
   rw [eg]; exact hg
  ·obtain ⟨b, ch, hb, e1, h4, _⟩ := tv_in h e hu
   exact ⟨b, ch, hb, e1, h4⟩
 ·intro h
  obtain ⟨h1, h2, h3, h4⟩ := h.sz
  have hb : boks t t.bs.length = true := boks_of fun b hb => by
   obtain ⟨ch, e, hc⟩ := h.ch b hb
   unfold bok
   rw [e]
   exact List.all_eq_true.2 hc
  have hf : frs t.fs t.fs.length = true := frs_of h.ok (fun i hi => dupf_of fun j f g hj ej ei hu hg hk => by have := h.key j i f g ej ei hu hg hk; omega) _ (Nat.le_refl _)
  have hs : bsum t t.bs.length = nus t.fs t.fs.length := by
   rw [← uni_len, nus_eq _ _ (Nat.le_refl _)]
   apply Nat.le_antisymm
   ·refine len_sub (uni_nodup hb) fun x hx => ?_
    obtain ⟨b', ch, _, e1, h1⟩ := uni_mem hx
    obtain ⟨g, e2, hu2⟩ := bch_mem e1 x h1
    obtain ⟨hx, _⟩ := List.getElem?_eq_some_iff.1 e2
    rw [List.mem_filter, List.mem_range]
    exact ⟨hx, by unfold usedAt; rw [e2]; exact hu2⟩
   ·refine len_sub (List.nodup_range.filter _) fun x hx => ?_
    rw [List.mem_filter, List.mem_range] at hx
    obtain ⟨hx1, hx2⟩ := hx
    unfold usedAt at hx2
    rw [List.getElem?_eq_getElem hx1] at hx2
    obtain ⟨b, ch, hb', e, hm⟩ := h.cov x _ (List.getElem?_eq_getElem hx1) hx2
    exact uni_of hb' e hm
  unfold tv tsz
  rw [hf, hb, hs]
  simp [h1, h2, h3, h4]
theorem TV.map {t : Tab} (h : TV t) {s p r : Int} {i : Nat} {f0 : Fr} (hk : kval (s, p) = true) (hn : fnd t.fs s p = none) (hi : t.fs[i]? = some f0) (hu : f0.used = false) (hr : inR r 8 = true) :
  TV ⟨t.bs.set (bkt t s p) i, t.fs.set i ⟨true, s, p, r, t.bs.getD (bkt t s p) 0⟩⟩ := by
 obtain ⟨h1, h2, h3, h4⟩ := h.sz
 obtain ⟨hb, he⟩ := bkt_in hk h3
 obtain ⟨hil, _⟩ := List.getElem?_eq_some_iff.1 hi
 have hout : ∀ {b : Nat} {ch : List Nat}, bch t b = some ch → i ∉ ch := fun e hm => by
  obtain ⟨f, e1, hf⟩ := bch_mem e i hm
  rw [hi] at e1
  injection e1 with e1
  rw [e1] at hu
  rw [hu] at hf; cases hf
 have hcg : ∀ {k : Nat} {x : Int} {ch : List Nat} {f : Fr}, chn t.fs k x = some ch → i ∉ ch → chn (t.fs.set i f) k x = some ch := fun e hm =>
  chn_congr e fun j hj g eg => ⟨g, by rw [set_ne (by rintro rfl; exact hm hj)]; exact eg, rfl, rfl⟩
 have hbn : ∀ {b : Nat} {ch : List Nat}, b ≠ bkt t s p → bch t b = some ch → bch ⟨t.bs.set (bkt t s p) i, t.fs.set i ⟨true, s, p, r, t.bs.getD (bkt t s p) 0⟩⟩ b = some ch := fun hne e => by
  obtain ⟨x, ex, ec⟩ := bch_some e
  rw [bch_of (t := ⟨t.bs.set (bkt t s p) i, _⟩) (i := x) (by rw [set_ne (fun e => hne e.symm)]; exact ex)]
  simp only [List.length_set]
  exact hcg ec (hout e)
 have hbe : ∀ {ch : List Nat}, bch t (bkt t s p) = some ch → bch ⟨t.bs.set (bkt t s p) i, t.fs.set i ⟨true, s, p, r, t.bs.getD (bkt t s p) 0⟩⟩ (bkt t s p) = some (i :: ch) := fun {ch} e => by
  obtain ⟨x, ex, ec⟩ := bch_some e
  rw [bch_of (t := ⟨t.bs.set (bkt t s p) i, _⟩) (i := (i : Int)) (set_eq hb)]
  simp only [List.length_set]
  have hl := chn_lt' ec hil (hout e)
  obtain ⟨m, hm⟩ : ∃ m, t.fs.length = m + 1 := ⟨t.fs.length - 1, by omega⟩
  rw [hm, chn_step m (set_eq hil) rfl]
  have hx : t.bs.getD (bkt t s p) 0 = x := by rw [List.getD_eq_getElem?_getD, ex]; rfl
  simp only [hx]
  rw [chn_more (show ch.length ≤ m by omega) (hcg (chn_self ec) (hout e))]
  rfl
 have hok' : ∀ {b j : Nat}, j ≠ i → hok t b j = true → hok ⟨t.bs.set (bkt t s p) i, t.fs.set i ⟨true, s, p, r, t.bs.getD (bkt t s p) 0⟩⟩ b j = true := fun hne e => by
  unfold hok at e ⊢
  simp only [List.length_set]
  rw [set_ne (fun e => hne e.symm)]
  exact e
 refine ⟨by simp only [List.length_set]; exact h.sz, fun j f e => ?_, fun j k f g ej ek hf hg hkk => ?_, fun b hb' => ?_, fun j f e hf => ?_⟩
 ·by_cases hj : i = j
  ·subst hj
   rw [set_eq hil] at e
   injection e with e
   subst e
   simp [frok, hk, hr]
  ·rw [set_ne hj] at e
   exact h.ok j f e
 ·by_cases hj : i = j
  ·subst hj
   rw [set_eq hil] at ej
   injection ej with ej
   subst ej
   by_cases hk2 : i = k
   ·exact hk2
   ·rw [set_ne hk2] at ek
    exact absurd hkk.symm (fnd_none hn ek hg)
  ·rw [set_ne hj] at ej
   by_cases hk2 : i = k
   ·subst hk2
    rw [set_eq hil] at ek
    injection ek with ek
    subst ek
    exact absurd hkk (fnd_none hn ej hf)
   ·rw [set_ne hk2] at ek
    exact h.key j k f g ej ek hf hg hkk
 ·simp only [List.length_set] at hb'
  obtain ⟨ch, e, hc⟩ := h.ch b hb'
  by_cases hbb : b = bkt t s p
  ·subst hbb
   refine ⟨_, hbe e, fun j hj => ?_⟩
   rcases List.mem_cons.1 hj with hji | hm
   ·subst hji
    unfold hok
    simp only [List.length_set]
    rw [set_eq hil]
    simp only
    rw [decide_eq_true_eq]
    exact he
   ·exact hok' (by rintro rfl; exact hout e hm) (hc j hm)
  ·exact ⟨ch, hbn hbb e, fun j hj => hok' (by rintro rfl; exact hout e hj) (hc j hj)⟩
 ·by_cases hj : i = j
  ·subst hj
   obtain ⟨ch, e1, _⟩ := h.ch _ hb
   exact ⟨_, _, by simp only [List.length_set]; exact hb, hbe e1, by simp⟩
  ·rw [set_ne hj] at e
   obtain ⟨b, ch, hb', e1, hm⟩ := h.cov j f e hf
   by_cases hbb : b = bkt t s p
   ·subst hbb
    exact ⟨_, _, by simp only [List.length_set]; exact hb', hbe e1, by simp [hm]⟩
   ·exact ⟨b, ch, by simp only [List.length_set]; exact hb', hbn hbb e1, hm⟩
def kb (a b : Key) : Bool := decide (a.1 < b.1) || (decide (a.1 = b.1) && decide (a.2 < b.2))
theorem kb_iff {a b : Key} : kb a b = true ↔ a.1 < b.1 ∨ (a.1 = b.1 ∧ a.2 < b.2) := by unfold kb; simp
theorem kb_no {a b : Key} : kb a b = false ↔ ¬ (a.1 < b.1 ∨ (a.1 = b.1 ∧ a.2 < b.2)) := by
 rw [← kb_iff]; simp
theorem kb_anti {a b : Key} (h1 : kb a b = false) (h2 : kb b a = false) : a = b := by
 rw [kb_no] at h1 h2
 have e1 : a.1 = b.1 := by omega
 have e2 : a.2 = b.2 := by omega
 exact Prod.ext e1 e2
theorem kb_asym {a b : Key} (h : kb a b = true) : kb b a = false := by
 rw [kb_iff] at h; rw [kb_no]; omega
theorem kb_ntrans {a b c : Key} (h1 : kb b a = false) (h2 : kb c b = false) : kb c a = false := by
 rw [kb_no] at h1 h2 ⊢; omega
def KSo (l : List Key) : Prop := l.Pairwise (fun a b => kb b a = false)
theorem kso_unique {l m : List Key} (hl : KSo l) (hm : KSo m) (hp : l.Perm m) : l = m := by
 induction l generalizing m with
 | nil => exact (List.nil_perm.1 hp).symm
 | cons x l ih =>
  cases m with
  | nil => exact absurd hp.length_eq (by simp)
  | cons y m =>
   unfold KSo at hl hm
   rw [List.pairwise_cons] at hl hm
   have hxy : x = y := by
    rcases List.mem_cons.1 (hp.mem_iff.1 (List.mem_cons_self (a := x) (l := l))) with h | h
    ·exact h
    ·rcases List.mem_cons.1 (hp.mem_iff.2 (List.mem_cons_self (a := y) (l := m))) with h2 | h2
     ·exact h2.symm
     ·exact kb_anti (hm.1 x h) (hl.1 y h2)
   subst hxy
   rw [ih hl.2 hm.2 (List.Perm.cons_inv hp)]
def insAt (l : List Key) (x : Key) (j : Nat) : List Key := l.take j ++ x :: l.drop j
theorem insAt_length {l : List Key} {x : Key} {j : Nat} (h : j ≤ l.length) : (insAt l x j).length = l.length + 1 := by
 unfold insAt; simp; omega
theorem insAt_end (l : List Key) (x : Key) : insAt l x l.length = l ++ [x] := by simp [insAt]
theorem insAt_perm (l : List Key) (x : Key) (j : Nat) : (insAt l x j).Perm (l ++ [x]) := by
 have h : (insAt l x j).Perm (x :: l) := by
  unfold insAt
  exact List.perm_middle.trans (by rw [List.take_append_drop])
 exact h.trans (List.perm_append_comm (l₁ := [x]) (l₂ := l))
theorem insAt_at {l : List Key} {x : Key} {i : Nat} (h : i ≤ l.length) (d : Key) : (insAt l x i).getD i d = x := by
 unfold insAt
 rw [List.getD_eq_getElem?_getD, List.getElem?_append_right (by simp; omega)]
 have : i - (l.take i).length = 0 := by simp; omega
 rw [this]; rfl
theorem insAt_before {l : List Key} {x : Key} {i j : Nat} (hj : i < j) (h : i < l.length) (d : Key) : (insAt l x j).getD i d = l[i] := by
 unfold insAt
 rw [List.getD_eq_getElem?_getD, List.getElem?_append_left (by simp; omega), List.getElem?_take, if_pos hj, List.getElem?_eq_getElem h]; rfl
theorem insAt_swap {l : List Key} {x : Key} {i : Nat} (h : i < l.length) : ((insAt l x (i + 1)).set (i + 1) l[i]).set i x = insAt l x i := by
 induction l generalizing i with
 | nil => simp at h
 | cons a l ih =>
  cases i with
  | zero => simp [insAt]
  | succ i =>
   have := ih (i := i) (by simpa using h)
   simp only [insAt] at this ⊢
   simp only [List.take_succ_cons, List.drop_succ_cons, List.cons_append, List.set_cons_succ, List.getElem_cons_succ]
   rw [this]
theorem kso_ins {l : List Key} {x : Key} {j : Nat} (hs : KSo l) (hj : j ≤ l.length) (ha : ∀ y ∈ l.drop j, kb x y = true) (hb : ∀ i, (h : i < l.length) → i + 1 = j → kb x l[i] = false) : KSo (insAt l x j) := by
 unfold KSo at hs
 have hs' := hs
 rw [← List.take_append_drop j l, List.pairwise_append] at hs
 obtain ⟨h1, h2, h3⟩ := hs
 unfold KSo insAt
 rw [List.pairwise_append]
 refine ⟨h1, List.pairwise_cons.2 ⟨fun y hy => kb_asym (ha y hy), h2⟩, fun a hta b hbb => ?_⟩
 rcases List.mem_cons.1 hbb with h | h
 ·subst h
  cases j with
  | zero => simp at hta
  | succ i =>
   have h5 := hb i (by omega) rfl
   obtain ⟨k, hk, e⟩ := List.mem_iff_getElem.1 hta
   rw [List.length_take] at hk
   rw [List.getElem_take] at e
   by_cases hki : k = i
   ·subst hki; rw [← e]; exact h5
   ·have h6 := List.pairwise_iff_getElem.1 hs' k i (by omega) (by omega) (by omega)
    rw [e] at h6
    exact kb_ntrans h6 h5
 ·exact h3 a hta b h
def keysL (fs : List Fr) : List Key := fs.filterMap (fun y => if y.used = true then some (y.s, y.p) else none)
theorem keysL_take {fs : List Fr} {k : Nat} {y : Fr} (h : fs[k]? = some y) : keysL (fs.take (k + 1)) = keysL (fs.take k) ++ (if y.used = true then [(y.s, y.p)] else []) := by
 unfold keysL
 rw [List.take_add_one, h, List.filterMap_append]
 congr 1
 simp only [Option.toList]
 cases hu : y.used <;> simp [hu]
theorem keysL_len (fs : List Fr) : (keysL fs).length ≤ fs.length := List.length_filterMap_le _ _
theorem keysL_mem {fs : List Fr} {x : Key} : x ∈ keysL fs ↔ ∃ (i : Nat) (y : Fr), fs[i]? = some y ∧ y.used = true ∧ (y.s, y.p) = x := by
 unfold keysL
 rw [List.mem_filterMap]
 constructor
 ·rintro ⟨y, hy, h⟩
  obtain ⟨i, hi⟩ := List.mem_iff_getElem?.1 hy
  cases hu : y.used with
  | true => exact ⟨i, y, hi, hu, by simpa [hu] using h⟩
  | false => simp [hu] at h
 ·rintro ⟨i, y, hi, hu, h⟩
  exact ⟨y, List.mem_of_getElem? hi, by simp [hu, h]⟩
def kins (l : List Key) (x : Key) : List Key := match l with
 | [] => [x]
 | y :: l => if kb x y = true then x :: y :: l else y :: kins l x
theorem kins_perm (l : List Key) (x : Key) : (kins l x).Perm (x :: l) := by
 induction l with
 | nil => exact List.Perm.refl _
 | cons y l ih =>
  unfold kins
  split
  ·exact List.Perm.refl _
  ·exact (List.Perm.cons y ih).trans (List.Perm.swap x y l)
theorem kins_so {l : List Key} {x : Key} (h : KSo l) : KSo (kins l x) := by
 induction l with
 | nil => simp [kins, KSo]
 | cons y l ih =>
  have h' := h
  unfold KSo at h
  rw [List.pairwise_cons] at h
  unfold kins
  split
  ·rename_i hx
   refine List.pairwise_cons.2 ⟨fun z hz => ?_, h'⟩
   rcases List.mem_cons.1 hz with e | e
   ·subst e; exact kb_asym hx
   ·exact kb_ntrans (kb_asym hx) (h.1 z e)
  ·rename_i hx
   refine List.pairwise_cons.2 ⟨fun z hz => ?_, ih h.2⟩
   rcases List.mem_cons.1 ((kins_perm l x).mem_iff.1 hz) with e | e
   ·subst e; simpa using hx
   ·exact h.1 z e
def ksrt (l : List Key) : List Key := l.foldl kins []
theorem ksrt_gen : ∀ (l a : List Key), KSo a → KSo (l.foldl kins a) ∧ (l.foldl kins a).Perm (a ++ l)
  | [], a, h => ⟨h, by simp⟩
  | x :: l, a, h => by
    obtain ⟨h1, h2⟩ := ksrt_gen l (kins a x) (kins_so h)
    refine ⟨h1, h2.trans (((kins_perm a x).append_right l).trans ?_)⟩
    exact List.perm_middle.symm
theorem ksrt_so (l : List Key) : KSo (ksrt l) := (ksrt_gen l [] List.Pairwise.nil).1
theorem ksrt_perm (l : List Key) : (ksrt l).Perm l := by unfold ksrt; simpa using (ksrt_gen l [] List.Pairwise.nil).2
theorem ksrt_of {l m : List Key} (h : KSo l) (hp : l.Perm m) : l = ksrt m := kso_unique h (ksrt_so m) (hp.trans (ksrt_perm m).symm)
theorem ksrt_length (l : List Key) : (ksrt l).length = l.length := (ksrt_perm l).length_eq
def kys (t : Tab) : List Key := if tv t = true then ksrt (keysL t.fs) else []
theorem kys_no {t : Tab} (h : tv t = false) : kys t = [] := by unfold kys; rw [if_neg (by rw [h]; decide)]
theorem kys_len (t : Tab) : (kys t).length ≤ t.fs.length := by
 unfold kys
 split
 ·rw [ksrt_length]; exact keysL_len _
 ·simp
end Go.Proofs.YtibpnlojlfcpmaaGreatDoor
