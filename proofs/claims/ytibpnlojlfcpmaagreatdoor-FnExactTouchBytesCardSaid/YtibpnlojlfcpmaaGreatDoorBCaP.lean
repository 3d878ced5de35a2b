/- A part of the proofs of this seat: CaP. -/
import Derived.Test.YtibpnlojlfcpmaaGreatDoorBPlain
set_option linter.unusedVariables false
set_option linter.unusedSimpArgs false
set_option maxRecDepth 1000000
namespace Go.Proofs.YtibpnlojlfcpmaaGreatDoor
open Go.RowKit
theorem Rd.ow {B : Nat} {w : World} {A : Option Addr} {l : List (Int × Int)} (h : Rs owE B w A l) {k : Nat} {f : Int × Int} (hk : l[k]? = some f) :
  ∃ b o, A = some ⟨b, o, none⟩ ∧ b < B ∧ w.cell? ⟨b, o + k * 2, none⟩ = some (.int .i64 f.1) ∧ w.cell? ⟨b, o + k * 2 + 1, none⟩ = some (.int .i64 f.2) := by
 obtain ⟨b, o, e, hb, hc⟩ := h.el hk
 exact ⟨b, o, e, hb, hc 0 _ rfl, hc 1 _ rfl⟩
theorem Rd.ln {B : Nat} {w : World} {A : Option Addr} {l : List Ln} (h : Rs lnE B w A l) {k : Nat} {f : Ln} (hk : l[k]? = some f) :
  ∃ b o, A = some ⟨b, o, none⟩ ∧ b < B ∧ w.cell? ⟨b, o + k * 6, none⟩ = some (.bool f.v) ∧ w.cell? ⟨b, o + k * 6 + 1, none⟩ = some (.int .i64 f.t) ∧ w.cell? ⟨b, o + k * 6 + 2, none⟩ = some (.int .i64 f.p)
   ∧ w.cell? ⟨b, o + k * 6 + 3, none⟩ = some (.int .i64 f.f) ∧ w.cell? ⟨b, o + k * 6 + 4, none⟩ = some (.int .i64 f.r) ∧ w.cell? ⟨b, o + k * 6 + 5, none⟩ = some (.bool f.w) := by
 obtain ⟨b, o, e, hb, hc⟩ := h.el hk
 exact ⟨b, o, e, hb, hc 0 _ rfl, hc 1 _ rfl, hc 2 _ rfl, hc 3 _ rfl, hc 4 _ rfl, hc 5 _ rfl⟩
theorem lok_at {ls : List Ln} : ∀ {n k : Nat}, lok ls n = true → k < n → ∃ x, ls[k]? = some x ∧ lnok x = true ∧ ∀ (r : Nat) (y : Ln), r < k → ls[r]? = some y → clash x y = false := by
 intro n
 induction n with
 | zero => intro k _ hk; omega
 | succ n ih =>
  intro k h hk
  unfold lok at h
  rw [Bool.and_eq_true] at h
  obtain ⟨h1, h2⟩ := h
  rcases Nat.lt_or_ge k n with hlt | hge
  ·exact ih h1 hlt
  ·obtain rfl : k = n := by omega
   cases e : ls[k]? with
   | none => rw [e] at h2; cases h2
   | some x =>
    rw [e] at h2
    simp only [Bool.and_eq_true, List.all_eq_true] at h2
    refine ⟨x, rfl, h2.1, fun r y hr ey => ?_⟩
    have h3 := h2.2 y (List.mem_of_getElem? (i := r) (by rw [List.getElem?_take_of_lt hr]; exact ey))
    simpa using h3
theorem lok_step {ls : List Ln} {k : Nat} {x : Ln} (h : lok ls k = true) (e : ls[k]? = some x) (hx : lnok x = true) (hc : ∀ (r : Nat) (y : Ln), r < k → ls[r]? = some y → clash x y = false) : lok ls (k + 1) = true := by
 unfold lok
 rw [h, e]
 simp only [Bool.true_and, hx]
 rw [List.all_eq_true]
 intro y hy
 obtain ⟨r, hr, e2⟩ := List.getElem_of_mem hy
 rw [List.length_take] at hr
 rw [List.getElem_take] at e2
 have h3 := hc r y (by omega) (by rw [List.getElem?_eq_getElem (by omega), e2])
 simp [h3]
theorem cav_parts {c : Ca} (h : cav c = true) : 1 ≤ c.ls.length ∧ c.ls.length ≤ 8 ∧ inR c.hand c.ls.length = true ∧ lok c.ls c.ls.length = true ∧ c.ls.any (fun x => !x.w) = true := by
 unfold cav at h
 simp only [Bool.and_eq_true, decide_eq_true_eq] at h
 exact ⟨h.1.1.1.1, h.1.1.1.2, h.1.1.2, h.1.2, h.2⟩
theorem cav_no {c : Ca} (h : cav c = true → False) : cav c = false := bool_ff h
theorem cav_end {c : Ca} (h1 : 1 ≤ c.ls.length) (h2 : c.ls.length ≤ 8) (h3 : inR c.hand c.ls.length = true) (h4 : lok c.ls c.ls.length = true) : cav c = c.ls.any (fun x => !x.w) := by
 unfold cav
 rw [decide_eq_true h1, decide_eq_true h2, h3, h4]
 rfl
theorem cav_ln {c : Ca} {k : Nat} {x : Ln} (e : c.ls[k]? = some x) (hx : lnok x = false) : cav c = false := cav_no fun h => by
 obtain ⟨x', e', h1, _⟩ := lok_at (cav_parts h).2.2.2.1 (List.getElem?_eq_some_iff.1 e).1
 rw [e] at e'
 injection e' with e'
 subst e'
 rw [hx] at h1
 cases h1
theorem cav_clash {c : Ca} {k r : Nat} {x y : Ln} (e : c.ls[k]? = some x) (hr : r < k) (e2 : c.ls[r]? = some y) (hx : clash x y = true) : cav c = false := cav_no fun h => by
 obtain ⟨x', e', _, h1⟩ := lok_at (cav_parts h).2.2.2.1 (List.getElem?_eq_some_iff.1 e).1
 rw [e] at e'
 injection e' with e'
 subst e'
 rw [h1 r y hr e2] at hx
 cases hx
def loose (ls : List Ln) (k : Nat) : Bool := (ls.take k).any (fun x => !x.w)
theorem loose_step {ls : List Ln} {k : Nat} {x : Ln} (e : ls[k]? = some x) : loose ls (k + 1) = (loose ls k || !x.w) := by
 obtain ⟨hlt, hx⟩ := List.getElem?_eq_some_iff.1 e
 unfold loose
 rw [List.take_succ_eq_append_getElem hlt, hx, List.any_append]
 simp
theorem loose_all (ls : List Ln) : loose ls ls.length = ls.any (fun x => !x.w) := by unfold loose; rw [List.take_length]
def tlast (os : List (Int × Int)) : Nat → Int
 | 0 => -1
 | j + 1 => match os[j]? with | some q => q.2 | none => -1
theorem tlast_0 (os : List (Int × Int)) : tlast os 0 = -1 := rfl
theorem tlast_of {os : List (Int × Int)} {j : Nat} {q : Int × Int} (e : os[j]? = some q) : tlast os (j + 1) = q.2 := by
 show (match os[j]? with | some q => q.2 | none => -1) = _
 rw [e]
theorem tok_at {os : List (Int × Int)} {n : Int} : ∀ {m k : Nat}, tok os n m = true → k < m → ∃ o, os[k]? = some o ∧ inR o.1 16 = true ∧ 0 ≤ o.2 ∧ o.2 < n ∧ tlast os k < o.2 ∧ ∀ (r : Nat) (q : Int × Int), r < k → os[r]? = some q → ¬ q.1 = o.1 := by
 intro m
 induction m with
 | zero => intro k _ hk; omega
 | succ m ih =>
  intro k h hk
  unfold tok at h
  rw [Bool.and_eq_true] at h
  obtain ⟨h1, h2⟩ := h
  rcases Nat.lt_or_ge k m with hlt | hge
  ·exact ih h1 hlt
  ·obtain rfl : k = m := by omega
   cases e : os[k]? with
   | none => rw [e] at h2; cases h2
   | some o =>
    rw [e] at h2
    simp only [Bool.and_eq_true, List.all_eq_true, decide_eq_true_eq] at h2
    obtain ⟨⟨⟨⟨h3, h4⟩, h5⟩, h6⟩, h7⟩ := h2
    refine ⟨o, rfl, h3, h4, h5, ?_, fun r q hr eq => ?_⟩
    ·cases k with
     | zero => show (-1 : Int) < _; omega
     | succ j =>
      cases e2 : os[j]? with
      | none => simp [e2] at h6
      | some q => rw [tlast_of e2]; simpa [e2] using h6
    ·exact h7 q (List.mem_of_getElem? (i := r) (by rw [List.getElem?_take_of_lt hr]; exact eq))
theorem tok_step {os : List (Int × Int)} {n : Int} {k : Nat} {o : Int × Int} (h : tok os n k = true) (e : os[k]? = some o) (h1 : inR o.1 16 = true) (h2 : o.2 < n) (h3 : tlast os k < o.2)
  (h4 : ∀ (r : Nat) (q : Int × Int), r < k → os[r]? = some q → ¬ q.1 = o.1) : tok os n (k + 1) = true := by
 unfold tok
 rw [h, e]
 simp only [Bool.true_and, h1, Bool.and_eq_true, decide_eq_true_eq, List.all_eq_true]
 have h5 : 0 ≤ o.2 := by
  cases k with
  | zero => rw [tlast_0] at h3; omega
  | succ j =>
   obtain ⟨q, eq, _, h6, _⟩ := tok_at h (Nat.lt_succ_self j)
   rw [tlast_of eq] at h3
   omega
 refine ⟨⟨⟨h5, h2⟩, ?_⟩, fun q hq => ?_⟩
 ·cases k with
  | zero => rfl
  | succ j =>
   obtain ⟨q, eq, _⟩ := tok_at h (Nat.lt_succ_self j)
   rw [tlast_of eq] at h3
   simp only [eq]
   exact decide_eq_true h3
 ·obtain ⟨r, hr, e2⟩ := List.getElem_of_mem hq
  rw [List.length_take] at hr
  rw [List.getElem_take] at e2
  exact h4 r q (by omega) (by rw [List.getElem?_eq_getElem (by omega), e2])
theorem tlast_ge {os : List (Int × Int)} {n : Int} : ∀ {k : Nat}, tok os n k = true → (k : Int) - 1 ≤ tlast os k := by
 intro k
 induction k with
 | zero => intro _; rw [tlast_0]; omega
 | succ k ih =>
  intro h
  obtain ⟨o, eo, _, _, _, h1, _⟩ := tok_at h (Nat.lt_succ_self k)
  have h2 : tok os n k = true := by unfold tok at h; rw [Bool.and_eq_true] at h; exact h.1
  have := ih h2
  rw [tlast_of eo]
  omega
theorem tok_len {os : List (Int × Int)} {n : Int} (h : tok os n os.length = true) (hn : 0 ≤ n) : (os.length : Int) ≤ n := by
 rcases Nat.eq_zero_or_pos os.length with h0 | h0
 ·rw [h0]; exact hn
 ·have h1 := tlast_ge h
  obtain ⟨j, hj⟩ : ∃ j, os.length = j + 1 := ⟨os.length - 1, by omega⟩
  rw [hj] at h h1
  obtain ⟨o, eo, _, _, h2, _⟩ := tok_at h (Nat.lt_succ_self j)
  rw [tlast_of eo] at h1
  rw [hj]
  omega
def tgb (g : Tg) : Bool := decide (1 ≤ g.count) && decide (g.count ≤ 8) && decide (0 ≤ g.next) && decide (g.next ≤ g.count) && decide (0 ≤ g.round) && decide (g.round ≤ 1000000)
theorem tgv_eq (g : Tg) : tgv g = (tgb g && tok g.os g.next g.os.length) := rfl
theorem tgb_iff {g : Tg} : tgb g = true ↔ 1 ≤ g.count ∧ g.count ≤ 8 ∧ 0 ≤ g.next ∧ g.next ≤ g.count ∧ 0 ≤ g.round ∧ g.round ≤ 1000000 := by
 unfold tgb
 simp only [Bool.and_eq_true, decide_eq_true_eq, and_assoc]
theorem tgv_parts {g : Tg} (h : tgv g = true) : (1 ≤ g.count ∧ g.count ≤ 8 ∧ 0 ≤ g.next ∧ g.next ≤ g.count ∧ 0 ≤ g.round ∧ g.round ≤ 1000000) ∧ tok g.os g.next g.os.length = true := by
 rw [tgv_eq, Bool.and_eq_true] at h
 exact ⟨tgb_iff.1 h.1, h.2⟩
theorem tgv_no {g : Tg} (h : tgv g = true → False) : tgv g = false := bool_ff h
theorem tgv_end {g : Tg} (h1 : tgb g = true) (h : tok g.os g.next g.os.length = true) : tgv g = true := by rw [tgv_eq, h1, h]; rfl
theorem tgv_ob {g : Tg} {k : Nat} {o : Int × Int} (e : g.os[k]? = some o) (h : inR o.1 16 = false ∨ ¬ o.2 < g.next ∨ ¬ tlast g.os k < o.2 ∨ ∃ (r : Nat) (q : Int × Int), r < k ∧ g.os[r]? = some q ∧ q.1 = o.1) : tgv g = false := tgv_no fun hv => by
 obtain ⟨o', e', h1, h2, h3, h4, h5⟩ := tok_at (tgv_parts hv).2 (List.getElem?_eq_some_iff.1 e).1
 rw [e] at e'
 injection e' with e'
 subst e'
 rcases h with h | h | h | ⟨r, q, hr, eq, h⟩
 ·rw [h] at h1; cases h1
 ·exact h h3
 ·exact h h4
 ·exact h5 r q hr eq h
def spO (g : Tg) (tag : Int) : Bool := tgv g && (spc g.os tag).isSome
def spV (g : Tg) (tag : Int) : Int := if tgv g = true then (match spc g.os tag with | some i => (g.os.getD i (0, 0)).1 | none => 0) else 0
def tgO (g : Tg) (s : Int) : Bool := tgv g && decide (0 ≤ ownI g.os s)
def tgT (g : Tg) (s : Int) : Int := if tgO g s = true then (g.os.getD (ownI g.os s).toNat (0, 0)).2 else 0
theorem spO_no {g : Tg} {tag : Int} (h : tgv g = false) : spO g tag = false ∧ spV g tag = 0 := by unfold spO spV; rw [h]; exact ⟨rfl, rfl⟩
theorem spO_none {g : Tg} {tag : Int} (h : tgv g = true) (e : spc g.os tag = none) : spO g tag = false ∧ spV g tag = 0 := by unfold spO spV; rw [h, e]; exact ⟨rfl, rfl⟩
theorem spO_some {g : Tg} {tag : Int} {k : Nat} {o : Int × Int} (h : tgv g = true) (e : spc g.os tag = some k) (eo : g.os[k]? = some o) : spO g tag = true ∧ spV g tag = o.1 := by
 unfold spO spV
 rw [h, e]
 refine ⟨rfl, ?_⟩
 show (g.os.getD k (0, 0)).1 = o.1
 rw [List.getD_eq_getElem?_getD, eo]
 rfl
theorem spc_at {os : List (Int × Int)} {tag : Int} {k : Nat} {o : Int × Int} (e : os[k]? = some o) (h : ∀ (j : Nat) (q : Int × Int), j < k → os[j]? = some q → ¬ q.2 = tag) (ho : o.2 = tag) : spc os tag = some k := by
 obtain ⟨hlt, hk⟩ := List.getElem?_eq_some_iff.1 e
 unfold spc
 rw [List.findIdx?_eq_some_iff_getElem]
 refine ⟨hlt, by rw [hk]; exact decide_eq_true ho, fun j hj => ?_⟩
 have := h j os[j] hj (List.getElem?_eq_getElem (by omega))
 simp [this]
theorem spc_none {os : List (Int × Int)} {tag : Int} {n : Nat} (hn : os.length ≤ n) (h : ∀ (j : Nat) (q : Int × Int), j < n → os[j]? = some q → ¬ q.2 = tag) : spc os tag = none := by
 unfold spc
 rw [List.findIdx?_eq_none_iff]
 intro x hx
 obtain ⟨j, hj, e⟩ := List.getElem_of_mem hx
 have := h j x (by omega) (by rw [List.getElem?_eq_getElem hj, e])
 simp [this]
theorem spc_go {os : List (Int × Int)} {tag : Int} {k : Nat} {o : Int × Int} (e : os[k]? = some o) (h : ∀ (j : Nat) (q : Int × Int), j < k → os[j]? = some q → ¬ q.2 = tag) (ho : ¬ o.2 = tag) : ∀ (j : Nat) (q : Int × Int), j < k + 1 → os[j]? = some q → ¬ q.2 = tag := by
 intro j q hj hq
 rcases Nat.lt_or_ge j k with h1 | h1
 ·exact h j q h1 hq
 ·obtain rfl : j = k := by omega
  rw [e] at hq
  injection hq with hq
  rw [← hq]; exact ho
theorem own_at {os : List (Int × Int)} {s : Int} {k : Nat} {o : Int × Int} (e : os[k]? = some o) (h : ∀ (j : Nat) (q : Int × Int), j < k → os[j]? = some q → ¬ q.1 = s) (ho : o.1 = s) : ownI os s = k := by
 obtain ⟨hlt, hk⟩ := List.getElem?_eq_some_iff.1 e
 have : own os s = some k := by
  unfold own
  rw [List.findIdx?_eq_some_iff_getElem]
  refine ⟨hlt, by rw [hk]; exact decide_eq_true ho, fun j hj => ?_⟩
  have := h j os[j] hj (List.getElem?_eq_getElem (by omega))
  simp [this]
 unfold ownI
 rw [this]
theorem own_none {os : List (Int × Int)} {s : Int} {n : Nat} (hn : os.length ≤ n) (h : ∀ (j : Nat) (q : Int × Int), j < n → os[j]? = some q → ¬ q.1 = s) : ownI os s = -1 := by
 have : own os s = none := by
  unfold own
  rw [List.findIdx?_eq_none_iff]
  intro x hx
  obtain ⟨j, hj, e⟩ := List.getElem_of_mem hx
  have := h j x (by omega) (by rw [List.getElem?_eq_getElem hj, e])
  simp [this]
 unfold ownI
 rw [this]
theorem own_go {os : List (Int × Int)} {s : Int} {k : Nat} {o : Int × Int} (e : os[k]? = some o) (h : ∀ (j : Nat) (q : Int × Int), j < k → os[j]? = some q → ¬ q.1 = s) (ho : ¬ o.1 = s) : ∀ (j : Nat) (q : Int × Int), j < k + 1 → os[j]? = some q → ¬ q.1 = s := by
 intro j q hj hq
 rcases Nat.lt_or_ge j k with h1 | h1
 ·exact h j q h1 hq
 ·obtain rfl : j = k := by omega
  rw [e] at hq
  injection hq with hq
  rw [← hq]; exact ho
theorem chain_none {t : Tab} (h : tv t = true) {s p : Int} (hk : kval (s, p) = true) {ch : List Nat} (hc : bch t (bkt t s p) = some ch)
  (hn : ∀ (m j : Nat) (f : Fr), ch[m]? = some j → t.fs[j]? = some f → ¬ (f.s, f.p) = (s, p)) : fndI t.fs s p = -1 := by
 obtain ⟨ch', e, h1, _⟩ := fnd_chain h hk
 rw [hc] at e
 injection e with e
 subst e
 unfold fndI
 cases e : fnd t.fs s p with
 | none => rfl
 | some i =>
  obtain ⟨m, hm, e2⟩ := List.getElem_of_mem (h1 i e)
  obtain ⟨f, ef, _, hf⟩ := fnd_some e
  exact absurd hf (hn m i f (by rw [List.getElem?_eq_getElem hm, e2]) ef)
theorem chain_some {t : Tab} (h : tv t = true) {s p : Int} (hk : kval (s, p) = true) {ch : List Nat} (hc : bch t (bkt t s p) = some ch) {m j : Nat} {f : Fr} (hj : ch[m]? = some j) (ef : t.fs[j]? = some f) (hf : (f.s, f.p) = (s, p)) : fndI t.fs s p = j := by
 obtain ⟨ch', e, _, h1⟩ := fnd_chain h hk
 rw [hc] at e
 injection e with e
 subst e
 unfold fndI
 rw [h1 j (List.mem_of_getElem? hj) f ef hf]
end Go.Proofs.YtibpnlojlfcpmaaGreatDoor
