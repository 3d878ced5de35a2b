/- A part of the proofs of this seat: CaP, L3F. -/
import Derived.Deep.RegionHeldLaw
import Derived.Test.YtfbnokjdkhcgoaaGreatDoorVEq
set_option linter.unusedVariables false
set_option linter.unusedSimpArgs false
set_option maxRecDepth 1000000
namespace Go.Proofs.YtfbnokjdkhcgoaaGreatDoor
open Go.RowKit
theorem Rd.ow {B : Nat} {w : World} {A : Option Addr} {l : List (Int × Int)} (h : Rs owE B w A l) {k : Nat} {f : Int × Int} (hk : l[k]? = some f) :
  ∃ b o, A = some ⟨b, o, none⟩ ∧ b < B ∧ w.cell? ⟨b, o + k * 2, none⟩ = some (.int .i64 f.1) ∧ w.cell? ⟨b, o + k * 2 + 1, none⟩ = some (.int .i64 f.2) := by
 obtain ⟨b, o, e, hb, hc⟩ := h.el hk
 exact ⟨b, o, e, hb, hc 0 _ rfl, hc 1 _ rfl⟩
theorem Rd.ln {B : Nat} {w : World} {A : Option Addr} {l : List Ln} (h : Rs lnE B w A l) {k : Nat} {f : Ln} (hk : l[k]? = some f) :
  ∃ b o, A = some ⟨b, o, none⟩ ∧ b < B ∧ w.cell? ⟨b, o + k * 6, none⟩ = some (.bool f.v) ∧ w.cell? ⟨b, o + k * 6 + 1, none⟩ = some (.int .i64 f.t) ∧ w.cell? ⟨b, o + k * 6 + 2, none⟩ = some (.int .i64 f.p)
   ∧ w.cell? ⟨b, o + k * 6 + 3, none⟩ = some (.int .i64 f.f) ∧ w.cell? ⟨b, o + k * 6 + 4, none⟩ = some (.int .i64 f.r) ∧ w.cell? ⟨b, o + k * 6 + 5, none⟩ = some (.bool f.w) := by
 obtain ⟨b, o, e, hb, hc⟩ := h.el hk
 exact ⟨b, o, e, hb, hc 0 _ rfl, hc 1 _ rfl, hc 2 _ rfl, hc 3 _ rfl, hc 4 _ rfl, hc 5 _ rfl⟩
theorem lok_at {ls : List Ln} : ∀ {n k : Nat}, lok ls n = true → k < n → ∃ x, ls[k]? = some x ∧ lnok x = true ∧ ∀ (r : Nat) (y : Ln), r < k → ls[r]? = some y → clash x y = false := by
 intro n
 induction n with
 | zero => intro k _ hk; omega
 | succ n ih =>
  intro k h hk
  unfold lok at h
  rw [Bool.and_eq_true] at h
  obtain ⟨h1, h2⟩ := h
  rcases Nat.lt_or_ge k n with hlt | hge
  ·exact ih h1 hlt
  ·obtain rfl : k = n := by omega
   cases e : ls[k]? with
   | none => rw [e] at h2; cases h2
   | some x =>
    rw [e] at h2
    simp only [Bool.and_eq_true, List.all_eq_true] at h2
    refine ⟨x, rfl, h2.1, fun r y hr ey => ?_⟩
    have h3 := h2.2 y (List.mem_of_getElem? (i := r) (by rw [List.getElem?_take_of_lt hr]; exact ey))
    simpa using h3
theorem lok_step {ls : List Ln} {k : Nat} {x : Ln} (h : lok ls k = true) (e : ls[k]? = some x) (hx : lnok x = true) (hc : ∀ (r : Nat) (y : Ln), r < k → ls[r]? = some y → clash x y = false) : lok ls (k + 1) = true := by
 unfold lok
 rw [h, e]
 simp only [Bool.true_and, hx]
 rw [List.all_eq_true]
 intro y hy
 obtain ⟨r, hr, e2⟩ := List.getElem_of_mem hy
 rw [List.length_take] at hr
 rw [List.getElem_take] at e2
 have h3 := hc r y (by omega) (by rw [List.getElem?_eq_getElem (by omega), e2])
 simp [h3]
theorem cav_parts {c : Ca} (h : cav c = true) : 1 ≤ c.ls.length ∧ c.ls.length ≤ 8 ∧ inR c.hand c.ls.length = true ∧ lok c.ls c.ls.length = true ∧ c.ls.any (fun x => !x.w) = true := by
 unfold cav at h
 simp only [Bool.and_eq_true, decide_eq_true_eq] at h
 exact ⟨h.1.1.1.1, h.1.1.1.2, h.1.1.2, h.1.2, h.2⟩
theorem cav_no {c : Ca} (h : cav c = true → False) : cav c = false := bool_ff h
theorem cav_end {c : Ca} (h1 : 1 ≤ c.ls.length) (h2 : c.ls.length ≤ 8) (h3 : inR c.hand c.ls.length = true) (h4 : lok c.ls c.ls.length = true) : cav c = c.ls.any (fun x => !x.w) := by
 unfold cav
 rw [decide_eq_true h1, decide_eq_true h2, h3, h4]
 rfl
theorem cav_ln {c : Ca} {k : Nat} {x : Ln} (e : c.ls[k]? = some x) (hx : lnok x = false) : cav c = false := cav_no fun h => by
 obtain ⟨x', e', h1, _⟩ := lok_at (cav_parts h).2.2.2.1 (List.getElem?_eq_some_iff.1 e).1
 rw [e] at e'
 injection e' with e'
 subst e'
 rw [hx] at h1
 cases h1
theorem cav_clash {c : Ca} {k r : Nat} {x y : Ln} (e : c.ls[k]? = some x) (hr : r < k) (e2 : c.ls[r]? = some y) (hx : clash x y = true) : cav c = false := cav_no fun h => by
 obtain ⟨x', e', _, h1⟩ := lok_at (cav_parts h).2.2.2.1 (List.getElem?_eq_some_iff.1 e).1
 rw [e] at e'
 injection e' with e'
 subst e'
 rw [h1 r y hr e2] at hx
 cases hx
def loose (ls : List Ln) (k : Nat) : Bool := (ls.take k).any (fun x => !x.w)
theorem loose_step {ls : List Ln} {k : Nat} {x : Ln} (e : ls[k]? = some x) : loose ls (k + 1) = (loose ls k || !x.w) := by
 obtain ⟨hlt, hx⟩ := List.getElem?_eq_some_iff.1 e
 unfold loose
 rw [List.take_succ_eq_append_getElem hlt, hx, List.any_append]
 simp
theorem loose_all (ls : List Ln) : loose ls ls.length = ls.any (fun x => !x.w) := by unfold loose; rw [List.take_length]
def tlast (os : List (Int × Int)) : Nat → Int
 | 0 => -1
 | j + 1 => match os[j]? with | some q => q.2 | none => -1
theorem tlast_0 (os : List (Int × Int)) : tlast os 0 = -1 := rfl
theorem tlast_of {os : List (Int × Int)} {j : Nat} {q : Int × Int} (e : os[j]? = some q) : tlast os (j + 1) = q.2 := by
 show (match os[j]? with | some q => q.2 | none => -1) = _
 rw [e]
theorem tok_at {os : List (Int × Int)} {n : Int} : ∀ {m k : Nat}, tok os n m = true → k < m → ∃ o, os[k]? = some o ∧ inR o.1 16 = true ∧ 0 ≤ o.2 ∧ o.2 < n ∧ tlast os k < o.2 ∧ ∀ (r : Nat) (q : Int × Int), r < k → os[r]? = some q → ¬ q.1 = o.1 := by
 intro m
 induction m with
 | zero => intro k _ hk; omega
 | succ m ih =>
  intro k h hk
  unfold tok at h
  rw [Bool.and_eq_true] at h
  obtain ⟨h1, h2⟩ := h
  rcases Nat.lt_or_ge k m with hlt | hge
  ·exact ih h1 hlt
  ·obtain rfl : k = m := by omega
   cases e : os[k]? with
   | none => rw [e] at h2; cases h2
   | some o =>
    rw [e] at h2
    simp only [Bool.and_eq_true, List.all_eq_true, decide_eq_true_eq] at h2
    obtain ⟨⟨⟨⟨h3, h4⟩, h5⟩, h6⟩, h7⟩ := h2
    refine ⟨o, rfl, h3, h4, h5, ?_, fun r q hr eq => ?_⟩
    ·cases k with
     | zero => show (-1 : Int) < _; omega
     | succ j =>
      cases e2 : os[j]? with
      | none => simp [e2] at h6
      | some q => rw [tlast_of e2]; simpa [e2] using h6
    ·exact h7 q (List.mem_of_getElem? (i := r) (by rw [List.getElem?_take_of_lt hr]; exact eq))
theorem tok_step {os : List (Int × Int)} {n : Int} {k : Nat} {o : Int × Int} (h : tok os n k = true) (e : os[k]? = some o) (h1 : inR o.1 16 = true) (h2 : o.2 < n) (h3 : tlast os k < o.2)
  (h4 : ∀ (r : Nat) (q : Int × Int), r < k → os[r]? = some q → ¬ q.1 = o.1) : tok os n (k + 1) = true := by
 unfold tok
 rw [h, e]
 simp only [Bool.true_and, h1, Bool.and_eq_true, decide_eq_true_eq, List.all_eq_true]
 have h5 : 0 ≤ o.2 := by
  cases k with
  | zero => rw [tlast_0] at h3; omega
  | succ j =>
   obtain ⟨q, eq, _, h6, _⟩ := tok_at h (Nat.lt_succ_self j)
   rw [tlast_of eq] at h3
   omega
 refine ⟨⟨⟨h5, h2⟩, ?_⟩, fun q hq => ?_⟩
 ·cases k with
  | zero => rfl
  | succ j =>
   obtain ⟨q, eq, _⟩ := tok_at h (Nat.lt_succ_self j)
   rw [tlast_of eq] at h3
   simp only [eq]
   exact decide_eq_true h3
 ·obtain ⟨r, hr, e2⟩ := List.getElem_of_mem hq
  rw [List.length_take] at hr
  rw [List.getElem_take] at e2
  exact h4 r q (by omega) (by rw [List.getElem?_eq_getElem (by omega), e2])
theorem tlast_ge {os : List (Int × Int)} {n : Int} : ∀ {k : Nat}, tok os n k = true → (k : Int) - 1 ≤ tlast os k := by
 intro k
 induction k with
 | zero => intro _; rw [tlast_0]; omega
 | succ k ih =>
  intro h
  obtain ⟨o, eo, _, _, _, h1, _⟩ := tok_at h (Nat.lt_succ_self k)
  have h2 : tok os n k = true := by unfold tok at h; rw [Bool.and_eq_true] at h; exact h.1
  have := ih h2
  rw [tlast_of eo]
  omega
theorem tok_len {os : List (Int × Int)} {n : Int} (h : tok os n os.length = true) (hn : 0 ≤ n) : (os.length : Int) ≤ n := by
 rcases Nat.eq_zero_or_pos os.length with h0 | h0
 ·rw [h0]; exact hn
 ·have h1 := tlast_ge h
  obtain ⟨j, hj⟩ : ∃ j, os.length = j + 1 := ⟨os.length - 1, by omega⟩
  rw [hj] at h h1
  obtain ⟨o, eo, _, _, h2, _⟩ := tok_at h (Nat.lt_succ_self j)
  rw [tlast_of eo] at h1
  rw [hj]
  omega
def tgb (g : Tg) : Bool := decide (1 ≤ g.count) && decide (g.count ≤ 8) && decide (0 ≤ g.next) && decide (g.next ≤ g.count) && decide (0 ≤ g.round) && decide (g.round ≤ 1000000)
theorem tgv_eq (g : Tg) : tgv g = (tgb g && tok g.os g.next g.os.length) := rfl
theorem tgb_iff {g : Tg} : tgb g = true ↔ 1 ≤ g.count ∧ g.count ≤ 8 ∧ 0 ≤ g.next ∧ g.next ≤ g.count ∧ 0 ≤ g.round ∧ g.round ≤ 1000000 := by
 unfold tgb
 simp only [Bool.and_eq_true, decide_eq_true_eq, and_assoc]
theorem tgv_parts {g : Tg} (h : tgv g = true) : (1 ≤ g.count ∧ g.count ≤ 8 ∧ 0 ≤ g.next ∧ g.next ≤ g.count ∧ 0 ≤ g.round ∧ g.round ≤ 1000000) ∧ tok g.os g.next g.os.length = true := by
 rw [tgv_eq, Bool.and_eq_true] at h
 exact ⟨tgb_iff.1 h.1, h.2⟩
theorem tgv_no {g : Tg} (h : tgv g = true → False) : tgv g = false := bool_ff h
theorem tgv_end {g : Tg} (h1 : tgb g = true) (h : tok g.os g.next g.os.length = true) : tgv g = true := by rw [tgv_eq, h1, h]; rfl
theorem tgv_ob {g : Tg} {k : Nat} {o : Int × Int} (e : g.os[k]? = some o) (h : inR o.1 16 = false ∨ ¬ o.2 < g.next ∨ ¬ tlast g.os k < o.2 ∨ ∃ (r : Nat) (q : Int × Int), r < k ∧ g.os[r]? = some q ∧ q.1 = o.1) : tgv g = false := tgv_no fun hv => by
 obtain ⟨o', e', h1, h2, h3, h4, h5⟩ := tok_at (tgv_parts hv).2 (List.getElem?_eq_some_iff.1 e).1
 rw [e] at e'
 injection e' with e'
 subst e'
 rcases h with h | h | h | ⟨r, q, hr, eq, h⟩
 ·rw [h] at h1; cases h1
 ·exact h h3
 ·exact h h4
 ·exact h5 r q hr eq h
def spO (g : Tg) (tag : Int) : Bool := tgv g && (spc g.os tag).isSome
def spV (g : Tg) (tag : Int) : Int := if tgv g = true then (match spc g.os tag with | some i => (g.os.getD i (0, 0)).1 | none => 0) else 0
def tgO (g : Tg) (s : Int) : Bool := tgv g && decide (0 ≤ ownI g.os s)
def tgT (g : Tg) (s : Int) : Int := if tgO g s = true then (g.os.getD (ownI g.os s).toNat (0, 0)).2 else 0
theorem spO_no {g : Tg} {tag : Int} (h : tgv g = false) : spO g tag = false ∧ spV g tag = 0 := by unfold spO spV; rw [h]; exact ⟨rfl, rfl⟩
theorem spO_none {g : Tg} {tag : Int} (h : tgv g = true) (e : spc g.os tag = none) : spO g tag = false ∧ spV g tag = 0 := by unfold spO spV; rw [h, e]; exact ⟨rfl, rfl⟩
theorem spO_some {g : Tg} {tag : Int} {k : Nat} {o : Int × Int} (h : tgv g = true) (e : spc g.os tag = some k) (eo : g.os[k]? = some o) : spO g tag = true ∧ spV g tag = o.1 := by
 unfold spO spV
 rw [h, e]
 refine ⟨rfl, ?_⟩
 show (g.os.getD k (0, 0)).1 = o.1
 rw [List.getD_eq_getElem?_getD, eo]
 rfl
theorem spc_at {os : List (Int × Int)} {tag : Int} {k : Nat} {o : Int × Int} (e : os[k]? = some o) (h : ∀ (j : Nat) (q : Int × Int), j < k → os[j]? = some q → ¬ q.2 = tag) (ho : o.2 = tag) : spc os tag = some k := by
 obtain ⟨hlt, hk⟩ := List.getElem?_eq_some_iff.1 e
 unfold spc
 rw [List.findIdx?_eq_some_iff_getElem]
 refine ⟨hlt, by rw [hk]; exact decide_eq_true ho, fun j hj => ?_⟩
 have := h j os[j] hj (List.getElem?_eq_getElem (by omega))
 simp [this]
theorem spc_none {os : List (Int × Int)} {tag : Int} {n : Nat} (hn : os.length ≤ n) (h : ∀ (j : Nat) (q : Int × Int), j < n → os[j]? = some q → ¬ q.2 = tag) : spc os tag = none := by
 unfold spc
 rw [List.findIdx?_eq_none_iff]
 intro x hx
 obtain ⟨j, hj, e⟩ := List.getElem_of_mem hx
 have := h j x (by omega) (by rw [List.getElem?_eq_getElem hj, e])
 simp [this]
theorem spc_go {os : List (Int × Int)} {tag : Int} {k : Nat} {o : Int × Int} (e : os[k]? = some o) (h : ∀ (j : Nat) (q : Int × Int), j < k → os[j]? = some q → ¬ q.2 = tag) (ho : ¬ o.2 = tag) : ∀ (j : Nat) (q : Int × Int), j < k + 1 → os[j]? = some q → ¬ q.2 = tag := by
 intro j q hj hq
 rcases Nat.lt_or_ge j k with h1 | h1
 ·exact h j q h1 hq
 ·obtain rfl : j = k := by omega
  rw [e] at hq
  injection hq with hq
  rw [← hq]; exact ho
theorem own_at {os : List (Int × Int)} {s : Int} {k : Nat} {o : Int × Int} (e : os[k]? = some o) (h : ∀ (j : Nat) (q : Int × Int), j < k → os[j]? = some q → ¬ q.1 = s) (ho : o.1 = s) : ownI os s = k := by
 obtain ⟨hlt, hk⟩ := List.getElem?_eq_some_iff.1 e
 have : own os s = some k := by
  unfold own
  rw [List.findIdx?_eq_some_iff_getElem]
  refine ⟨hlt, by rw [hk]; exact decide_eq_true ho, fun j hj => ?_⟩
  have := h j os[j] hj (List.getElem?_eq_getElem (by omega))
  simp [this]
 unfold ownI
 rw [this]
theorem own_none {os : List (Int × Int)} {s : Int} {n : Nat} (hn : os.length ≤ n) (h : ∀ (j : Nat) (q : Int × Int), j < n → os[j]? = some q → ¬ q.1 = s) : ownI os s = -1 := by
 have : own os s = none := by
  unfold own
  rw [List.findIdx?_eq_none_iff]
  intro x hx
  obtain ⟨j, hj, e⟩ := List.getElem_of_mem hx
  have := h j x (by omega) (by rw [List.getElem?_eq_getElem hj, e])
  simp [this]
 unfold ownI
 rw [this]
theorem own_go {os : List (Int × Int)} {s : Int} {k : Nat} {o : Int × Int} (e : os[k]? = some o) (h : ∀ (j : Nat) (q : Int × Int), j < k → os[j]? = some q → ¬ q.1 = s) (ho : ¬ o.1 = s) : ∀ (j : Nat) (q : Int × Int), j < k + 1 → os[j]? = some q → ¬ q.1 = s := by
 intro j q hj hq
 rcases Nat.lt_or_ge j k with h1 | h1
 ·exact h j q h1 hq
 ·obtain rfl : j = k := by omega
  rw [e] at hq
  injection hq with hq
  rw [← hq]; exact ho
theorem chain_none {t : Tab} (h : tv t = true) {s p : Int} (hk : kval (s, p) = true) {ch : List Nat} (hc : bch t (bkt t s p) = some ch)
  (hn : ∀ (m j : Nat) (f : Fr), ch[m]? = some j → t.fs[j]? = some f → ¬ (f.s, f.p) = (s, p)) : fndI t.fs s p = -1 := by
 obtain ⟨ch', e, h1, _⟩ := fnd_chain h hk
 rw [hc] at e
 injection e with e
 subst e
 unfold fndI
 cases e : fnd t.fs s p with
 | none => rfl
 | some i =>
  obtain ⟨m, hm, e2⟩ := List.getElem_of_mem (h1 i e)
  obtain ⟨f, ef, _, hf⟩ := fnd_some e
  exact absurd hf (hn m i f (by rw [List.getElem?_eq_getElem hm, e2]) ef)
theorem chain_some {t : Tab} (h : tv t = true) {s p : Int} (hk : kval (s, p) = true) {ch : List Nat} (hc : bch t (bkt t s p) = some ch) {m j : Nat} {f : Fr} (hj : ch[m]? = some j) (ef : t.fs[j]? = some f) (hf : (f.s, f.p) = (s, p)) : fndI t.fs s p = j := by
 obtain ⟨ch', e, _, h1⟩ := fnd_chain h hk
 rw [hc] at e
 injection e with e
 subst e
 unfold fndI
 rw [h1 j (List.mem_of_getElem? hj) f ef hf]
theorem post2_of {f : FuncId} {args : Array Value} {w : World} {v : Value} (h : Calls Tryz.prog f args w fun r w' => r = .returned v ∧ Below w.heap.size w w') : Calls Tryz.prog f args w (Post2 fun v' w' => v' = v ∧ Below w.heap.size w w') := h.mono fun _ _ h => ⟨_, h.1, rfl, h.2⟩
theorem keq_iff {a b c d : Int} : keq a b c d = true ↔ (a, b) = (c, d) := by
 unfold keq
 simp
theorem keq_no {a b c d : Int} (h : keq a b c d = false) : ¬ (a, b) = (c, d) := fun hh => by rw [keq_iff.2 hh] at h; cases h
theorem TaR.fsl {w : World} {vb : Value} {A : Option Addr} {c : Nat} {t : Tab} (h : TaR w vb (.slice A t.fs.length c) t) : Rs frE w.heap.size w A t.fs := by
 obtain ⟨A', c', e, _, _, h4⟩ := h.f
 injection e with e1 _ _
 rw [e1]
 exact h4
set_option maxHeartbeats 2000000 in
theorem l3Find_any (vb vf : Value) (t : Tab) (s p : Int) (w : World) (hT : TaR w vb vf t) (htv : tv t = true) (hk : kval (s, p) = true) :
    Calls Tryz.prog 51 #[.agg #[vb, vf], .agg #[.int .i64 s, .int .i64 p]] w fun r w' => ∃ n : Int, r = .returned (.tuple #[.int .i64 (fndI t.fs s p), .int .i64 n]) ∧ Below w.heap.size w w' := by
  obtain ⟨⟨_, hfl, hb1, hbl⟩, _⟩ := tv_parts htv
  obtain ⟨ch, hch, _⟩ := fnd_chain htv hk
  obtain ⟨hbk, hbe⟩ := bkt_in hk hb1
  have hcl := (show ch.length ≤ t.fs.length from by
    obtain ⟨x, _, ec⟩ := bch_some hch
    exact chn_len ec)
  have HT := Hd hT
  obtain ⟨Ab, cb, rfl, hbc, hbm, hB⟩ := hT.b
  obtain ⟨Af, cf, rfl, hfc, hfm, hF⟩ := hT.f
  have hbx := (Own.new_ w 26 #[.slice Ab t.bs.length cb, .slice Af t.fs.length cf]).alloc (o := .cells #[.int .i64 s, .int .i64 p] 54)
  have hky := Own.new_ (w.alloc (.cells #[.slice Ab t.bs.length cb, .slice Af t.fs.length cf] 26)) 54 #[.int .i64 s, .int .i64 p]
  have hb0 : Below w.heap.size w ((w.alloc (.cells #[.slice Ab t.bs.length cb, .slice Af t.fs.length cf] 26)).alloc (.cells #[.int .i64 s, .int .i64 p] 54)) := bA (bA bR)
  rw [show (w.alloc (.cells #[.slice Ab t.bs.length cb, .slice Af t.fs.length cf] 26)).heap.size = w.heap.size + 1 by simp] at hky
  generalize hW : (w.alloc (.cells #[.slice Ab t.bs.length cb, .slice Af t.fs.length cf] 26)).alloc (.cells #[.int .i64 s, .int .i64 p] 54) = W0 at hbx hky hb0
  have q0 := hbx.cell_ 0 (v := .slice Ab t.bs.length cb) rfl
  have q1 := hbx.cell_ 1 (v := .slice Af t.fs.length cf) rfl
  have k0 := hky.cell_ 0 (v := .int .i64 s) rfl
  have k1 := hky.cell_ 1 (v := .int .i64 p) rfl
  have HX0 := Hd hbx
  have HK0 := Hd hky
  have HB0 := Hd hb0
  clear hbx hky hb0
  have HH := Hd (fun W => post2_of (l2Hash_any s p t.bs.length W hk ⟨by omega, by omega⟩))
  have HC := Hd (fun W (h : TaR W (.slice Ab t.bs.length cb) (.slice Af t.fs.length cf) t) => (l3Chain_any (.slice Ab t.bs.length cb) (.slice Af t.fs.length cf) t (bkt t s p) W h hbk (by omega)).mono (R' := Post2 fun v w' => ∃ v1, v = .tuple #[v1, .bool (bch t (bkt t s p)).isSome] ∧ (∀ ch, bch t (bkt t s p) = some ch → SlR intE w' v1 (ints ch)) ∧ Below W.heap.size W w') (fun _ _ ⟨v, e1, e2, e3⟩ => ⟨_, e1, v, rfl, e2, e3⟩))
  go_enter Tryz.func51, Tryz.ntmps51
  go_wp2
  go_region_held_law (fun w' => w'.cell? ⟨w.heap.size, 0, none⟩ = some (.slice Ab t.bs.length cb) ∧ w'.cell? ⟨w.heap.size, 1, none⟩ = some (.slice Af t.fs.length cf) ∧ w'.cell? ⟨w.heap.size + 1, 0, none⟩ = some (.int .i64 s) ∧ w'.cell? ⟨w.heap.size + 1, 1, none⟩ = some (.int .i64 p)) (go_keep) (first
    | (go_at_call 94
       refine (HH.out _).mono ?_
       rintro _ w1 ⟨_, rfl, rfl, hb1⟩
       rw [hbe]
       have HB1 := Hd (bT (bD HB0.out) hb1)
       have hx1 := HX0.out.drew.below hb1
       have hk1 := HK0.out.drew.below hb1
       have d0 := hx1.cell_ 0 (v := .slice Ab t.bs.length cb) rfl
       have d1 := hx1.cell_ 1 (v := .slice Af t.fs.length cf) rfl
       have d2 := hk1.cell_ 0 (v := .int .i64 s) rfl
       have d3 := hk1.cell_ 1 (v := .int .i64 p) rfl
       have HX1 := Hd hx1
       have HK1 := Hd hk1
       clear hx1 hk1 hb1)
    | (go_at_call 93
       refine (HC.out _ (HT.out.now HB1.out)).mono ?_
       rintro _ w2 ⟨_, rfl, v, rfl, hsl, hb2⟩
       have HB2 := Hd (bT HB1.out hb2)
       have hx2 := HX1.out.below hb2
       have hk2 := HK1.out.below hb2
       have e0 := hx2.cell_ 0 (v := .slice Ab t.bs.length cb) rfl
       have e1 := hx2.cell_ 1 (v := .slice Af t.fs.length cf) rfl
       have e2 := hk2.cell_ 0 (v := .int .i64 s) rfl
       have e3 := hk2.cell_ 1 (v := .int .i64 p) rfl
       have HX2 := Hd hx2
       have HK2 := Hd hk2
       have hsv := hsl ch hch
       obtain ⟨Al, cl, rfl, hlc, hlm, hL⟩ := hsv
       have HL := Hd hL
       rw [ints_length] at *
       clear hx2 hk2 hb2 hsl hL d0 d1 d2 d3))
  all_goals
    go_wp2
    clear e0 e1 e2 e3
    go_loopw [8] (fun u wi => ∃ r : Nat, r ≤ ch.length ∧ u = .int .i64 r ∧ Hid (∀ (m j : Nat) (f : Fr), m < r → ch[m]? = some j → t.fs[j]? = some f → ¬ (f.s, f.p) = (s, p)) ∧ Below w2.heap.size w2 wi) (fun u _ => ch.length - (intOf u).toNat)
    case atStart => exact ⟨0, by omega, rfl, (fun m j f h => absurd h (by omega)), bR⟩
    case round =>
      obtain ⟨r, hr, rfl, hacc, hbi⟩ := hrel
      by_cases hlr : r < ch.length
      · obtain ⟨j, ej⟩ : ∃ j, ch[r]? = some j := ⟨_, List.getElem?_eq_getElem hlr⟩
        obtain ⟨f, ef, huf⟩ := bch_mem hch j (List.mem_of_getElem? ej)
        obtain ⟨hjl, _⟩ := List.getElem?_eq_some_iff.1 ef
        obtain ⟨b5, o5, hAl, hb5, y0⟩ := (HL.out.now (Nat.le_refl _) hbi).i1 (ints_get ej)
        obtain ⟨b4, o4, hAf, hb4, x0, x1, x2, x3, x4⟩ := ((HT.out.now (bT HB2.out hbi)).fsl).fr ef
        subst hAl hAf
        have z0 := xcell (w := wr) ((HX2.out.below hbi).cell_ 0 (v := .slice Ab t.bs.length cb) rfl) (HX2.out.below hbi).lt
        have z1 := xcell (w := wr) ((HX2.out.below hbi).cell_ 1 (v := .slice (some ⟨b4, o4, none⟩) t.fs.length cf) rfl) (HX2.out.below hbi).lt
        have z2 := xcell (w := wr) ((HK2.out.below hbi).cell_ 0 (v := .int .i64 s) rfl) (HK2.out.below hbi).lt
        have z3 := xcell (w := wr) ((HK2.out.below hbi).cell_ 1 (v := .int .i64 p) rfl) (HK2.out.below hbi).lt
        have z4 := xcell (w := wr) y0 (by simp; omega)
        have z5 := xcell (w := wr) x1 (by show b4 < _; omega)
        have z6 := xcell (w := wr) x2 (by show b4 < _; omega)
        have hj2 : (j : Int) < (t.fs.length : Int) := by omega
        have he := fun W => eql_key f.s f.p s p W
        have hi1 : ((ints ch).length : Int) = (ch.length : Int) := by rw [ints_length]
        cases hq1 : keq f.s f.p s p with
        | true =>
          rw [hq1] at he
          have H := Hd (chain_some htv hk hch ej ef (keq_iff.1 hq1))
          have Y0 := Hd y0
          clear ej ef huf y0 x0 x1 x2 x3 x4
          go_wp2
          refine wp_region_ext (by kernel_rfl) (by kernel_rfl) ?_
          repeat (go_big_quiet_step (fail))
          refine wpQuiet_nil ?_
          intro _ hw'
          obtain ⟨⟨wq, hq⟩, hw''⟩ := hw'
          subst hw''
          try dsimp only
          have z7 := (hq.cell (p := ⟨b5, o5 + r, none⟩) hb5).trans Y0.out
          go_wp2
          go_ret2
          exact ⟨_, by rw [H.out]; rfl, bT HB2.out (bT hbi hq)⟩
        | false =>
          rw [hq1] at he
          have HACC : Hid (∀ (m j : Nat) (f : Fr), m < r + 1 → ch[m]? = some j → t.fs[j]? = some f → ¬ (f.s, f.p) = (s, p)) := fun m j' f' hm e1 e2 => by
            rcases Nat.lt_or_ge m r with h | h
            · exact hacc.out m j' f' h e1 e2
            · obtain rfl : m = r := by omega
              rw [ej] at e1
              injection e1 with e1
              subst e1
              rw [ef] at e2
              injection e2 with e2
              subst e2
              exact keq_no hq1
          clear ej ef huf y0 x0 x1 x2 x3 x4
          go_wp2
          refine wp_region_ext (by kernel_rfl) (by kernel_rfl) ?_
          repeat (go_big_quiet_step (fail))
          refine wpQuiet_nil ?_
          intro _ hw'
          obtain ⟨⟨wq, hq⟩, hw''⟩ := hw'
          subst hw''
          try dsimp only
          go_wp2
          go_roundw
          case rel => exact ⟨r + 1, by omega, by go_num, HACC, bT hbi hq⟩
          case measure => simp [intOf]; omega
      · obtain rfl : r = ch.length := by omega
        have H : Hid (fndI t.fs s p = -1) := chain_none htv hk hch (fun m j f e1 e2 => hacc.out m j f (List.getElem?_eq_some_iff.1 e1).1 e1 e2)
        go_wp2
        go_ret2
        exact ⟨_, by rw [H.out]; rfl, bT HB2.out hbi⟩
end Go.Proofs.YtfbnokjdkhcgoaaGreatDoor
