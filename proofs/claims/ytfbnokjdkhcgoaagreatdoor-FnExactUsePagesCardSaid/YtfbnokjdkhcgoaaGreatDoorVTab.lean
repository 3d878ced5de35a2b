/- A part of the proofs of this seat: Tab. -/
import Derived.Test.YtfbnokjdkhcgoaaGreatDoorVMem
set_option linter.unusedVariables false
set_option linter.unusedSimpArgs false
set_option maxRecDepth 1000000
namespace Go.Proofs.YtfbnokjdkhcgoaaGreatDoor
open Go.RowKit
def frok (f : Fr) : Bool := if f.used = true then kval (f.s, f.p) && inR f.r 8 else decide (f = frz)
def dupf (fs : List Fr) (i : Nat) : Bool := match fs[i]? with
 | some f => !f.used || (fs.take i).all (fun g => !g.used || decide (¬ (g.s, g.p) = (f.s, f.p)))
 | none => true
def frs (fs : List Fr) : Nat → Bool
 | 0 => true
 | i + 1 => frs fs i && (match fs[i]? with | some f => frok f | none => false) && dupf fs i
def nus (fs : List Fr) (i : Nat) : Nat := (fs.take i).countP (·.used)
def hsh (s p : Int) (nb : Int) : Int := ((s * 256 + p) * 2654435761 % 4294967296) * nb / 4294967296
def chn (fs : List Fr) : Nat → Int → Option (List Nat)
  | 0, i => if i = -1 then some [] else none
  | k + 1, i => if i = -1 then some [] else if 0 ≤ i then
      match fs[i.toNat]? with
      | some f => if f.used = true then (chn fs k f.n).map (i.toNat :: ·) else none
      | none => none
    else none
def bch (t : Tab) (b : Nat) : Option (List Nat) := match t.bs[b]? with
 | some i => chn t.fs t.fs.length i
 | none => none
def hok (t : Tab) (b : Nat) (i : Nat) : Bool := match t.fs[i]? with
 | some f => decide (hsh f.s f.p t.bs.length = b)
 | none => false
def bok (t : Tab) (b : Nat) : Bool := match bch t b with
 | some ch => ch.all (hok t b)
 | none => false
def bln (t : Tab) (b : Nat) : Nat := match bch t b with
 | some ch => ch.length
 | none => 0
def bsum (t : Tab) : Nat → Nat
 | 0 => 0
 | b + 1 => bsum t b + bln t b
def boks (t : Tab) : Nat → Bool
 | 0 => true
 | b + 1 => boks t b && bok t b
def tsz (t : Tab) : Bool := decide (1 ≤ t.fs.length) && decide (t.fs.length ≤ 16) && decide (1 ≤ t.bs.length) && decide (t.bs.length ≤ 16)
def tv (t : Tab) : Bool := tsz t && frs t.fs t.fs.length && boks t t.bs.length && decide (bsum t t.bs.length = nus t.fs t.fs.length)
theorem chn_neg (fs : List Fr) (k : Nat) : chn fs k (-1) = some [] := by cases k <;> simp [chn]
theorem chn_out {fs : List Fr} (k : Nat) {i : Int} (h1 : i ≠ -1) (h : ¬ (0 ≤ i ∧ i < fs.length)) : chn fs k i = none := by
 cases k with
 | zero => simp [chn, h1]
 | succ k =>
  unfold chn
  rw [if_neg h1]
  split
  ·rename_i h0
   rw [List.getElem?_eq_none (by omega)]
  ·rfl
theorem chn_free {fs : List Fr} (k : Nat) {i : Nat} {f : Fr} (e : fs[i]? = some f) (h : f.used = false) : chn fs k i = none := by
 cases k with
 | zero => simp [chn]
 | succ k =>
  unfold chn
  rw [if_neg (by omega), if_pos (by omega), Int.toNat_natCast, e]
  simp [h]
theorem chn_step {fs : List Fr} (k : Nat) {i : Nat} {f : Fr} (e : fs[i]? = some f) (h : f.used = true) : chn fs (k + 1) i = (chn fs k f.n).map (i :: ·) := by
 conv => lhs; unfold chn
 rw [if_neg (by omega), if_pos (by omega), Int.toNat_natCast, e]
 simp [h]
theorem chn_none0 {fs : List Fr} {i : Int} (h : i ≠ -1) : chn fs 0 i = none := by simp [chn, h]
theorem chn_cons {fs : List Fr} {k : Nat} {i : Int} {ch : List Nat} (h : chn fs k i = some ch) (hi : i ≠ -1) :
  ∃ (j k' : Nat) (f : Fr) (r : List Nat), i = (j : Int) ∧ k = k' + 1 ∧ fs[j]? = some f ∧ f.used = true ∧ chn fs k' f.n = some r ∧ ch = j :: r := by
 cases k with
 | zero => rw [chn_none0 hi] at h; cases h
 | succ k =>
  unfold chn at h
  rw [if_neg hi] at h
  split at h
  ·rename_i h0
   cases e : fs[i.toNat]? with
   | none => rw [e] at h; cases h
   | some f =>
    rw [e] at h
    simp only at h
    split at h
    ·rename_i hu
     cases e2 : chn fs k f.n with
     | none => rw [e2] at h; cases h
     | some r =>
      rw [e2] at h
      injection h with h
      exact ⟨i.toNat, k, f, r, by omega, rfl, e, hu, e2, h.symm⟩
    ·cases h
  ·cases h
theorem chn_more {fs : List Fr} {k k' : Nat} (hk : k ≤ k') : ∀ {i : Int} {ch : List Nat}, chn fs k i = some ch → chn fs k' i = some ch := by
 induction k generalizing k' with
 | zero =>
  intro i ch h
  by_cases hi : i = -1
  ·subst hi; rw [chn_neg] at h ⊢; exact h
  ·rw [chn_none0 hi] at h; cases h
 | succ k ih =>
  intro i ch h
  by_cases hi : i = -1
  ·subst hi; rw [chn_neg] at h ⊢; exact h
  ·obtain ⟨j, k1, f, r, rfl, hk1, e, hu, h2, rfl⟩ := chn_cons h hi
   obtain ⟨k2, rfl⟩ : ∃ k2, k' = k2 + 1 := ⟨k' - 1, by omega⟩
   have : k1 = k := by omega
   subst this
   rw [chn_step k2 e hu, ih (by omega) h2]
   rfl
theorem chn_same {fs : List Fr} {k k' : Nat} {i : Int} {a b : List Nat} (h : chn fs k i = some a) (h' : chn fs k' i = some b) : a = b := by
 rcases Nat.le_total k k' with hk | hk
 ·have := chn_more hk h; rw [h'] at this; exact (Option.some.inj this).symm
 ·have := chn_more hk h'; rw [h] at this; exact Option.some.inj this
theorem chn_len {fs : List Fr} : ∀ {k : Nat} {i : Int} {ch : List Nat}, chn fs k i = some ch → ch.length ≤ k := by
 intro k
 induction k with
 | zero =>
  intro i ch h
  by_cases hi : i = -1
  ·subst hi; rw [chn_neg] at h; injection h with h; subst h; simp
  ·rw [chn_none0 hi] at h; cases h
 | succ k ih =>
  intro i ch h
  by_cases hi : i = -1
  ·subst hi; rw [chn_neg] at h; injection h with h; subst h; simp
  ·obtain ⟨j, k1, f, r, rfl, hk1, e, hu, h2, rfl⟩ := chn_cons h hi
   have : k1 = k := by omega
   subst this
   have := ih h2
   simp; omega
theorem chn_mem {fs : List Fr} : ∀ {k : Nat} {i : Int} {ch : List Nat}, chn fs k i = some ch → ∀ j ∈ ch, ∃ f, fs[j]? = some f ∧ f.used = true ∧ ∃ a r, ch = a ++ j :: r ∧ chn fs k j = some (j :: r) := by
 intro k
 induction k with
 | zero =>
  intro i ch h j hj
  by_cases hi : i = -1
  ·subst hi; rw [chn_neg] at h; injection h with h; subst h; cases hj
  ·rw [chn_none0 hi] at h; cases h
 | succ k ih =>
  intro i ch h j hj
  by_cases hi : i = -1
  ·subst hi; rw [chn_neg] at h; injection h with h; subst h; cases hj
  ·obtain ⟨j0, k1, f, r, rfl, hk1, e, hu, h2, rfl⟩ := chn_cons h hi
   have hk : k1 = k := by omega
   subst hk
   rcases List.mem_cons.1 hj with rfl | hj
   ·exact ⟨f, e, hu, [], r, rfl, h⟩
   ·obtain ⟨g, e1, hu1, a, r1, e2, h3⟩ := ih h2 j hj
    exact ⟨g, e1, hu1, j0 :: a, r1, by rw [e2]; rfl, chn_more (Nat.le_succ _) h3⟩
theorem chn_nodup {fs : List Fr} {k : Nat} {i : Int} {ch : List Nat} (h : chn fs k i = some ch) : ch.Nodup := by
 induction k generalizing i ch with
 | zero =>
  by_cases hi : i = -1
  ·subst hi; rw [chn_neg] at h; injection h with h; subst h; exact List.nodup_nil
  ·rw [chn_none0 hi] at h; cases h
 | succ k ih =>
  by_cases hi : i = -1
  ·subst hi; rw [chn_neg] at h; injection h with h; subst h; exact List.nodup_nil
  ·obtain ⟨j0, k1, f, r, rfl, hk1, e, hu, h2, rfl⟩ := chn_cons h hi
   have hk : k1 = k := by omega
   subst hk
   refine List.nodup_cons.2 ⟨fun hm => ?_, ih h2⟩
   obtain ⟨g, e1, hu1, a, r1, e2, h3⟩ := chn_mem h2 j0 hm
   have := chn_same h h3
   injection this with _ this
   rw [this] at e2
   have hl := congrArg List.length e2
   simp at hl
   omega
theorem len_sub {α : Type} [DecidableEq α] : ∀ {a b : List α}, a.Nodup → (∀ x ∈ a, x ∈ b) → a.length ≤ b.length := by
 intro a
 induction a with
 | nil => intro b _ _; simp
 | cons x a ih =>
  intro b hn hs
  have hx := hs x (by simp)
  have h := ih (b := b.erase x) (List.nodup_cons.1 hn).2 (fun y hy => by
   have hne : y ≠ x := by rintro rfl; exact (List.nodup_cons.1 hn).1 hy
   exact (List.mem_erase_of_ne hne).2 (hs y (by simp [hy])))
  rw [List.length_erase_of_mem hx] at h
  have := List.length_pos_of_mem hx
  simp; omega
theorem sub_of_len {α : Type} [DecidableEq α] {a b : List α} (hn : a.Nodup) (hs : ∀ x ∈ a, x ∈ b) (hl : b.length ≤ a.length) : ∀ x ∈ b, x ∈ a := by
 intro x hx
 apply Decidable.byContradiction
 intro hxa
 have h := len_sub (b := b.erase x) hn (fun y hy => by
  have hne : y ≠ x := by rintro rfl; exact hxa hy
  exact (List.mem_erase_of_ne hne).2 (hs y hy))
 rw [List.length_erase_of_mem hx] at h
 have := List.length_pos_of_mem hx
 omega
def usedAt (fs : List Fr) (i : Nat) : Bool := match fs[i]? with | some f => f.used | none => false
theorem nus_eq (fs : List Fr) : ∀ i, i ≤ fs.length → nus fs i = ((List.range i).filter (usedAt fs)).length := by
 intro i
 induction i with
 | zero => intro _; simp [nus]
 | succ i ih =>
  intro hi
  have ih := ih (by omega)
  unfold nus at ih ⊢
  rw [List.take_add_one, List.getElem?_eq_getElem (by omega), List.range_succ, List.filter_append, List.length_append, ← ih, List.countP_append]
  congr 1
  simp [usedAt, List.getElem?_eq_getElem (show i < fs.length by omega), List.filter_cons]
  split <;> simp_all
def uni (t : Tab) : Nat → List Nat
 | 0 => []
 | b + 1 => uni t b ++ (bch t b).getD []
theorem uni_len (t : Tab) : ∀ b, (uni t b).length = bsum t b := by
 intro b
 induction b with
 | zero => rfl
 | succ b ih =>
  unfold uni bsum bln
  rw [List.length_append, ih]
  cases bch t b <;> simp
theorem boks_at {t : Tab} : ∀ {b b' : Nat}, boks t b = true → b' < b → bok t b' = true := by
 intro b
 induction b with
 | zero => intro b' _ h; omega
 | succ b ih =>
  intro b' h hlt
  unfold boks at h
  rw [Bool.and_eq_true] at h
  rcases Nat.lt_or_ge b' b with h1 | h1
  ·exact ih h.1 h1
  ·obtain rfl : b' = b := by omega
   exact h.2
theorem bok_parts {t : Tab} {b : Nat} (h : bok t b = true) : ∃ ch, bch t b = some ch ∧ ∀ i ∈ ch, hok t b i = true := by
 unfold bok at h
 cases e : bch t b with
 | none => rw [e] at h; cases h
 | some ch => rw [e] at h; exact ⟨ch, rfl, List.all_eq_true.1 h⟩
theorem hok_parts {t : Tab} {b i : Nat} (h : hok t b i = true) : ∃ f, t.fs[i]? = some f ∧ hsh f.s f.p t.bs.length = b := by
 unfold hok at h
 cases e : t.fs[i]? with
 | none => rw [e] at h; cases h
 | some f => rw [e] at h; exact ⟨f, rfl, of_decide_eq_true h⟩
theorem bch_mem {t : Tab} {b : Nat} {ch : List Nat} (h : bch t b = some ch) : ∀ j ∈ ch, ∃ f, t.fs[j]? = some f ∧ f.used = true := by
 unfold bch at h
 cases e : t.bs[b]? with
 | none => rw [e] at h; cases h
 | some i =>
  rw [e] at h
  intro j hj
  obtain ⟨f, e1, hu, _⟩ := chn_mem h j hj
  exact ⟨f, e1, hu⟩
theorem bch_nodup {t : Tab} {b : Nat} {ch : List Nat} (h : bch t b = some ch) : ch.Nodup := by
 unfold bch at h
 cases e : t.bs[b]? with
 | none => rw [e] at h; cases h
 | some i => rw [e] at h; exact chn_nodup h
theorem uni_mem {t : Tab} : ∀ {b : Nat} {j : Nat}, j ∈ uni t b → ∃ b' ch, b' < b ∧ bch t b' = some ch ∧ j ∈ ch := by
 intro b
 induction b with
 | zero => intro j h; cases h
 | succ b ih =>
  intro j h
  unfold uni at h
  rcases List.mem_append.1 h with h | h
  ·obtain ⟨b', ch, h1, h2, h3⟩ := ih h
   exact ⟨b', ch, by omega, h2, h3⟩
  ·cases e : bch t b with
   | none => rw [e] at h; cases h
   | some ch => rw [e] at h; exact ⟨b, ch, by omega, e, h⟩
theorem uni_nodup {t : Tab} : ∀ {b : Nat}, boks t b = true → (uni t b).Nodup := by
 intro b
 induction b with
 | zero => intro _; exact List.nodup_nil
 | succ b ih =>
  intro h
  have h1 := boks_at (b' := b) h (by omega)
  unfold boks at h
  rw [Bool.and_eq_true] at h
  obtain ⟨ch, e, hc⟩ := bok_parts h1
  unfold uni
  rw [e, Option.getD_some, List.nodup_append]
  refine ⟨ih h.1, bch_nodup e, fun x hx y hy hxy => ?_⟩
  subst hxy
  obtain ⟨b', ch', hb', e', hx'⟩ := uni_mem hx
  obtain ⟨ch2, e2, hc2⟩ := bok_parts (boks_at h.1 hb')
  rw [e'] at e2
  injection e2 with e2
  subst e2
  obtain ⟨f, e3, h3⟩ := hok_parts (hc x hy)
  obtain ⟨f', e4, h4⟩ := hok_parts (hc2 x hx')
  rw [e3] at e4
  injection e4 with e4
  subst e4
  omega
theorem tv_parts {t : Tab} (h : tv t = true) : (1 ≤ t.fs.length ∧ t.fs.length ≤ 16 ∧ 1 ≤ t.bs.length ∧ t.bs.length ≤ 16) ∧ frs t.fs t.fs.length = true ∧ boks t t.bs.length = true ∧ bsum t t.bs.length = nus t.fs t.fs.length := by
 unfold tv tsz at h
 simp only [Bool.and_eq_true, decide_eq_true_eq] at h
 obtain ⟨⟨⟨⟨⟨⟨h1, h2⟩, h3⟩, h4⟩, h5⟩, h6⟩, h7⟩ := h
 exact ⟨⟨h1, h2, h3, h4⟩, h5, h6, h7⟩
theorem tv_in {t : Tab} (h : tv t = true) {i : Nat} {f : Fr} (e : t.fs[i]? = some f) (hu : f.used = true) :
  ∃ (b : Nat) (ch : List Nat), b < t.bs.length ∧ bch t b = some ch ∧ i ∈ ch ∧ hsh f.s f.p t.bs.length = b := by
 obtain ⟨_, _, h3, h4⟩ := tv_parts h
 obtain ⟨hi, _⟩ := List.getElem?_eq_some_iff.1 e
 have hsub := sub_of_len (a := uni t t.bs.length) (b := (List.range t.fs.length).filter (usedAt t.fs)) (uni_nodup h3) (fun x hx => by
  obtain ⟨b', ch, _, e1, h1⟩ := uni_mem hx
  obtain ⟨g, e2, hu2⟩ := bch_mem e1 x h1
  obtain ⟨hx, _⟩ := List.getElem?_eq_some_iff.1 e2
  rw [List.mem_filter, List.mem_range]
  exact ⟨hx, by unfold usedAt; rw [e2]; exact hu2⟩) (by rw [uni_len, h4, nus_eq _ _ (Nat.le_refl _)]; exact Nat.le_refl _)
 have hm := hsub i (by rw [List.mem_filter, List.mem_range]; exact ⟨hi, by unfold usedAt; rw [e]; exact hu⟩)
 obtain ⟨b, ch, hb, e1, h1⟩ := uni_mem hm
 obtain ⟨ch2, e2, hc⟩ := bok_parts (boks_at h3 hb)
 rw [e1] at e2
 injection e2 with e2
 subst e2
 obtain ⟨g, e3, h5⟩ := hok_parts (hc i h1)
 rw [e] at e3
 injection e3 with e3
 subst e3
 exact ⟨b, ch, hb, e1, h1, h5⟩
def fnd (fs : List Fr) (s p : Int) : Option Nat := fs.findIdx? (fun f => f.used && decide ((f.s, f.p) = (s, p)))
def fndI (fs : List Fr) (s p : Int) : Int := match fnd fs s p with | some i => i | none => -1
theorem frs_at {fs : List Fr} : ∀ {n i : Nat}, frs fs n = true → i < n → (∃ f, fs[i]? = some f ∧ frok f = true) ∧ dupf fs i = true := by
 intro n
 induction n with
 | zero => intro i _ h; omega
 | succ n ih =>
  intro i h hi
  unfold frs at h
  rw [Bool.and_eq_true, Bool.and_eq_true] at h
  rcases Nat.lt_or_ge i n with h1 | h1
  ·exact ih h.1.1 h1
  ·obtain rfl : i = n := by omega
   refine ⟨?_, h.2⟩
   have h2 := h.1.2
   cases e : fs[i]? with
   | none => rw [e] at h2; cases h2
   | some f => rw [e] at h2; exact ⟨f, rfl, h2⟩
theorem dup_ne {fs : List Fr} {i j : Nat} {f g : Fr} (h : dupf fs j = true) (hij : i < j) (ei : fs[i]? = some f) (ej : fs[j]? = some g) (hf : f.used = true) (hg : g.used = true) : ¬ (f.s, f.p) = (g.s, g.p) := by
 unfold dupf at h
 rw [ej] at h
 simp only [hg, Bool.not_true, Bool.false_or] at h
 have hm : f ∈ fs.take j := by
  obtain ⟨hi, rfl⟩ := List.getElem?_eq_some_iff.1 ei
  exact List.mem_of_getElem? (i := i) (by rw [List.getElem?_take, if_pos hij, ei])
 have := List.all_eq_true.1 h f hm
 rw [Bool.or_eq_true, decide_eq_true_eq] at this
 rcases this with h' | h'
 ·rw [hf] at h'; cases h'
 ·exact h'
theorem key_once {fs : List Fr} (h : frs fs fs.length = true) {i j : Nat} {f g : Fr} (ei : fs[i]? = some f) (ej : fs[j]? = some g) (hf : f.used = true) (hg : g.used = true) (hk : (f.s, f.p) = (g.s, g.p)) : i = j := by
 obtain ⟨hi, _⟩ := List.getElem?_eq_some_iff.1 ei
 obtain ⟨hj, _⟩ := List.getElem?_eq_some_iff.1 ej
 rcases Nat.lt_trichotomy i j with h1 | h1 | h1
 ·exact absurd hk (dup_ne (frs_at h hj).2 h1 ei ej hf hg)
 ·exact h1
 ·exact absurd hk.symm (dup_ne (frs_at h hi).2 h1 ej ei hg hf)
theorem fnd_some {fs : List Fr} {s p : Int} {i : Nat} (h : fnd fs s p = some i) : ∃ f, fs[i]? = some f ∧ f.used = true ∧ (f.s, f.p) = (s, p) := by
 unfold fnd at h
 rw [List.findIdx?_eq_some_iff_getElem] at h
 obtain ⟨hi, h1, _⟩ := h
 rw [Bool.and_eq_true, decide_eq_true_eq] at h1
 exact ⟨fs[i], List.getElem?_eq_getElem hi, h1.1, h1.2⟩
theorem fnd_none {fs : List Fr} {s p : Int} (h : fnd fs s p = none) {i : Nat} {f : Fr} (e : fs[i]? = some f) (hu : f.used = true) : ¬ (f.s, f.p) = (s, p) := by
 unfold fnd at h
 rw [List.findIdx?_eq_none_iff] at h
 have := h f (List.mem_of_getElem? e)
 simpa [hu] using this
theorem fnd_of {fs : List Fr} (h : frs fs fs.length = true) {s p : Int} {i : Nat} {f : Fr} (e : fs[i]? = some f) (hu : f.used = true) (hk : (f.s, f.p) = (s, p)) : fnd fs s p = some i := by
 cases hf : fnd fs s p with
 | none => exact absurd hk (fnd_none hf e hu)
 | some j =>
  obtain ⟨g, e2, hu2, hk2⟩ := fnd_some hf
  rw [key_once h e2 e hu2 hu (hk2.trans hk.symm)]
theorem bch_some {t : Tab} {b : Nat} {ch : List Nat} (h : bch t b = some ch) : ∃ i, t.bs[b]? = some i ∧ chn t.fs t.fs.length i = some ch := by
 unfold bch at h
 cases e : t.bs[b]? with
 | none => rw [e] at h; cases h
 | some i => rw [e] at h; exact ⟨i, rfl, h⟩
theorem bch_of {t : Tab} {b : Nat} {i : Int} (e : t.bs[b]? = some i) : bch t b = chn t.fs t.fs.length i := by
 unfold bch; rw [e]
theorem set_ne {α : Type} {l : List α} {i j : Nat} {a : α} (h : i ≠ j) : (l.set i a)[j]? = l[j]? := by rw [List.getElem?_set, if_neg h]
theorem set_eq {α : Type} {l : List α} {i : Nat} {a : α} (h : i < l.length) : (l.set i a)[i]? = some a := by rw [List.getElem?_set, if_pos rfl, if_pos h]
theorem frs_mono {fs : List Fr} {k : Nat} (h : frs fs k = false) : ∀ {m : Nat}, k ≤ m → frs fs m = false := by
  intro m
  induction m with
  | zero => intro hk; have : k = 0 := by omega
            subst this; exact h
  | succ m ih =>
    intro hk
    rcases Nat.lt_or_ge k (m + 1) with h1 | h1
    · unfold frs; rw [ih (by omega)]; rfl
    · obtain rfl : k = m + 1 := by omega
      exact h
theorem tv_frs {t : Tab} {k : Nat} (h : frs t.fs (k + 1) = false) (hk : k < t.fs.length) : tv t = false := by
 unfold tv; rw [frs_mono h (show k + 1 ≤ t.fs.length by omega)]; simp
theorem tv_fr {t : Tab} {k : Nat} {f : Fr} (e : t.fs[k]? = some f) (h : frok f = false) : tv t = false := by
 obtain ⟨hk, _⟩ := List.getElem?_eq_some_iff.1 e
 refine tv_frs (k := k) ?_ hk
 unfold frs; rw [e]; simp [h]
theorem tv_dup {t : Tab} {k r : Nat} {f g : Fr} (hr : r < k) (er : t.fs[r]? = some f) (ek : t.fs[k]? = some g) (hf : f.used = true) (hg : g.used = true) (hkk : (f.s, f.p) = (g.s, g.p)) : tv t = false := by
 cases h : tv t with
 | false => rfl
 | true =>
  obtain ⟨_, h2, _, _⟩ := tv_parts h
  have := key_once h2 er ek hf hg hkk
  omega
theorem tv_bok {t : Tab} {b : Nat} (h : bok t b = false) (hb : b < t.bs.length) : tv t = false := by
 cases e : tv t with
 | false => rfl
 | true =>
  obtain ⟨_, _, h3, _⟩ := tv_parts e
  rw [boks_at h3 hb] at h
  cases h
theorem tv_sz {t : Tab} (h : tsz t = false) : tv t = false := by unfold tv; rw [h]; rfl
theorem tv_end {t : Tab} (h1 : tsz t = true) (h2 : frs t.fs t.fs.length = true) (h3 : boks t t.bs.length = true) : tv t = decide (bsum t t.bs.length = nus t.fs t.fs.length) := by unfold tv; rw [h1, h2, h3]; rfl
theorem frs_step {fs : List Fr} {k : Nat} {f : Fr} (h : frs fs k = true) (e : fs[k]? = some f) (hf : frok f = true) (hd : f.used = true → ∀ (r : Nat) (g : Fr), r < k → fs[r]? = some g → g.used = true → ¬ (g.s, g.p) = (f.s, f.p)) : frs fs (k + 1) = true := by
 unfold frs
 rw [h, e]
 simp only [hf, Bool.true_and]
 unfold dupf
 rw [e]
 simp only
 cases hu : f.used with
 | false => rfl
 | true =>
  rw [Bool.not_true, Bool.false_or, List.all_eq_true]
  intro g hg
  obtain ⟨j, hj, he⟩ := List.getElem_of_mem hg
  rw [List.length_take] at hj
  have ej : fs[j]? = some g := by rw [List.getElem_take] at he; rw [List.getElem?_eq_getElem (by omega), he]
  cases hgu : g.used with
  | false => rfl
  | true =>
   rw [Bool.not_true, Bool.false_or, decide_eq_true_eq]
   exact hd hu j g (by omega) ej hgu
theorem nus_step {fs : List Fr} {k : Nat} {f : Fr} (e : fs[k]? = some f) : nus fs (k + 1) = nus fs k + if f.used = true then 1 else 0 := by
 unfold nus
 rw [List.take_add_one, e, Option.toList_some, List.countP_append, List.countP_singleton]
theorem nus_le (fs : List Fr) (k : Nat) : nus fs k ≤ k := by
 unfold nus
 have h := List.countP_le_length (p := fun x : Fr => x.used) (l := fs.take k)
 rw [List.length_take] at h
 omega
theorem bok_false {t : Tab} {b j : Nat} {ch : List Nat} {f : Fr} (e : bch t b = some ch) (hj : j ∈ ch) (ef : t.fs[j]? = some f) (hh : hsh f.s f.p t.bs.length ≠ b) : bok t b = false := by
 cases h : bok t b with
 | false => rfl
 | true =>
  obtain ⟨ch', e', hc⟩ := bok_parts h
  rw [e] at e'
  injection e' with e'
  subst e'
  obtain ⟨g, eg, h1⟩ := hok_parts (hc j hj)
  rw [ef] at eg
  injection eg with eg
  subst eg
  exact absurd h1 hh
theorem bok_none {t : Tab} {b : Nat} (e : bch t b = none) : bok t b = false := by unfold bok; rw [e]
theorem boks_step {t : Tab} {b : Nat} {ch : List Nat} (h : boks t b = true) (e : bch t b = some ch) (hc : ∀ (k j : Nat), ch[k]? = some j → ∃ f : Fr, t.fs[j]? = some f ∧ hsh f.s f.p t.bs.length = b) : boks t (b + 1) = true := by
 unfold boks bok
 rw [h, e]
 simp only [Bool.true_and]
 rw [List.all_eq_true]
 intro j hj
 obtain ⟨k, hk, he⟩ := List.getElem_of_mem hj
 obtain ⟨f, ef, hh⟩ := hc k j (by rw [List.getElem?_eq_getElem hk, he])
 unfold hok
 rw [ef]
 simp [hh]
theorem bsum_step {t : Tab} {b : Nat} {ch : List Nat} (e : bch t b = some ch) : bsum t (b + 1) = bsum t b + ch.length := by
 unfold bsum bln
 rw [e]
 cases b <;> rfl
end Go.Proofs.YtfbnokjdkhcgoaaGreatDoor
