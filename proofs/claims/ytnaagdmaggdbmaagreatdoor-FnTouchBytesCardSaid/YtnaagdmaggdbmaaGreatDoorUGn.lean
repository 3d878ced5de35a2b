/- A part of the proofs of this seat: Gn, KyP, Kr, Kb. -/
import Derived.Deep.CutRange
import Derived.Test.YtnaagdmaggdbmaaGreatDoorUMem
import Derived.Test.YtnaagdmaggdbmaaGreatDoorUEq
import Derived.Test.YtnaagdmaggdbmaaGreatDoorUKeep
import Derived.Test.YtnaagdmaggdbmaaGreatDoorUWpP
import Derived.Test.YtnaagdmaggdbmaaGreatDoorUDpr
set_option linter.unusedVariables false
set_option linter.unusedSimpArgs false
namespace Go.Proofs.YtnaagdmaggdbmaaGreatDoor
open Go.RowKit
set_option maxRecDepth 1000000
set_option linter.unusedVariables false
def dn (D : Nat → Bool) (i : Nat) : Nat → Bool := fun j => if j = i then true else D j
theorem dn_self (D : Nat → Bool) (i : Nat) : dn D i i = true := by unfold dn; rw [if_pos rfl]
theorem dn_ne {D : Nat → Bool} {i j : Nat} (h : j ≠ i) : dn D i j = D j := by unfold dn; rw [if_neg h]
theorem wp_region_rel4 {P : Program} {ops : Array Oper} {Q : Exit → Act → World → Prop} {id : Nat} {a : Act} {w : World} (hm : P.follows .mixedOrders = true) (ds : List Nat) (rds : List (List Nat)) (C : (Nat → Bool) → World → Prop)
    (R : Nat → (Nat → Bool) → (Nat → Value) → World → Prop) (T : Nat → World → World → Prop) (hB : relB .any ops ds rds = true) (hC : C (fun _ => false) w.drew)
    (hR : ∀ j D x y v, (∀ s ∈ rds.getD j [], x s = y s) → R j D x v → R j D y v)
    (hT : ∀ i j D x v v', i ≠ j → D i = false → R j D x v → T i v v' → R j (dn D i) x v')
    (step : ∀ i o, ops[i]? = some o → ∀ D x v, D i = false → C D v → (∀ k, (∃ e ∈ o.after, Region.binds .any e = true ∧ e.on = k) → R k D x v) → ∀ K : Act → World → Prop,
      (∀ u v', T i v v' → C (dn D i) v' → R i (dn D i) (upd x o.dst u) v' → K ((fillA ds x a).put o.dst u) v') → o.wp P (fillA ds x a) v K Q)
    (fin : ∀ D x v, (∀ i, i < ops.size → D i = true) → C D v → (∀ i, i < ops.size → R i D x v) → Q .normal (fillA ds x a) v) : (Code.region id ops true).wp P Q a w := by
  refine wp_region_any hm ?_
  refine wpAny_inv (fun L a' v => ∃ x, a' = fillA ds x a ∧ C (fun j => L.getD j false) v ∧ L.size = ops.size ∧ (∀ j, L.getD j false = true → R j (fun j => L.getD j false) x v) ∧
    ∀ j o, ops[j]? = some o → L.getD j false = true → ∀ e ∈ o.after, Region.binds .any e = true → L.getD e.on false = true) ?_ ?_ _ _ _ _ (left_le _ _) ?_
  · rintro L a' v ⟨x, rfl, hCv, hsz, hL, hcl⟩ i hi
    obtain ⟨h0, o, ho, hdep⟩ := mem_ready.1 hi
    obtain ⟨b1, b2, b3, b4⟩ := relB_at hB ho
    have hisz := (Array.getElem?_eq_some_iff.1 ho).1
    have h0' : L.getD i false = false := by rw [← getD_both_ (by omega)]; exact h0
    unfold wpOp
    rw [ho]
    simp only [Region.wanted, b1, if_true]
    have e0 : (fun j => (L.setIfInBounds i true).getD j false) = dn (fun j => L.getD j false) i := funext fun j => by
      unfold dn
      by_cases hij : j = i
      · subst hij; simp [hsz, hisz]
      · rw [if_neg hij, getD_set_ne false (fun h => hij h.symm)]
    refine .inl (step i o ho _ x v h0' hCv (fun k ⟨e, he, hb, hk⟩ => hk ▸ hL _ (hdep e he hb)) _ (fun u v' hTv hCv' hRi => ?_))
    refine ⟨upd x o.dst u, fill_put b2, ?_, by simpa using hsz, fun j hj => ?_, fun j oj hoj hj e he hb => ?_⟩
    · show C (fun j => (L.setIfInBounds i true).getD j false) v'
      rw [e0]
      exact hCv'
    · rw [e0]
      by_cases hij : i = j
      · subst hij; exact hRi
      · rw [getD_set_ne false hij] at hj
        have hj2 : j < ops.size := by
          rcases Nat.lt_or_ge j L.size with h | h
          · omega
          · simp [Array.getElem?_eq_none h] at hj
        obtain ⟨oj, hoj⟩ : ∃ oj, ops[j]? = some oj := ⟨_, Array.getElem?_eq_getElem hj2⟩
        refine hR j _ x _ v' (fun s hs => ?_) (hT i j _ x v v' hij h0' (hL j hj) hTv)
        by_cases hd : o.dst = some s
        · obtain ⟨e, he, hb, hon⟩ := (relB_at hB hoj).2.2.2 i o s ho hij hd hs
          have h1 := hcl j oj hoj hj e he hb
          rw [hon, ← getD_both_ (by omega), h0] at h1
          cases h1
        · unfold upd; rw [if_neg (fun h => hd h.symm)]
    · by_cases hij : i = j
      · subst hij
        rw [ho] at hoj
        injection hoj with hoj
        subst hoj
        exact getD_set_true (hdep e he hb)
      · rw [getD_set_ne false hij] at hj
        exact getD_set_true (hcl j oj hoj hj e he hb)
  · rintro L a' v ⟨x, rfl, hCv, hsz, hL, hcl⟩ hr
    have hall : ∀ n j, j < n → j < ops.size → L.getD j false = true := by
      intro n
      induction n with
      | zero => intro j h; exact absurd h (by omega)
      | succ n ih =>
        intro j hj hjs
        obtain ⟨oj, hoj⟩ : ∃ oj, ops[j]? = some oj := ⟨_, Array.getElem?_eq_getElem hjs⟩
        by_cases hd : L.getD j true = true
        · rw [← getD_both_ (by omega)]; exact hd
        · have hmem : j ∈ Region.ready .any ops L := mem_ready.2 ⟨by simpa using hd, oj, hoj, fun e he hb => by
            have h1 := (relB_at hB hoj).2.2.1 e he hb
            exact ih e.on (by omega) (by omega)⟩
          rw [hr] at hmem
          cases hmem
    exact fin _ x v (fun i hi => hall (i + 1) i (by omega) hi) hCv (fun i hi => hL i (hall (i + 1) i (by omega) hi))
  · refine ⟨fun s => a.tmps.getD s undef, (fill_self ds a).symm, ?_, by simp, fun j hj => ?_, fun j o ho hj => ?_⟩
    · refine Eq.mp (congrArg (fun d => C d w.drew) ?_) hC
      funext j
      rcases Nat.lt_or_ge j ops.size with h | h
      · simp [h]
      · simp [h]
    all_goals
      exfalso
      rcases Nat.lt_or_ge j ops.size with h | h
      · simp [h] at hj
      · simp [h] at hj
structure GT (q : TypeId → Prop) (B : Nat) (sb : Option Nat) (n : Nat) (v v' : World) : Prop where
 oth : Oth q v v'
 own : ∀ (b : Nat) (t : TypeId) (cs : Array Value), Own v b t cs → t ≠ 141 → some b ≠ sb → Own v' b t cs
 bel : Below B v v'
 rd : ∀ g p, Rdr B v g p → ∃ p', p' ≤ p + 1000 * n ∧ Rdr B v' g p'
section
variable {q : TypeId → Prop} {B n : Nat} {sb : Option Nat} {v v' v'' : World}
theorem GT.same : GT q B sb n v v := ⟨⟨Nat.le_refl _, fun _ _ _ h _ => h⟩, fun _ _ _ h _ _ => h, Below.refl _ _, fun g p h => ⟨p, by omega, h⟩⟩
theorem GT.below (hb : Below v.heap.size v v') (hB : B ≤ v.heap.size) : GT q B sb n v v' :=
 ⟨Oth.of_below hb, fun _ _ _ h _ _ => h.below hb, hb.mono hB, fun g p h => ⟨p, by omega, rdr_below h hb⟩⟩
theorem rdr_pos {w : World} {g p p' : Nat} (h : Rdr B w g p) (h' : Rdr B w g p') : p = p' := by
 obtain ⟨A, m, c, ho, _⟩ := h.ok
 obtain ⟨A', m', c', ho', _⟩ := h'.ok
 unfold Own at ho ho'
 rw [ho] at ho'
 simp at ho'
 omega
theorem GT.read {g p p' : Nat} (hq : q 141) (hr : Rdr B v g p) (hr' : Rdr B v' g p') (hp : p' ≤ p + 1000) (hg : v.grownBy v' (some g)) : GT q B sb 1 v v' := by
 obtain ⟨A, m, c, ho, _, _, hBg⟩ := hr.ok
 have hot := oth_gr hg ho
 refine ⟨⟨hot.1, fun b t cs h hn => hot.2 b t cs h (fun e => hn (by rw [e]; exact hq))⟩, fun b t cs h ht _ => hot.2 b t cs h ht, ?_, fun g2 p2 h2 => ?_⟩
 ·exact ⟨hg.os, hg.tape, hg.output, hg.size, fun k hk => hg.block k (by have := ho.lt; omega) (by intro e; injection e with e; omega)⟩
 ·by_cases he : g2 = g
  ·subst he
   have := rdr_pos hr h2
   subst this
   exact ⟨_, by omega, hr'⟩
  ·exact ⟨p2, by omega, rdr_row h2 hg (by intro e; injection e with e; exact he e) (by intro k e; injection e with e; omega)⟩
theorem GT.set {b i : Nat} {t : TypeId} {cs : Array Value} {u : Value} (ho : Own v b t cs) (hq : q t) (ht : t ≠ 141) (hB : B ≤ b) : GT q B (some b) 0 v (v.setCell ⟨b, i, none⟩ u) := by
 have hty : ∀ (t2 : TypeId) (cs2 : Array Value), Own v b t2 cs2 → t2 = t := by
  intro t2 cs2 h
  unfold Own at h ho
  rw [h] at ho
  simp at ho
  exact ho.2
 refine ⟨⟨by simp, fun b2 t2 cs2 h hn => h.far (p := ⟨b, i, none⟩) (fun e => ?_)⟩, fun b2 t2 cs2 h _ hne => h.far (p := ⟨b, i, none⟩) (fun e => hne (by rw [e])), (Below.refl B v).setCell hB u, fun g p h => ⟨p, by omega, rdr_far h (fun e => ?_) hB⟩⟩
 ·have e : b2 = b := e
  subst e
  exact hn (by rw [hty _ _ h]; exact hq)
 ·subst e
  obtain ⟨A, m, c, h2, _⟩ := h.ok
  exact (h2.ne ho (fun e => ht e.symm)) rfl
theorem GT.trans (h : GT q B sb 0 v v') (k : GT q B sb 0 v' v'') : GT q B sb 0 v v'' :=
 ⟨⟨Nat.le_trans h.oth.1 k.oth.1, fun b t cs o hn => k.oth.2 b t cs (h.oth.2 b t cs o hn) hn⟩, fun b t cs o ht hs => k.own b t cs (h.own b t cs o ht hs) ht hs, h.bel.trans k.bel, fun g p o => by
  obtain ⟨p1, e1, o1⟩ := h.rd g p o
  obtain ⟨p2, e2, o2⟩ := k.rd g p1 o1
  exact ⟨p2, by omega, o2⟩⟩
theorem GT.set9 {b : Nat} {t : TypeId} {cs : Array Value} (ho : Own v b t cs) (hq : q t) (ht : t ≠ 141) (hB : B ≤ b) (u0 u1 u2 u3 u4 u5 u6 u7 u8 : Value) :
  GT q B (some b) 0 v (((((((((v.setCell ⟨b, 0, none⟩ u0).setCell ⟨b, 1, none⟩ u1).setCell ⟨b, 2, none⟩ u2).setCell ⟨b, 3, none⟩ u3).setCell ⟨b, 4, none⟩ u4).setCell ⟨b, 5, none⟩ u5).setCell ⟨b, 6, none⟩ u6).setCell ⟨b, 7, none⟩ u7).setCell ⟨b, 8, none⟩ u8) := by
 have o1 := ho.set_ 0 u0
 have o2 := o1.set_ 1 u1
 have o3 := o2.set_ 2 u2
 have o4 := o3.set_ 3 u3
 have o5 := o4.set_ 4 u4
 have o6 := o5.set_ 5 u5
 have o7 := o6.set_ 6 u6
 have o8 := o7.set_ 7 u7
 exact ((((((((GT.set ho hq ht hB).trans (GT.set o1 hq ht hB)).trans (GT.set o2 hq ht hB)).trans (GT.set o3 hq ht hB)).trans (GT.set o4 hq ht hB)).trans (GT.set o5 hq ht hB)).trans (GT.set o6 hq ht hB)).trans (GT.set o7 hq ht hB)).trans (GT.set o8 hq ht hB)
end
structure SBx where
 op : Nat
 box : Nat
 ty : TypeId
 old : Array Value
 new : Array Value → World → Prop
def sbo : List SBx → Nat → Option Nat
 | [], _ => none
 | e :: S, i => if e.op = i then some e.box else sbo S i
theorem sbo_some {S : List SBx} {i b : Nat} (h : sbo S i = some b) : ∃ e ∈ S, e.op = i ∧ e.box = b := by
 induction S with
 | nil => cases h
 | cons e S ih =>
  unfold sbo at h
  split at h
  ·injection h with h
   exact ⟨e, by simp, ‹_›, h⟩
  ·obtain ⟨e2, h1, h2⟩ := ih h
   exact ⟨e2, by simp [h1], h2⟩
theorem sbo_none {S : List SBx} {i : Nat} (h : sbo S i = none) : ∀ e ∈ S, e.op ≠ i := by
 induction S with
 | nil => intro e he; cases he
 | cons e S ih =>
  unfold sbo at h
  split at h
  ·cases h
  ·intro e2 he
   rcases List.mem_cons.1 he with h2 | h2
   ·rw [h2]; assumption
   ·exact ih h e2 h2
def nn (nums : List Nat) (i : Nat) : Nat := if i ∈ nums then 1 else 0
theorem cn_dn {nums : List Nat} {D : Nat → Bool} {i : Nat} (hn : nums.Nodup) (hD : D i = false) : cn (dn D i) nums = cn D nums + nn nums i := by
 unfold nn dn
 split
 ·exact cn_more hD ‹_› hn
 ·exact cn_same ‹_›
structure GStat (q : TypeId → Prop) (nums : List Nat) (F : List (Nat × TypeId × Array Value)) (M : World → Prop) (S : List SBx) : Prop where
 nd : nums.Nodup
 hF : ∀ e ∈ F, e.2.1 ≠ 141 ∧ ∀ s ∈ S, s.box ≠ e.1
 hM : ∀ v v', Oth q v v' → M v → M v'
 hS : ∀ e ∈ S, e.ty ≠ 141 ∧ (∀ s ∈ S, s.box = e.box → s.op = e.op) ∧ (∀ s ∈ S, s.op = e.op → s = e) ∧ (∀ cs v v', Oth q v v' → e.new cs v → e.new cs v')
structure GC (B : Nat) (w0 : World) (rs : List (Nat × Nat)) (nums : List Nat) (F : List (Nat × TypeId × Array Value)) (M : World → Prop) (S : List SBx) (D : Nat → Bool) (v : World) : Prop where
 bl : Below B w0 v
 rd : ∀ e ∈ rs, ∃ p, p ≤ e.2 + 1000 * cn D nums ∧ Rdr B v e.1 p
 ob : ∀ e ∈ F, Own v e.1 e.2.1 e.2.2
 mm : M v
 st : ∀ e ∈ S, ∃ cs, Own v e.box e.ty cs ∧ (D e.op = false → cs = e.old) ∧ (D e.op = true → e.new cs v)
abbrev gtt (q : TypeId → Prop) (B : Nat) (nums : List Nat) (S : List SBx) (i : Nat) (v v' : World) : Prop := GT q B (sbo S i) (nn nums i) v v'
section
variable {q : TypeId → Prop} {B i : Nat} {w0 v v' : World} {rs : List (Nat × Nat)} {nums : List Nat} {F : List (Nat × TypeId × Array Value)} {M : World → Prop} {S : List SBx} {D : Nat → Bool}
theorem GC.step (h : GC B w0 rs nums F M S D v) (hs : GStat q nums F M S) (hD : D i = false) (ht : gtt q B nums S i v v') (hi0 : sbo S i = none) : GC B w0 rs nums F M S (dn D i) v' := by
 have hi := sbo_none hi0
 refine ⟨h.bl.trans ht.bel, fun e he => ?_, fun e he => ?_, hs.hM _ _ ht.oth h.mm, fun e he => ?_⟩
 ·obtain ⟨p, h1, h2⟩ := h.rd e he
  obtain ⟨p', h3, h4⟩ := ht.rd _ _ h2
  exact ⟨p', by rw [cn_dn hs.nd hD]; omega, h4⟩
 ·refine ht.own _ _ _ (h.ob e he) (hs.hF e he).1 fun e1 => ?_
  obtain ⟨s, h1, h2, h3⟩ := sbo_some e1.symm
  exact (hs.hF e he).2 s h1 h3
 ·obtain ⟨cs, h1, h2, h3⟩ := h.st e he
  obtain ⟨k1, k2, k3, k4⟩ := hs.hS e he
  refine ⟨cs, ht.own _ _ _ h1 k1 fun e1 => ?_, fun hd => h2 (by rwa [dn_ne (hi e he)] at hd), fun hd => k4 _ _ _ ht.oth (h3 (by rwa [dn_ne (hi e he)] at hd))⟩
  obtain ⟨s, m1, m2, m3⟩ := sbo_some e1.symm
  exact hi s m1 m2
theorem GC.store {e0 : SBx} {cs0 : Array Value} (h : GC B w0 rs nums F M S D v) (hs : GStat q nums F M S) (hD : D i = false) (ht : gtt q B nums S i v v') (hm : e0 ∈ S) (hi : e0.op = i) (ho : Own v' e0.box e0.ty cs0) (hn : e0.new cs0 v') : GC B w0 rs nums F M S (dn D i) v' := by
 refine ⟨h.bl.trans ht.bel, fun e he => ?_, fun e he => ?_, hs.hM _ _ ht.oth h.mm, fun e he => ?_⟩
 ·obtain ⟨p, h1, h2⟩ := h.rd e he
  obtain ⟨p', h3, h4⟩ := ht.rd _ _ h2
  exact ⟨p', by rw [cn_dn hs.nd hD]; omega, h4⟩
 ·refine ht.own _ _ _ (h.ob e he) (hs.hF e he).1 fun e1 => ?_
  obtain ⟨s, h1, h2, h3⟩ := sbo_some e1.symm
  exact (hs.hF e he).2 s h1 h3
 ·obtain ⟨cs, h1, h2, h3⟩ := h.st e he
  obtain ⟨k1, k2, k3, k4⟩ := hs.hS e he
  by_cases hei : e.op = i
  ·obtain rfl := k3 e0 hm (by rw [hi, hei])
   exact ⟨cs0, ho, (fun hd => by rw [hei, dn_self] at hd; cases hd), fun _ => hn⟩
  ·refine ⟨cs, ht.own _ _ _ h1 k1 fun e1 => ?_, fun hd => h2 (by rwa [dn_ne hei] at hd), fun hd => k4 _ _ _ ht.oth (h3 (by rwa [dn_ne hei] at hd))⟩
   obtain ⟨s, m1, m2, m3⟩ := sbo_some e1.symm
   exact hei ((k2 s m1 m3).symm.trans m2)
end
structure KG (q : TypeId → Prop) (B : Nat) (nums : List Nat) (S : List SBx) where
 rd : List Nat
 P : (Nat → Bool) → (Nat → Value) → World → Prop
 loc : ∀ D x y v, (∀ s ∈ rd, x s = y s) → P D x v → P D y v
 keep : ∀ i D x v v', D i = false → P D x v → gtt q B nums S i v v' → P (dn D i) x v'
section
variable {q : TypeId → Prop} {B : Nat} {nums : List Nat} {S : List SBx}
def KG.eq (s : Nat) (u0 : Value) : KG q B nums S where
 rd := [s]
 P := fun _ x _ => x s = u0
 loc := fun _ x y _ h hp => by rw [← h s (by simp)]; exact hp
 keep := fun _ _ _ _ _ _ h _ => h
def KG.sat (s : Nat) (f : Value → Prop) : KG q B nums S where
 rd := [s]
 P := fun _ x _ => f (x s)
 loc := fun _ x y _ h hp => by rw [← h s (by simp)]; exact hp
 keep := fun _ _ _ _ _ _ h _ => h
def KG.no : KG q B nums S where
 rd := []
 P := fun _ _ _ => True
 loc := fun _ _ _ _ _ _ => trivial
 keep := fun _ _ _ _ _ _ _ _ => trivial
def KG.lit (hq : ¬ q 3) (s : Nat) (cs : Array Value) (n : Nat) : KG q B nums S where
 rd := [s]
 P := fun _ x v => ∃ gg : Nat, x s = .slice (some ⟨gg, 0, none⟩) n n ∧ Own v gg 3 cs
 loc := fun _ x y _ h hp => by rw [← h s (by simp)]; exact hp
 keep := fun _ _ _ _ _ _ ⟨gg, h1, h2⟩ ht => ⟨gg, h1, ht.oth.2 _ _ _ h2 hq⟩
def KG.val (s : Nat) (f : Value → World → Prop) (hf : ∀ u v v', Oth q v v' → f u v → f u v') : KG q B nums S where
 rd := [s]
 P := fun _ x v => f (x s) v
 loc := fun _ x y _ h hp => by rw [← h s (by simp)]; exact hp
 keep := fun _ _ _ _ _ _ h ht => hf _ _ _ ht.oth h
def kgs (ks : List (KG q B nums S)) (j : Nat) (D : Nat → Bool) (x : Nat → Value) (v : World) : Prop := match ks[j]? with | some k => k.P D x v | none => True
theorem kgs_loc {ks : List (KG q B nums S)} : ∀ j D x y v, (∀ s ∈ (ks.map KG.rd).getD j [], x s = y s) → kgs ks j D x v → kgs ks j D y v := by
 intro j D x y v h hp
 unfold kgs at hp ⊢
 cases hk : ks[j]? with
 | none => trivial
 | some k =>
  rw [hk] at hp
  refine k.loc D x y v (fun s hs => h s ?_) hp
  rw [List.getD_eq_getElem?_getD, List.getElem?_map, hk]
  exact hs
theorem kgs_keep {ks : List (KG q B nums S)} : ∀ i j D x v v', i ≠ j → D i = false → kgs ks j D x v → gtt q B nums S i v v' → kgs ks j (dn D i) x v' := by
 intro i j D x v v' hij hD hp ht
 unfold kgs at hp ⊢
 cases hk : ks[j]? with
 | none => trivial
 | some k =>
  rw [hk] at hp
  exact k.keep i D x v v' hD hp ht
end
def isIn (zs : List Int) (u : Value) : Prop := ∃ z : Int, u = .int .i64 z ∧ z ∈ zs
theorem isIn_small {zs : List Int} (h : ∀ z ∈ zs, -1000 ≤ z ∧ z ≤ 1000001) {z : Int} (hz : z ∈ zs) : small z := h z hz
def chg (e : TypeId) : Prop := e = 141 ∨ e = 34 ∨ e = 36
theorem chg_rd : chg 141 := .inl rfl
theorem chg_ma : chg 34 := .inr (.inl rfl)
theorem chg_int : ¬ chg 3 := by unfold chg; decide
theorem MaM.chg {b : Nat} {w w' : World} {v1 v2 v3 v4 : Value} {m : Ma} (h : MaM b w v1 v2 v3 v4 m) (ho : Oth chg w w') : MaM b w' v1 v2 v3 v4 m :=
 h.oth ho (by unfold Proofs.YtnaagdmaggdbmaaGreatDoor.chg; decide) (by unfold Proofs.YtnaagdmaggdbmaaGreatDoor.chg; decide) (by unfold Proofs.YtnaagdmaggdbmaaGreatDoor.chg; decide) (by unfold Proofs.YtnaagdmaggdbmaaGreatDoor.chg; decide)
abbrev sbE (op box : Nat) (ty : TypeId) (old new : Array Value) : SBx := ⟨op, box, ty, old, fun cs _ => cs = new⟩
theorem sbE_keep {new : Array Value} : ∀ cs v v', Oth chg v v' → (fun (cs : Array Value) (_ : World) => cs = new) cs v → (fun (cs : Array Value) (_ : World) => cs = new) cs v' := fun _ _ _ _ h => h
theorem gstat_one {nums : List Nat} {F : List (Nat × TypeId × Array Value)} {M : World → Prop} {e : SBx} (hn : nums.Nodup) (hF : ∀ f ∈ F, f.2.1 ≠ 141 ∧ e.box ≠ f.1) (hM : ∀ v v', Oth chg v v' → M v → M v') (ht : e.ty ≠ 141) (hk : ∀ cs v v', Oth chg v v' → e.new cs v → e.new cs v') : GStat chg nums F M [e] := by
 refine ⟨hn, fun f hf => ⟨(hF f hf).1, fun s hs => ?_⟩, hM, fun s hs => ?_⟩
 ·rw [List.mem_singleton.1 hs]; exact (hF f hf).2
 ·obtain rfl := List.mem_singleton.1 hs
  exact ⟨ht, fun s hs _ => by rw [List.mem_singleton.1 hs], fun s hs _ => List.mem_singleton.1 hs, hk⟩
end Go.Proofs.YtnaagdmaggdbmaaGreatDoor
namespace Go.Proofs.YtnaagdmaggdbmaaGreatDoor
open Go.RowKit
def kb (a b : Key) : Bool := decide (a.1 < b.1) || (decide (a.1 = b.1) && decide (a.2 < b.2))
end Go.Proofs.YtnaagdmaggdbmaaGreatDoor
namespace Go.Proofs.YtnaagdmaggdbmaaGreatDoor
open Go.RowKit
set_option maxRecDepth 1000000
set_option linter.unusedVariables false
set_option linter.unusedSimpArgs false
theorem Bytes.up {B B' : Nat} {w : World} {A : Option Addr} {n : Nat} (h : Bytes B w A n) (hB : B ≤ B') : Bytes B' w A n :=
 ⟨fun j hj => let ⟨b, o, v, e, hb, hc, h1⟩ := h.at_ j hj; ⟨b, o, v, e, by omega, hc, h1⟩⟩
end Go.Proofs.YtnaagdmaggdbmaaGreatDoor
namespace Go.Proofs.YtnaagdmaggdbmaaGreatDoor
open Go.RowKit
set_option maxRecDepth 1000000
set_option linter.unusedVariables false
set_option linter.unusedSimpArgs false
def TBP (w : World) (v : Value) (w' : World) : Prop := ∃ (m : Ma) (v1 v2 v3 v4 : Value) (p o b n : Int), v = .tuple #[.agg #[v1, v2, v3, .int .i64 m.c.hand, .int .i64 m.g.count, .int .i64 m.g.next, .int .i64 m.g.round, v4, .int .i64 m.sp], .int .i64 p, .int .i64 o, .int .i64 b, .int .i64 n] ∧ MaM w.heap.size w' v1 v2 v3 v4 m ∧ Sz 19 m ∧ small p ∧ small o ∧ small b ∧ small n ∧ Below w.heap.size w w'
set_option maxHeartbeats 4000000 in
theorem DrawTouchBytes_any (A : Option Addr) (n c : Nat) (w : World) (hb : Bytes w.heap.size w A n) (hc : n ≤ c) (hn : n ≤ 1048576) :
  Calls Tryz.prog 35 #[.slice A n c] w (Post2 fun v w' => TBP w v w') := by
 have ho := Own.new_ w 34 #[.slice none 0 0, .slice none 0 0, .slice none 0 0, .int .i64 0, .int .i64 0, .int .i64 0, .int .i64 0, .slice none 0 0, .int .i64 0]
 have hb0 : Below w.heap.size w (w.alloc (.cells #[.slice none 0 0, .slice none 0 0, .slice none 0 0, .int .i64 0, .int .i64 0, .int .i64 0, .int .i64 0, .slice none 0 0, .int .i64 0] 34)) := bA bR
 have hs0 : (w.alloc (.cells #[.slice none 0 0, .slice none 0 0, .slice none 0 0, .int .i64 0, .int .i64 0, .int .i64 0, .int .i64 0, .slice none 0 0, .int .i64 0] 34)).heap.size = w.heap.size + 1 := by simp
 generalize hW : w.alloc (.cells #[.slice none 0 0, .slice none 0 0, .slice none 0 0, .int .i64 0, .int .i64 0, .int .i64 0, .int .i64 0, .slice none 0 0, .int .i64 0] 34) = W0 at ho hb0 hs0
 have HBY := Lib.hid hb
 have HN := Lib.hid ho
 have HB := Lib.hid hb0
 have KC := Lib.hid (l10Case_any A n c W0 ((hb.keep fun q hq => hb0.cell hq).up (by omega)) hc hn)
 clear ho hb0 hb
 go_enter Tryz.func35, Tryz.ntmps35
 go_wp2_with fail
 refine KC.out.mono ?_
 rintro e w1 ⟨_, rfl, m, v1, v2, v3, v4, rfl, hM, hz, hb1⟩
 obtain ⟨A1, c1, rfl, _⟩ := hM.t.b
 obtain ⟨A2, c2, rfl, _⟩ := hM.t.f
 obtain ⟨A3, c3, rfl, _⟩ := hM.l
 obtain ⟨A4, c4, rfl, _⟩ := hM.o
 have hs1 := hb1.size
 have hn := HN.out.below hb1
 have hx := Own.new_ w1 34 #[.slice A1 m.t.bs.length c1, .slice A2 m.t.fs.length c2, .slice A3 m.c.ls.length c3, .int .i64 m.c.hand, .int .i64 m.g.count, .int .i64 m.g.next, .int .i64 m.g.round, .slice A4 m.g.os.length c4, .int .i64 m.sp]
 have hb2 : Below w1.heap.size w1 (w1.alloc (.cells #[.slice A1 m.t.bs.length c1, .slice A2 m.t.fs.length c2, .slice A3 m.c.ls.length c3, .int .i64 m.c.hand, .int .i64 m.g.count, .int .i64 m.g.next, .int .i64 m.g.round, .slice A4 m.g.os.length c4, .int .i64 m.sp] 34)) := bA bR
 have hs2 : (w1.alloc (.cells #[.slice A1 m.t.bs.length c1, .slice A2 m.t.fs.length c2, .slice A3 m.c.ls.length c3, .int .i64 m.c.hand, .int .i64 m.g.count, .int .i64 m.g.next, .int .i64 m.g.round, .slice A4 m.g.os.length c4, .int .i64 m.sp] 34)).heap.size = w1.heap.size + 1 := by simp
 generalize hW2 : w1.alloc (.cells #[.slice A1 m.t.bs.length c1, .slice A2 m.t.fs.length c2, .slice A3 m.c.ls.length c3, .int .i64 m.c.hand, .int .i64 m.g.count, .int .i64 m.g.next, .int .i64 m.g.round, .slice A4 m.g.os.length c4, .int .i64 m.sp] 34) = w2 at hx hb2 hs2
 have HN2 := Lib.hid (hn.below hb2)
 have HX := Lib.hid hx
 have HM := Lib.hid ((hM.now hb2).mono (show w.heap.size ≤ W0.heap.size by omega))
 have HB2 := Lib.hid (bT (bT HB.out hb1) hb2)
 have HZ := Lib.hid hz
 clear hM hb1 hb2 hn hx hz HN HB KC hW
 have hmb2 : w.heap.size + 1 ≤ w1.heap.size := by omega
 generalize hmb : w1.heap.size = mb at *
 have KO := Lib.hid (l12Open_low w.heap.size A n c w2 (HBY.out.keep fun q hq => HB2.out.cell hq) (by omega) hc hn)
 go_wp2_with fail
 try rw [hW2]
 refine KO.out.mono ?_
 rintro e w3 ⟨rfl, hrd, hb3⟩
 obtain ⟨g, hg⟩ : ∃ g, mb + 1 = g := ⟨_, rfl⟩
 rw [hs2, hg] at hrd ⊢
 have HN3 := Lib.hid (HN2.out.below hb3)
 have HX3 := Lib.hid (HX.out.below hb3)
 have HM3 := Lib.hid (HM.out.now hb3)
 have HB3 := Lib.hid (bT HB2.out hb3)
 have HR3 := Lib.hid hrd
 clear HN2 HX HM HB2 KO hrd hb3 hW2
 go_wp2
 have hst : GStat chg [3, 6, 9, 12] [(mb, 34, #[.slice A1 m.t.bs.length c1, .slice A2 m.t.fs.length c2, .slice A3 m.c.ls.length c3, .int .i64 m.c.hand, .int .i64 m.g.count, .int .i64 m.g.next, .int .i64 m.g.round, .slice A4 m.g.os.length c4, .int .i64 m.sp])] (fun v => MaM w.heap.size v (.slice A1 m.t.bs.length c1) (.slice A2 m.t.fs.length c2) (.slice A3 m.c.ls.length c3) (.slice A4 m.g.os.length c4) m) [sbE 13 (w.heap.size) 34 #[.slice none 0 0, .slice none 0 0, .slice none 0 0, .int .i64 0, .int .i64 0, .int .i64 0, .int .i64 0, .slice none 0 0, .int .i64 0] #[.slice A1 m.t.bs.length c1, .slice A2 m.t.fs.length c2, .slice A3 m.c.ls.length c3, .int .i64 m.c.hand, .int .i64 m.g.count, .int .i64 m.g.next, .int .i64 m.g.round, .slice A4 m.g.os.length c4, .int .i64 m.sp]] := by
  refine gstat_one (by decide) ?_ (fun _ _ ho h => h.chg ho) (show 34 ≠ 141 by decide) sbE_keep
  ·intro f hf
   simp only [List.mem_cons, List.not_mem_nil, or_false] at hf
   subst hf
   ·exact ⟨show 34 ≠ 141 by decide, show w.heap.size ≠ mb by omega⟩
 refine wp_region_rel4 (by kernel_rfl) [13, 14, 15, 16, 17, 18, 19, 20, 21, 22, 23, 24, 25, 3, 4, 5, 6] [[13], [14], [15], [16], [17], [18], [19], [20], [21], [22], [23], [24], [25], [], [3], [4], [5], [6]] (GC (w.heap.size) w [(g, 0)] [3, 6, 9, 12] [(mb, 34, #[.slice A1 m.t.bs.length c1, .slice A2 m.t.fs.length c2, .slice A3 m.c.ls.length c3, .int .i64 m.c.hand, .int .i64 m.g.count, .int .i64 m.g.next, .int .i64 m.g.round, .slice A4 m.g.os.length c4, .int .i64 m.sp])] (fun v => MaM w.heap.size v (.slice A1 m.t.bs.length c1) (.slice A2 m.t.fs.length c2) (.slice A3 m.c.ls.length c3) (.slice A4 m.g.os.length c4) m) [sbE 13 (w.heap.size) 34 #[.slice none 0 0, .slice none 0 0, .slice none 0 0, .int .i64 0, .int .i64 0, .int .i64 0, .int .i64 0, .slice none 0 0, .int .i64 0] #[.slice A1 m.t.bs.length c1, .slice A2 m.t.fs.length c2, .slice A3 m.c.ls.length c3, .int .i64 m.c.hand, .int .i64 m.g.count, .int .i64 m.g.next, .int .i64 m.g.round, .slice A4 m.g.os.length c4, .int .i64 m.sp]]) (kgs (q := chg) (B := w.heap.size) (nums := [3, 6, 9, 12]) (S := [sbE 13 (w.heap.size) 34 #[.slice none 0 0, .slice none 0 0, .slice none 0 0, .int .i64 0, .int .i64 0, .int .i64 0, .int .i64 0, .slice none 0 0, .int .i64 0] #[.slice A1 m.t.bs.length c1, .slice A2 m.t.fs.length c2, .slice A3 m.c.ls.length c3, .int .i64 m.c.hand, .int .i64 m.g.count, .int .i64 m.g.next, .int .i64 m.g.round, .slice A4 m.g.os.length c4, .int .i64 m.sp]]) [KG.eq 13 (.agg #[.slice A1 m.t.bs.length c1, .slice A2 m.t.fs.length c2, .slice A3 m.c.ls.length c3, .int .i64 m.c.hand, .int .i64 m.g.count, .int .i64 m.g.next, .int .i64 m.g.round, .slice A4 m.g.os.length c4, .int .i64 m.sp]), KG.eq 14 (.pointer (some ⟨g, 0, none⟩)), KG.lit chg_int 15 #[.int .i64 1, .int .i64 2, .int .i64 3, .int .i64 200, .int .i64 255] 5, KG.sat 16 (isIn [1, 2, 3, 200, 255]), KG.eq 17 (.pointer (some ⟨g, 0, none⟩)), KG.lit chg_int 18 #[.int .i64 0, .int .i64 60, .int .i64 5, .int .i64 64] 4, KG.sat 19 (isIn [0, 60, 5, 64]), KG.eq 20 (.pointer (some ⟨g, 0, none⟩)), KG.lit chg_int 21 #[.int .i64 1, .int .i64 10, .int .i64 70, .int .i64 130, .int .i64 200, .int .i64 0] 6, KG.sat 22 (isIn [1, 10, 70, 130, 200, 0]), KG.eq 23 (.pointer (some ⟨g, 0, none⟩)), KG.lit chg_int 24 #[.int .i64 1, .int .i64 0, .int .i64 2, .int .i64 8] 4, KG.sat 25 (isIn [1, 0, 2, 8]), KG.no, KG.sat 3 (isIn [1, 2, 3, 200, 255]), KG.sat 4 (isIn [0, 60, 5, 64]), KG.sat 5 (isIn [1, 10, 70, 130, 200, 0]), KG.sat 6 (isIn [1, 0, 2, 8])]) (gtt chg (w.heap.size) [3, 6, 9, 12] [sbE 13 (w.heap.size) 34 #[.slice none 0 0, .slice none 0 0, .slice none 0 0, .int .i64 0, .int .i64 0, .int .i64 0, .int .i64 0, .slice none 0 0, .int .i64 0] #[.slice A1 m.t.bs.length c1, .slice A2 m.t.fs.length c2, .slice A3 m.c.ls.length c3, .int .i64 m.c.hand, .int .i64 m.g.count, .int .i64 m.g.next, .int .i64 m.g.round, .slice A4 m.g.os.length c4, .int .i64 m.sp]]) (by kernel_rfl) ?_ (kgs_loc (q := chg) (B := w.heap.size) (nums := [3, 6, 9, 12]) (S := [sbE 13 (w.heap.size) 34 #[.slice none 0 0, .slice none 0 0, .slice none 0 0, .int .i64 0, .int .i64 0, .int .i64 0, .int .i64 0, .slice none 0 0, .int .i64 0] #[.slice A1 m.t.bs.length c1, .slice A2 m.t.fs.length c2, .slice A3 m.c.ls.length c3, .int .i64 m.c.hand, .int .i64 m.g.count, .int .i64 m.g.next, .int .i64 m.g.round, .slice A4 m.g.os.length c4, .int .i64 m.sp]]) (ks := [KG.eq 13 (.agg #[.slice A1 m.t.bs.length c1, .slice A2 m.t.fs.length c2, .slice A3 m.c.ls.length c3, .int .i64 m.c.hand, .int .i64 m.g.count, .int .i64 m.g.next, .int .i64 m.g.round, .slice A4 m.g.os.length c4, .int .i64 m.sp]), KG.eq 14 (.pointer (some ⟨g, 0, none⟩)), KG.lit chg_int 15 #[.int .i64 1, .int .i64 2, .int .i64 3, .int .i64 200, .int .i64 255] 5, KG.sat 16 (isIn [1, 2, 3, 200, 255]), KG.eq 17 (.pointer (some ⟨g, 0, none⟩)), KG.lit chg_int 18 #[.int .i64 0, .int .i64 60, .int .i64 5, .int .i64 64] 4, KG.sat 19 (isIn [0, 60, 5, 64]), KG.eq 20 (.pointer (some ⟨g, 0, none⟩)), KG.lit chg_int 21 #[.int .i64 1, .int .i64 10, .int .i64 70, .int .i64 130, .int .i64 200, .int .i64 0] 6, KG.sat 22 (isIn [1, 10, 70, 130, 200, 0]), KG.eq 23 (.pointer (some ⟨g, 0, none⟩)), KG.lit chg_int 24 #[.int .i64 1, .int .i64 0, .int .i64 2, .int .i64 8] 4, KG.sat 25 (isIn [1, 0, 2, 8]), KG.no, KG.sat 3 (isIn [1, 2, 3, 200, 255]), KG.sat 4 (isIn [0, 60, 5, 64]), KG.sat 5 (isIn [1, 10, 70, 130, 200, 0]), KG.sat 6 (isIn [1, 0, 2, 8])])) kgs_keep ?_ ?_
 ·exact ⟨bD HB3.out, (by intro e he; simp only [List.mem_cons, List.not_mem_nil, or_false] at he; subst he; exact ⟨_, Nat.le_add_right _ _, rdr_below HR3.out (bD bR)⟩), (by intro e he; simp only [List.mem_cons, List.not_mem_nil, or_false] at he; subst he; exact HX3.out.drew), (HM3.out.now (bD bR)), (by intro e he; simp only [List.mem_cons, List.not_mem_nil, or_false] at he; subst he; exact ⟨_, HN3.out.drew, fun _ => rfl, fun h => absurd h (by decide)⟩)⟩
 ·intro i o ho D x v hD hC hd K hK
  match i, ho with
  | 0, ho =>
   cases ho
   simp only [fillA, Act.put, List.setIfInBounds_toArray, List.set_cons_zero, List.set_cons_succ] at hK ⊢
   have hx : Own v (mb) 34 #[.slice A1 m.t.bs.length c1, .slice A2 m.t.fs.length c2, .slice A3 m.c.ls.length c3, .int .i64 m.c.hand, .int .i64 m.g.count, .int .i64 m.g.next, .int .i64 m.g.round, .slice A4 m.g.os.length c4, .int .i64 m.sp] := hC.ob _ List.mem_cons_self
   obtain ⟨z0, z1, z2, z3, z4, z5, z6, z7, z8⟩ := cells9 hx
   go_simp
   exact hK _ _ GT.same (hC.step hst hD GT.same rfl) rfl
  | 1, ho =>
   cases ho
   simp only [fillA, Act.put, List.setIfInBounds_toArray, List.set_cons_zero, List.set_cons_succ] at hK ⊢
   go_simp
   exact hK _ _ GT.same (hC.step hst hD GT.same rfl) rfl
  | 2, ho =>
   cases ho
   simp only [fillA, Act.put, List.setIfInBounds_toArray, List.set_cons_zero, List.set_cons_succ] at hK ⊢
   go_simp
   exact hK _ _ (GT.below (bA bR) hC.bl.size) (hC.step hst hD (GT.below (bA bR) hC.bl.size) rfl) ⟨_, rfl, Own.new_ _ _ _⟩
  | 3, ho =>
   cases ho
   simp only [fillA, Act.put, List.setIfInBounds_toArray, List.set_cons_zero, List.set_cons_succ] at hK ⊢
   have d0 := hd 1 ⟨⟨1, .data⟩, by simp, rfl, rfl⟩
   change x 14 = .pointer (some ⟨g, 0, none⟩) at d0
   have d1 := hd 2 ⟨⟨2, .data⟩, by simp, rfl, rfl⟩
   obtain ⟨gd1, d1, od1⟩ := d1
   change x 15 = .slice (some ⟨gd1, 0, none⟩) 5 5 at d1
   simp only [d0, d1] at hK ⊢
   obtain ⟨p', hp'', hrd⟩ := hC.rd (g, 0) List.mem_cons_self
   have hp' : p' ≤ 0 + 1000 * cn D [3, 6, 9, 12] := hp''
   have hcn : cn D [3, 6, 9, 12] ≤ 4 := cn_le D _
   obtain ⟨Ar, nr, cr, hor, _⟩ := hrd.ok
   go_wp2_with fail
   refine (num_any w.heap.size g p' gd1 [1, 2, 3, 200, 255] v hrd od1 (od1.ne hor (by decide)) (by omega) (by simp) (by simp)).mono ?_
   rintro e v' ⟨z, rfl, hz, hrd', hgr⟩
   go_simp
   exact hK _ _ (GT.read chg_rd hrd hrd' (by omega) hgr) (hC.step hst hD (GT.read chg_rd hrd hrd' (by omega) hgr) rfl) ⟨z, rfl, hz⟩
  | 4, ho =>
   cases ho
   simp only [fillA, Act.put, List.setIfInBounds_toArray, List.set_cons_zero, List.set_cons_succ] at hK ⊢
   go_simp
   exact hK _ _ GT.same (hC.step hst hD GT.same rfl) rfl
  | 5, ho =>
   cases ho
   simp only [fillA, Act.put, List.setIfInBounds_toArray, List.set_cons_zero, List.set_cons_succ] at hK ⊢
   go_simp
   exact hK _ _ (GT.below (bA bR) hC.bl.size) (hC.step hst hD (GT.below (bA bR) hC.bl.size) rfl) ⟨_, rfl, Own.new_ _ _ _⟩
  | 6, ho =>
   cases ho
   simp only [fillA, Act.put, List.setIfInBounds_toArray, List.set_cons_zero, List.set_cons_succ] at hK ⊢
   have d0 := hd 4 ⟨⟨4, .data⟩, by simp, rfl, rfl⟩
   change x 17 = .pointer (some ⟨g, 0, none⟩) at d0
   have d1 := hd 5 ⟨⟨5, .data⟩, by simp, rfl, rfl⟩
   obtain ⟨gd1, d1, od1⟩ := d1
   change x 18 = .slice (some ⟨gd1, 0, none⟩) 4 4 at d1
   simp only [d0, d1] at hK ⊢
   obtain ⟨p', hp'', hrd⟩ := hC.rd (g, 0) List.mem_cons_self
   have hp' : p' ≤ 0 + 1000 * cn D [3, 6, 9, 12] := hp''
   have hcn : cn D [3, 6, 9, 12] ≤ 4 := cn_le D _
   obtain ⟨Ar, nr, cr, hor, _⟩ := hrd.ok
   go_wp2_with fail
   refine (num_any w.heap.size g p' gd1 [0, 60, 5, 64] v hrd od1 (od1.ne hor (by decide)) (by omega) (by simp) (by simp)).mono ?_
   rintro e v' ⟨z, rfl, hz, hrd', hgr⟩
   go_simp
   exact hK _ _ (GT.read chg_rd hrd hrd' (by omega) hgr) (hC.step hst hD (GT.read chg_rd hrd hrd' (by omega) hgr) rfl) ⟨z, rfl, hz⟩
  | 7, ho =>
   cases ho
   simp only [fillA, Act.put, List.setIfInBounds_toArray, List.set_cons_zero, List.set_cons_succ] at hK ⊢
   go_simp
   exact hK _ _ GT.same (hC.step hst hD GT.same rfl) rfl
  | 8, ho =>
   cases ho
   simp only [fillA, Act.put, List.setIfInBounds_toArray, List.set_cons_zero, List.set_cons_succ] at hK ⊢
   go_simp
   exact hK _ _ (GT.below (bA bR) hC.bl.size) (hC.step hst hD (GT.below (bA bR) hC.bl.size) rfl) ⟨_, rfl, Own.new_ _ _ _⟩
  | 9, ho =>
   cases ho
   simp only [fillA, Act.put, List.setIfInBounds_toArray, List.set_cons_zero, List.set_cons_succ] at hK ⊢
   have d0 := hd 7 ⟨⟨7, .data⟩, by simp, rfl, rfl⟩
   change x 20 = .pointer (some ⟨g, 0, none⟩) at d0
   have d1 := hd 8 ⟨⟨8, .data⟩, by simp, rfl, rfl⟩
   obtain ⟨gd1, d1, od1⟩ := d1
   change x 21 = .slice (some ⟨gd1, 0, none⟩) 6 6 at d1
   simp only [d0, d1] at hK ⊢
   obtain ⟨p', hp'', hrd⟩ := hC.rd (g, 0) List.mem_cons_self
   have hp' : p' ≤ 0 + 1000 * cn D [3, 6, 9, 12] := hp''
   have hcn : cn D [3, 6, 9, 12] ≤ 4 := cn_le D _
   obtain ⟨Ar, nr, cr, hor, _⟩ := hrd.ok
   go_wp2_with fail
   refine (num_any w.heap.size g p' gd1 [1, 10, 70, 130, 200, 0] v hrd od1 (od1.ne hor (by decide)) (by omega) (by simp) (by simp)).mono ?_
   rintro e v' ⟨z, rfl, hz, hrd', hgr⟩
   go_simp
   exact hK _ _ (GT.read chg_rd hrd hrd' (by omega) hgr) (hC.step hst hD (GT.read chg_rd hrd hrd' (by omega) hgr) rfl) ⟨z, rfl, hz⟩
  | 10, ho =>
   cases ho
   simp only [fillA, Act.put, List.setIfInBounds_toArray, List.set_cons_zero, List.set_cons_succ] at hK ⊢
   go_simp
   exact hK _ _ GT.same (hC.step hst hD GT.same rfl) rfl
  | 11, ho =>
   cases ho
   simp only [fillA, Act.put, List.setIfInBounds_toArray, List.set_cons_zero, List.set_cons_succ] at hK ⊢
   go_simp
   exact hK _ _ (GT.below (bA bR) hC.bl.size) (hC.step hst hD (GT.below (bA bR) hC.bl.size) rfl) ⟨_, rfl, Own.new_ _ _ _⟩
  | 12, ho =>
   cases ho
   simp only [fillA, Act.put, List.setIfInBounds_toArray, List.set_cons_zero, List.set_cons_succ] at hK ⊢
   have d0 := hd 10 ⟨⟨10, .data⟩, by simp, rfl, rfl⟩
   change x 23 = .pointer (some ⟨g, 0, none⟩) at d0
   have d1 := hd 11 ⟨⟨11, .data⟩, by simp, rfl, rfl⟩
   obtain ⟨gd1, d1, od1⟩ := d1
   change x 24 = .slice (some ⟨gd1, 0, none⟩) 4 4 at d1
   simp only [d0, d1] at hK ⊢
   obtain ⟨p', hp'', hrd⟩ := hC.rd (g, 0) List.mem_cons_self
   have hp' : p' ≤ 0 + 1000 * cn D [3, 6, 9, 12] := hp''
   have hcn : cn D [3, 6, 9, 12] ≤ 4 := cn_le D _
   obtain ⟨Ar, nr, cr, hor, _⟩ := hrd.ok
   go_wp2_with fail
   refine (num_any w.heap.size g p' gd1 [1, 0, 2, 8] v hrd od1 (od1.ne hor (by decide)) (by omega) (by simp) (by simp)).mono ?_
   rintro e v' ⟨z, rfl, hz, hrd', hgr⟩
   go_simp
   exact hK _ _ (GT.read chg_rd hrd hrd' (by omega) hgr) (hC.step hst hD (GT.read chg_rd hrd hrd' (by omega) hgr) rfl) ⟨z, rfl, hz⟩
  | 13, ho =>
   cases ho
   simp only [fillA, Act.put, List.setIfInBounds_toArray, List.set_cons_zero, List.set_cons_succ] at hK ⊢
   have d0 := hd 0 ⟨⟨0, .data⟩, by simp, rfl, rfl⟩
   change x 13 = .agg #[.slice A1 m.t.bs.length c1, .slice A2 m.t.fs.length c2, .slice A3 m.c.ls.length c3, .int .i64 m.c.hand, .int .i64 m.g.count, .int .i64 m.g.next, .int .i64 m.g.round, .slice A4 m.g.os.length c4, .int .i64 m.sp] at d0
   obtain ⟨cs, hob, hold, _⟩ := hC.st (sbE 13 (w.heap.size) 34 #[.slice none 0 0, .slice none 0 0, .slice none 0 0, .int .i64 0, .int .i64 0, .int .i64 0, .int .i64 0, .slice none 0 0, .int .i64 0] #[.slice A1 m.t.bs.length c1, .slice A2 m.t.fs.length c2, .slice A3 m.c.ls.length c3, .int .i64 m.c.hand, .int .i64 m.g.count, .int .i64 m.g.next, .int .i64 m.g.round, .slice A4 m.g.os.length c4, .int .i64 m.sp]) List.mem_cons_self
   obtain rfl := hold hD
   change Own v (w.heap.size) 34 #[.slice none 0 0, .slice none 0 0, .slice none 0 0, .int .i64 0, .int .i64 0, .int .i64 0, .int .i64 0, .slice none 0 0, .int .i64 0] at hob
   obtain ⟨r0x, r1x, r2x, r3x, r4x, r5x, r6x, r7x, r8x⟩ := cells9 hob
   obtain ⟨z0x, z1x, z2x, z3x, z4x, z5x, z6x, z7x, z8x⟩ := free9 hob
   have hlo := hob.lt
   simp only [d0] at hK ⊢
   go_simp
   refine hK undef _ ?_ ?_ trivial
   ·exact GT.set9 hob chg_ma (by decide) (by omega) _ _ _ _ _ _ _ _ _
   ·exact hC.store (e0 := sbE 13 (w.heap.size) 34 #[.slice none 0 0, .slice none 0 0, .slice none 0 0, .int .i64 0, .int .i64 0, .int .i64 0, .int .i64 0, .slice none 0 0, .int .i64 0] #[.slice A1 m.t.bs.length c1, .slice A2 m.t.fs.length c2, .slice A3 m.c.ls.length c3, .int .i64 m.c.hand, .int .i64 m.g.count, .int .i64 m.g.next, .int .i64 m.g.round, .slice A4 m.g.os.length c4, .int .i64 m.sp]) hst hD (GT.set9 hob chg_ma (by decide) (by omega) _ _ _ _ _ _ _ _ _) List.mem_cons_self rfl (hob.set9 _ _ _ _ _ _ _ _ _) rfl
  | 14, ho =>
   cases ho
   simp only [fillA, Act.put, List.setIfInBounds_toArray, List.set_cons_zero, List.set_cons_succ] at hK ⊢
   have d0 := hd 3 ⟨⟨3, .data⟩, by simp, rfl, rfl⟩
   obtain ⟨nd0, d0, hd0⟩ := d0
   change x 16 = .int .i64 nd0 at d0
   simp only [d0] at hK ⊢
   go_simp
   exact hK _ _ GT.same (hC.step hst hD GT.same rfl) ⟨_, rfl, hd0⟩
  | 15, ho =>
   cases ho
   simp only [fillA, Act.put, List.setIfInBounds_toArray, List.set_cons_zero, List.set_cons_succ] at hK ⊢
   have d0 := hd 6 ⟨⟨6, .data⟩, by simp, rfl, rfl⟩
   obtain ⟨nd0, d0, hd0⟩ := d0
   change x 19 = .int .i64 nd0 at d0
   simp only [d0] at hK ⊢
   go_simp
   exact hK _ _ GT.same (hC.step hst hD GT.same rfl) ⟨_, rfl, hd0⟩
  | 16, ho =>
   cases ho
   simp only [fillA, Act.put, List.setIfInBounds_toArray, List.set_cons_zero, List.set_cons_succ] at hK ⊢
   have d0 := hd 9 ⟨⟨9, .data⟩, by simp, rfl, rfl⟩
   obtain ⟨nd0, d0, hd0⟩ := d0
   change x 22 = .int .i64 nd0 at d0
   simp only [d0] at hK ⊢
   go_simp
   exact hK _ _ GT.same (hC.step hst hD GT.same rfl) ⟨_, rfl, hd0⟩
  | 17, ho =>
   cases ho
   simp only [fillA, Act.put, List.setIfInBounds_toArray, List.set_cons_zero, List.set_cons_succ] at hK ⊢
   have d0 := hd 12 ⟨⟨12, .data⟩, by simp, rfl, rfl⟩
   obtain ⟨nd0, d0, hd0⟩ := d0
   change x 25 = .int .i64 nd0 at d0
   simp only [d0] at hK ⊢
   go_simp
   exact hK _ _ GT.same (hC.step hst hD GT.same rfl) ⟨_, rfl, hd0⟩
  | _ + 18, ho => simp at ho
 intro D xa wz hD hC hd
 obtain ⟨cs0, ho0, _, hn0⟩ := hC.st (sbE 13 (w.heap.size) 34 #[.slice none 0 0, .slice none 0 0, .slice none 0 0, .int .i64 0, .int .i64 0, .int .i64 0, .int .i64 0, .slice none 0 0, .int .i64 0] #[.slice A1 m.t.bs.length c1, .slice A2 m.t.fs.length c2, .slice A3 m.c.ls.length c3, .int .i64 m.c.hand, .int .i64 m.g.count, .int .i64 m.g.next, .int .i64 m.g.round, .slice A4 m.g.os.length c4, .int .i64 m.sp]) List.mem_cons_self
 have hn0 := hn0 (hD 13 (by decide))
 change Own wz (w.heap.size) 34 cs0 at ho0
 change cs0 = #[.slice A1 m.t.bs.length c1, .slice A2 m.t.fs.length c2, .slice A3 m.c.ls.length c3, .int .i64 m.c.hand, .int .i64 m.g.count, .int .i64 m.g.next, .int .i64 m.g.round, .slice A4 m.g.os.length c4, .int .i64 m.sp] at hn0
 subst hn0
 have dA3 := hd 14 (by decide)
 obtain ⟨r3, dA3, hr3⟩ := dA3
 change xa 3 = .int .i64 r3 at dA3
 have dA4 := hd 15 (by decide)
 obtain ⟨r4, dA4, hr4⟩ := dA4
 change xa 4 = .int .i64 r4 at dA4
 have dA5 := hd 16 (by decide)
 obtain ⟨r5, dA5, hr5⟩ := dA5
 change xa 5 = .int .i64 r5 at dA5
 have dA6 := hd 17 (by decide)
 obtain ⟨r6, dA6, hr6⟩ := dA6
 change xa 6 = .int .i64 r6 at dA6
 simp only [fillA, Act.put, List.setIfInBounds_toArray, List.set_cons_zero, List.set_cons_succ, dA3, dA4, dA5, dA6]
 have HBL := Lib.hid hC.bl
 have HMM := Lib.hid hC.mm
 clear hd hD dA3 dA4 dA5 dA6
 obtain ⟨p0t, p1t, p2t, p3t, p4t, p5t, p6t, p7t, p8t⟩ := cells9 ho0
 clear ho0 hC
 go_wp2
 refine bodyPost_ret (v := .tuple #[.agg #[.slice A1 m.t.bs.length c1, .slice A2 m.t.fs.length c2, .slice A3 m.c.ls.length c3, .int .i64 m.c.hand, .int .i64 m.g.count, .int .i64 m.g.next, .int .i64 m.g.round, .slice A4 m.g.os.length c4, .int .i64 m.sp], .int .i64 r3, .int .i64 r4, .int .i64 r5, .int .i64 r6]) (by simp [results, Tryz.results35, go_sem, p0t, p1t, p2t, p3t, p4t, p5t, p6t, p7t, p8t]) rfl ⟨_, rfl, m, _, _, _, _, r3, r4, r5, r6, rfl, HMM.out, HZ.out, isIn_small (by decide) hr3, isIn_small (by decide) hr4, isIn_small (by decide) hr5, isIn_small (by decide) hr6, HBL.out⟩
end Go.Proofs.YtnaagdmaggdbmaaGreatDoor
