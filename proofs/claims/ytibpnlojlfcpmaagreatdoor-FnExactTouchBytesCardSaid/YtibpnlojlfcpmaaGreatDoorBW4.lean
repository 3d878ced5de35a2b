/- A part of the proofs of this seat: Dpr, Gn, W3, W4, W5. -/
import Derived.Deep.RegionHeldLaw
import Derived.StillTailTactics
import Derived.Below
import Derived.Test.YtibpnlojlfcpmaaGreatDoorBReg
import Derived.Test.YtibpnlojlfcpmaaGreatDoorBTpS
set_option linter.unusedVariables false
set_option linter.unusedSimpArgs false
set_option maxRecDepth 1000000
namespace Go.Proofs.YtibpnlojlfcpmaaGreatDoor
open Go.RowKit
theorem SlM.gr {α : Type} {E : Enc α} {e : TypeId} {B B' : Nat} {w w' : World} {g p : Nat} {v : Value} {l : List α} (h : SlM E e B w v l) (hr : Rdr B' w g p) (hg : w.grownBy w' (some g)) (hne : 172 ≠ e) : SlM E e B w' v l := by
 obtain ⟨A, n, c, ho, _⟩ := hr.ok
 exact h.oth (oth_gr hg ho) (fun h => hne h.symm)
theorem rdr_far {B : Nat} {w : World} {g p b i : Nat} {u : Value} (h : Rdr B w g p) (hne : g ≠ b) (hB : B ≤ b) : Rdr B (w.setCell ⟨b, i, none⟩ u) g p := by
 obtain ⟨Ar, nr, cr, hor, hby, hn, hBg⟩ := h.ok
 exact ⟨Ar, nr, cr, hor.far hne, hby.keep fun q hq => World.cell?_setCell_other w ⟨b, i, none⟩ q _ (fun e => by subst e; exact absurd hq (by simp; omega)), hn, hBg⟩
def C5 (B g q rb gb : Nat) (t : Tg) (A2 : Option Addr) (c2 : Nat) (w : World) (D : Nat → Bool) (v : World) : Prop :=
 Rdr B v g (q + cn D [3, 5]) ∧ w.grownBy v (some g) ∧ Own v rb 46 #[.int .i64 0, .int .i64 0, .int .i64 0, .slice none 0 0] ∧
  (D 10 = false → Own v gb 46 #[.int .i64 t.count, .int .i64 t.next, .int .i64 t.round, .slice A2 t.os.length c2]) ∧ (D 8 = false → v.ownsRow (w.heap.size + 2) 126 2 (.slice A2 t.os.length c2) t.os.length (owE.cells t.os))
section
variable {B g q rb gb : Nat} {t : Tg} {A2 : Option Addr} {c2 i : Nat} {w v v' : World} {D : Nat → Bool}
theorem C5.same (h : C5 B g q rb gb t A2 c2 w D v) (h1 : i ∉ [3, 5]) (h2 : i ≠ 10) (h3 : i ≠ 8) : C5 B g q rb gb t A2 c2 w (fun j => if j = i then true else D j) v := by
 obtain ⟨a, b, c, d, e⟩ := h
 exact ⟨by rw [cn_same h1]; exact a, b, c, fun hd => d (upd_f h2 hd), fun hd => e (upd_f h3 hd)⟩
theorem C5.below (h : C5 B g q rb gb t A2 c2 w D v) (hb : Below v.heap.size v v') (h1 : i ∉ [3, 5]) (h2 : i ≠ 10) (h3 : i ≠ 8) : C5 B g q rb gb t A2 c2 w (fun j => if j = i then true else D j) v' := by
 obtain ⟨a, b, c, d, e⟩ := h
 exact ⟨by rw [cn_same h1]; exact rdr_below a hb, gT b (gr_below hb), c.below hb, fun hd => (d (upd_f h2 hd)).below hb, fun hd => own_kept (e (upd_f h3 hd)) hb⟩
end
theorem MineE.frs {e : TypeId} {B : Nat} {w : World} {g : Nat} {l : List Fr} (h : MineE frE e B w (some ⟨g, 0, none⟩) l) {k : Nat} {x : Fr} (hk : l[k]? = some x) (b : Int) :
  MineE frE e B (w.setCell ⟨g, k * 5 + 1, none⟩ (.int .i64 b)) (some ⟨g, 0, none⟩) (l.set k { x with s := b }) := by
 refine h.wcell hk { x with s := b } 1 (.int .i64 b) (by decide) (fun j u hj => ?_)
 simp only [frE] at hj ⊢
 match j, hj with
 | 0, hj => exact .inr ⟨by decide, hj⟩
 | 1, hj => simp at hj; exact .inl ⟨rfl, hj.symm⟩
 | 2, hj => exact .inr ⟨by decide, hj⟩
 | 3, hj => exact .inr ⟨by decide, hj⟩
 | 4, hj => exact .inr ⟨by decide, hj⟩
 | j + 5, hj => simp at hj
abbrev intR (v v' : World) : Prop := ∀ (b : Nat) (cs : Array Value), Own v b 3 cs → Own v' b 3 cs
structure KI where
 rd : List Nat
 P : (Nat → Value) → World → Prop
 loc : ∀ x y v, (∀ s ∈ rd, x s = y s) → P x v → P y v
 keep : ∀ x v v', P x v → intR v v' → P x v'
def KI.eq (s : Nat) (u0 : Value) : KI where
 rd := [s]
 P := fun x _ => x s = u0
 loc := fun x y _ h hp => by rw [← h s (by simp)]; exact hp
 keep := fun _ _ _ h _ => h
def KI.lit (s : Nat) (cs : Array Value) (n : Nat) : KI where
 rd := [s]
 P := fun x v => ∃ gg : Nat, x s = .slice (some ⟨gg, 0, none⟩) n n ∧ Own v gg 3 cs
 loc := fun x y _ h hp => by rw [← h s (by simp)]; exact hp
 keep := fun _ _ _ ⟨gg, h1, h2⟩ ho => ⟨gg, h1, ho _ _ h2⟩
def KI.no : KI where
 rd := []
 P := fun _ _ => True
 loc := fun _ _ _ _ _ => trivial
 keep := fun _ _ _ _ _ => trivial
structure PS (w0 : World) (g mb : Nat) (vb vf vl vo : Value) (m : Ma) (vs : Value) (fs : List Int) (q : Nat) (v : World) : Prop where
 rd : Rdr w0.heap.size v g q
 bl : Below w0.heap.size w0 v
 mm : MaM w0.heap.size v vb vf vl vo m
 fr : SlM intE 3 w0.heap.size v vs fs
 ob : Own v mb 48 #[vb, vf, vl, .int .i64 m.c.hand, .int .i64 m.g.count, .int .i64 m.g.next, .int .i64 m.g.round, vo, .int .i64 m.sp]
section
variable {w0 v v' : World} {g mb q : Nat} {vb vf vl vo vs : Value} {m : Ma} {fs : List Int}
theorem PS.hg (h : PS w0 g mb vb vf vl vo m vs fs q v) : w0.heap.size ≤ g := by
 obtain ⟨_, _, _, _, _, _, h⟩ := h.rd.ok
 exact h
theorem PS.below (h : PS w0 g mb vb vf vl vo m vs fs q v) (hb : Below v.heap.size v v') : PS w0 g mb vb vf vl vo m vs fs q v' :=
 ⟨rdr_below h.rd hb, bT h.bl hb, h.mm.now hb, h.fr.now hb, h.ob.below hb⟩
theorem PS.oth (h : PS w0 g mb vb vf vl vo m vs fs q v) (hg : v.grownBy v' (some g)) : othR v v' := by
 obtain ⟨A, n, c, ho, _⟩ := h.rd.ok
 exact oth_gr hg ho
theorem PS.set1 (h : PS w0 g mb vb vf vl vo m vs fs q v) {b i : Nat} {u : Value} {t : TypeId} {cs : Array Value} (ho : Own v b t cs) (hb : w0.heap.size ≤ b) (hgb : g ≠ b) (hmb : mb ≠ b) (n1 : ¬ 3 = t) (n2 : ¬ 66 = t) (n3 : ¬ 129 = t) (n4 : ¬ 126 = t) :
  PS w0 g mb vb vf vl vo m vs fs q (v.setCell ⟨b, i, none⟩ u) :=
 ⟨rdr_far h.rd hgb hb, bS h.bl hb, h.mm.oth (stS_set (n := 0) ho).1 n1 n2 n3 n4, h.fr.oth (stS_set (n := 0) ho).1 n1, h.ob.far hmb⟩
end
def PC (w0 : World) (g mb nb kb si : Nat) (l : List Nat) (vb vf vl vo : Value) (m : Ma) (vs : Value) (fs : List Int) (q : Nat) (D : Nat → Bool) (v : World) : Prop :=
 PS w0 g mb vb vf vl vo m vs fs (q + cn D l) v ∧ Own v nb 48 (if D si = true then #[vb, vf, vl, .int .i64 m.c.hand, .int .i64 m.g.count, .int .i64 m.g.next, .int .i64 m.g.round, vo, .int .i64 m.sp] else #[.slice none 0 0, .slice none 0 0, .slice none 0 0, .int .i64 0, .int .i64 0, .int .i64 0, .int .i64 0, .slice none 0 0, .int .i64 0]) ∧ ∃ a b : Int, Own v kb 61 #[.int .i64 a, .int .i64 b] ∧ small b
section
variable {w0 v v' : World} {g mb nb kb si i q : Nat} {l : List Nat} {vb vf vl vo vs : Value} {m : Ma} {fs : List Int} {D : Nat → Bool}
theorem PC.same (h : PC w0 g mb nb kb si l vb vf vl vo m vs fs q D v) (hi : i ∉ l) (hs : si ≠ i) : PC w0 g mb nb kb si l vb vf vl vo m vs fs q (fun j => if j = i then true else D j) v := by
 unfold PC
 rw [cn_same hi]
 simp only [if_neg hs]
 exact h
theorem PC.below (h : PC w0 g mb nb kb si l vb vf vl vo m vs fs q D v) (hb : Below v.heap.size v v') (hi : i ∉ l) (hs : si ≠ i) : PC w0 g mb nb kb si l vb vf vl vo m vs fs q (fun j => if j = i then true else D j) v' := by
 obtain ⟨h1, h2, a, b, h3, h4⟩ := h
 unfold PC
 rw [cn_same hi]
 simp only [if_neg hs]
 exact ⟨h1.below hb, h2.below hb, a, b, h3.below hb, h4⟩
theorem PC.store (h : PC w0 g mb nb kb si l vb vf vl vo m vs fs q D v) (hD : D si = false) (hi : si ∉ l) (hb : w0.heap.size ≤ nb) (hgb : g ≠ nb) (hmb : mb ≠ nb) (hkb : kb ≠ nb) :
  PC w0 g mb nb kb si l vb vf vl vo m vs fs q (fun j => if j = si then true else D j) (((((((((v.setCell ⟨nb, 0, none⟩ vb).setCell ⟨nb, 1, none⟩ vf).setCell ⟨nb, 2, none⟩ vl).setCell ⟨nb, 3, none⟩ (.int .i64 m.c.hand)).setCell ⟨nb, 4, none⟩ (.int .i64 m.g.count)).setCell ⟨nb, 5, none⟩ (.int .i64 m.g.next)).setCell ⟨nb, 6, none⟩ (.int .i64 m.g.round)).setCell ⟨nb, 7, none⟩ vo).setCell ⟨nb, 8, none⟩ (.int .i64 m.sp)) := by
 obtain ⟨h1, h2, a, b, h3, h4⟩ := h
 unfold PC
 rw [cn_same hi]
 simp only [hD, Bool.false_eq_true, if_false] at h2
 simp only [if_true]
 have o1 := h2.set_ 0 vb
 have o2 := o1.set_ 1 vf
 have o3 := o2.set_ 2 vl
 have o4 := o3.set_ 3 (.int .i64 m.c.hand)
 have o5 := o4.set_ 4 (.int .i64 m.g.count)
 have o6 := o5.set_ 5 (.int .i64 m.g.next)
 have o7 := o6.set_ 6 (.int .i64 m.g.round)
 have o8 := o7.set_ 7 vo
 refine ⟨?_, h2.set9 _ _ _ _ _ _ _ _ _, a, b, ?_, h4⟩
 ·exact ((((((((h1.set1 h2 hb hgb hmb (by decide) (by decide) (by decide) (by decide)).set1 o1 hb hgb hmb (by decide) (by decide) (by decide) (by decide)).set1 o2 hb hgb hmb (by decide) (by decide) (by decide) (by decide)).set1 o3 hb hgb hmb (by decide) (by decide) (by decide) (by decide)).set1 o4 hb hgb hmb (by decide) (by decide) (by decide) (by decide)).set1 o5 hb hgb hmb (by decide) (by decide) (by decide) (by decide)).set1 o6 hb hgb hmb (by decide) (by decide) (by decide) (by decide)).set1 o7 hb hgb hmb (by decide) (by decide) (by decide) (by decide)).set1 o8 hb hgb hmb (by decide) (by decide) (by decide) (by decide)
 ·repeat (refine Own.far ?_ (by exact hkb))
  exact h3
theorem PC.key (h : PC w0 g mb nb kb si l vb vf vl vo m vs fs q D v) (hi : i ∉ l) (hs : si ≠ i) (hb : w0.heap.size ≤ kb) (hgb : g ≠ kb) (hmb : mb ≠ kb) (hkb : nb ≠ kb) (a b : Int) (hs2 : small b) :
  PC w0 g mb nb kb si l vb vf vl vo m vs fs q (fun j => if j = i then true else D j) ((v.setCell ⟨kb, 0, none⟩ (.int .i64 a)).setCell ⟨kb, 1, none⟩ (.int .i64 b)) := by
 obtain ⟨h1, h2, a0, b0, h3, h4⟩ := h
 unfold PC
 rw [cn_same hi]
 simp only [if_neg hs]
 have o1 := h3.set_ 0 (.int .i64 a)
 exact ⟨(h1.set1 h3 hb hgb hmb (by decide) (by decide) (by decide) (by decide)).set1 o1 hb hgb hmb (by decide) (by decide) (by decide) (by decide), (h2.far hkb).far hkb, a, b, by simpa using o1.set_ 1 (.int .i64 b), hs2⟩
end
def dn (D : Nat → Bool) (i : Nat) : Nat → Bool := fun j => if j = i then true else D j
theorem dn_self (D : Nat → Bool) (i : Nat) : dn D i i = true := by unfold dn; rw [if_pos rfl]
theorem dn_ne {D : Nat → Bool} {i j : Nat} (h : j ≠ i) : dn D i j = D j := by unfold dn; rw [if_neg h]
theorem wp_region_rel4 {P : Program} {ops : Array Oper} {Q : Exit → Act → World → Prop} {id : Nat} {a : Act} {w : World} (hm : P.follows .mixedOrders = true) (ds : List Nat) (rds : List (List Nat)) (C : (Nat → Bool) → World → Prop)
    (R : Nat → (Nat → Bool) → (Nat → Value) → World → Prop) (T : Nat → World → World → Prop) (hB : relB .any ops ds rds = true) (hC : C (fun _ => false) w.drew)
    (hR : ∀ j D x y v, (∀ s ∈ rds.getD j [], x s = y s) → R j D x v → R j D y v)
    (hT : ∀ i j D x v v', i ≠ j → D i = false → R j D x v → T i v v' → R j (dn D i) x v')
    (step : ∀ i o, ops[i]? = some o → ∀ D x v, D i = false → C D v → (∀ k, (∃ e ∈ o.after, Region.binds .any e = true ∧ e.on = k) → R k D x v) → ∀ K : Act → World → Prop,
      (∀ u v', T i v v' → C (dn D i) v' → R i (dn D i) (upd x o.dst u) v' → K ((fillA ds x a).put o.dst u) v') → o.wp P (fillA ds x a) v K Q)
    (fin : ∀ D x v, (∀ i, i < ops.size → D i = true) → C D v → (∀ i, i < ops.size → R i D x v) → Q .normal (fillA ds x a) v) : (Code.region id ops true).wp P Q a w := by
  refine wp_region_any hm ?_
  refine wpAny_inv (fun L a' v => ∃ x, a' = fillA ds x a ∧ C (fun j => L.getD j false) v ∧ L.size = ops.size ∧ (∀ j, L.getD j false = true → R j (fun j => L.getD j false) x v) ∧
    ∀ j o, ops[j]? = some o → L.getD j false = true → ∀ e ∈ o.after, Region.binds .any e = true → L.getD e.on false = true) ?_ ?_ _ _ _ _ (left_le _ _) ?_
  · rintro L a' v ⟨x, rfl, hCv, hsz, hL, hcl⟩ i hi
    obtain ⟨h0, o, ho, hdep⟩ := mem_ready.1 hi
    obtain ⟨b1, b2, b3, b4⟩ := relB_at hB ho
    have hisz := (Array.getElem?_eq_some_iff.1 ho).1
    have h0' : L.getD i false = false := by rw [← getD_both_ (by omega)]; exact h0
    unfold wpOp
    rw [ho]
    simp only [Region.wanted, b1, if_true]
    have e0 : (fun j => (L.setIfInBounds i true).getD j false) = dn (fun j => L.getD j false) i := funext fun j => by
      unfold dn
      by_cases hij : j = i
      · subst hij; simp [hsz, hisz]
      · rw [if_neg hij, getD_set_ne false (fun h => hij h.symm)]
    refine .inl (step i o ho _ x v h0' hCv (fun k ⟨e, he, hb, hk⟩ => hk ▸ hL _ (hdep e he hb)) _ (fun u v' hTv hCv' hRi => ?_))
    refine ⟨upd x o.dst u, fill_put b2, ?_, by simpa using hsz, fun j hj => ?_, fun j oj hoj hj e he hb => ?_⟩
    · show C (fun j => (L.setIfInBounds i true).getD j false) v'
      rw [e0]
      exact hCv'
    · rw [e0]
      by_cases hij : i = j
      · subst hij; exact hRi
      · rw [getD_set_ne false hij] at hj
        have hj2 : j < ops.size := by
          rcases Nat.lt_or_ge j L.size with h | h
          · omega
          · simp [Array.getElem?_eq_none h] at hj
        obtain ⟨oj, hoj⟩ : ∃ oj, ops[j]? = some oj := ⟨_, Array.getElem?_eq_getElem hj2⟩
        refine hR j _ x _ v' (fun s hs => ?_) (hT i j _ x v v' hij h0' (hL j hj) hTv)
        by_cases hd : o.dst = some s
        · obtain ⟨e, he, hb, hon⟩ := (relB_at hB hoj).2.2.2 i o s ho hij hd hs
          have h1 := hcl j oj hoj hj e he hb
          rw [hon, ← getD_both_ (by omega), h0] at h1
          cases h1
        · unfold upd; rw [if_neg (fun h => hd h.symm)]
    · by_cases hij : i = j
      · subst hij
        rw [ho] at hoj
        injection hoj with hoj
        subst hoj
        exact getD_set_true (hdep e he hb)
      · rw [getD_set_ne false hij] at hj
        exact getD_set_true (hcl j oj hoj hj e he hb)
  · rintro L a' v ⟨x, rfl, hCv, hsz, hL, hcl⟩ hr
    have hall : ∀ n j, j < n → j < ops.size → L.getD j false = true := by
      intro n
      induction n with
      | zero => intro j h; exact absurd h (by omega)
      | succ n ih =>
        intro j hj hjs
        obtain ⟨oj, hoj⟩ : ∃ oj, ops[j]? = some oj := ⟨_, Array.getElem?_eq_getElem hjs⟩
        by_cases hd : L.getD j true = true
        · rw [← getD_both_ (by omega)]; exact hd
        · have hmem : j ∈ Region.ready .any ops L := mem_ready.2 ⟨by simpa using hd, oj, hoj, fun e he hb => by
            have h1 := (relB_at hB hoj).2.2.1 e he hb
            exact ih e.on (by omega) (by omega)⟩
          rw [hr] at hmem
          cases hmem
    exact fin _ x v (fun i hi => hall (i + 1) i (by omega) hi) hCv (fun i hi => hL i (hall (i + 1) i (by omega) hi))
  · refine ⟨fun s => a.tmps.getD s undef, (fill_self ds a).symm, ?_, by simp, fun j hj => ?_, fun j o ho hj => ?_⟩
    · refine Eq.mp (congrArg (fun d => C d w.drew) ?_) hC
      funext j
      rcases Nat.lt_or_ge j ops.size with h | h
      · simp [h]
      · simp [h]
    all_goals
      exfalso
      rcases Nat.lt_or_ge j ops.size with h | h
      · simp [h] at hj
      · simp [h] at hj
structure GT (q : TypeId → Prop) (B : Nat) (sb : Option Nat) (n : Nat) (v v' : World) : Prop where
 oth : Oth q v v'
 own : ∀ (b : Nat) (t : TypeId) (cs : Array Value), Own v b t cs → t ≠ 172 → some b ≠ sb → Own v' b t cs
 bel : Below B v v'
 rd : ∀ g p, Rdr B v g p → ∃ p', p' ≤ p + 1000 * n ∧ Rdr B v' g p'
section
variable {q : TypeId → Prop} {B n : Nat} {sb : Option Nat} {v v' v'' : World}
theorem GT.same : GT q B sb n v v := ⟨⟨Nat.le_refl _, fun _ _ _ h _ => h⟩, fun _ _ _ h _ _ => h, Below.refl _ _, fun g p h => ⟨p, by omega, h⟩⟩
theorem GT.below (hb : Below v.heap.size v v') (hB : B ≤ v.heap.size) : GT q B sb n v v' :=
 ⟨Oth.of_below hb, fun _ _ _ h _ _ => h.below hb, hb.mono hB, fun g p h => ⟨p, by omega, rdr_below h hb⟩⟩
theorem GT.set {b i : Nat} {t : TypeId} {cs : Array Value} {u : Value} (ho : Own v b t cs) (hq : q t) (ht : t ≠ 172) (hB : B ≤ b) : GT q B (some b) 0 v (v.setCell ⟨b, i, none⟩ u) := by
 have hty : ∀ (t2 : TypeId) (cs2 : Array Value), Own v b t2 cs2 → t2 = t := by
  intro t2 cs2 h
  unfold Own at h ho
  rw [h] at ho
  simp at ho
  exact ho.2
 refine ⟨⟨by simp, fun b2 t2 cs2 h hn => h.far (p := ⟨b, i, none⟩) (fun e => ?_)⟩, fun b2 t2 cs2 h _ hne => h.far (p := ⟨b, i, none⟩) (fun e => hne (by rw [e])), (Below.refl B v).setCell hB u, fun g p h => ⟨p, by omega, rdr_far h (fun e => ?_) hB⟩⟩
 ·have e : b2 = b := e
  subst e
  exact hn (by rw [hty _ _ h]; exact hq)
 ·subst e
  obtain ⟨A, m, c, h2, _⟩ := h.ok
  exact (h2.ne ho (fun e => ht e.symm)) rfl
theorem GT.trans (h : GT q B sb 0 v v') (k : GT q B sb 0 v' v'') : GT q B sb 0 v v'' :=
 ⟨⟨Nat.le_trans h.oth.1 k.oth.1, fun b t cs o hn => k.oth.2 b t cs (h.oth.2 b t cs o hn) hn⟩, fun b t cs o ht hs => k.own b t cs (h.own b t cs o ht hs) ht hs, h.bel.trans k.bel, fun g p o => by
  obtain ⟨p1, e1, o1⟩ := h.rd g p o
  obtain ⟨p2, e2, o2⟩ := k.rd g p1 o1
  exact ⟨p2, by omega, o2⟩⟩
theorem GT.set9 {b : Nat} {t : TypeId} {cs : Array Value} (ho : Own v b t cs) (hq : q t) (ht : t ≠ 172) (hB : B ≤ b) (u0 u1 u2 u3 u4 u5 u6 u7 u8 : Value) :
  GT q B (some b) 0 v (((((((((v.setCell ⟨b, 0, none⟩ u0).setCell ⟨b, 1, none⟩ u1).setCell ⟨b, 2, none⟩ u2).setCell ⟨b, 3, none⟩ u3).setCell ⟨b, 4, none⟩ u4).setCell ⟨b, 5, none⟩ u5).setCell ⟨b, 6, none⟩ u6).setCell ⟨b, 7, none⟩ u7).setCell ⟨b, 8, none⟩ u8) := by
 have o1 := ho.set_ 0 u0
 have o2 := o1.set_ 1 u1
 have o3 := o2.set_ 2 u2
 have o4 := o3.set_ 3 u3
 have o5 := o4.set_ 4 u4
 have o6 := o5.set_ 5 u5
 have o7 := o6.set_ 6 u6
 have o8 := o7.set_ 7 u7
 exact ((((((((GT.set ho hq ht hB).trans (GT.set o1 hq ht hB)).trans (GT.set o2 hq ht hB)).trans (GT.set o3 hq ht hB)).trans (GT.set o4 hq ht hB)).trans (GT.set o5 hq ht hB)).trans (GT.set o6 hq ht hB)).trans (GT.set o7 hq ht hB)).trans (GT.set o8 hq ht hB)
end
structure SBx where
 op : Nat
 box : Nat
 ty : TypeId
 old : Array Value
 new : Array Value → World → Prop
def sbo : List SBx → Nat → Option Nat
 | [], _ => none
 | e :: S, i => if e.op = i then some e.box else sbo S i
theorem sbo_some {S : List SBx} {i b : Nat} (h : sbo S i = some b) : ∃ e ∈ S, e.op = i ∧ e.box = b := by
 induction S with
 | nil => cases h
 | cons e S ih =>
  unfold sbo at h
  split at h
  ·injection h with h
   exact ⟨e, by simp, ‹_›, h⟩
  ·obtain ⟨e2, h1, h2⟩ := ih h
   exact ⟨e2, by simp [h1], h2⟩
theorem sbo_none {S : List SBx} {i : Nat} (h : sbo S i = none) : ∀ e ∈ S, e.op ≠ i := by
 induction S with
 | nil => intro e he; cases he
 | cons e S ih =>
  unfold sbo at h
  split at h
  ·cases h
  ·intro e2 he
   rcases List.mem_cons.1 he with h2 | h2
   ·rw [h2]; assumption
   ·exact ih h e2 h2
def nn (nums : List Nat) (i : Nat) : Nat := if i ∈ nums then 1 else 0
theorem cn_dn {nums : List Nat} {D : Nat → Bool} {i : Nat} (hn : nums.Nodup) (hD : D i = false) : cn (dn D i) nums = cn D nums + nn nums i := by
 unfold nn dn
 split
 ·exact cn_more hD ‹_› hn
 ·exact cn_same ‹_›
structure GStat (q : TypeId → Prop) (nums : List Nat) (F : List (Nat × TypeId × Array Value)) (M : World → Prop) (S : List SBx) : Prop where
 nd : nums.Nodup
 hF : ∀ e ∈ F, e.2.1 ≠ 172 ∧ ∀ s ∈ S, s.box ≠ e.1
 hM : ∀ v v', Oth q v v' → M v → M v'
 hS : ∀ e ∈ S, e.ty ≠ 172 ∧ (∀ s ∈ S, s.box = e.box → s.op = e.op) ∧ (∀ s ∈ S, s.op = e.op → s = e) ∧ (∀ cs v v', Oth q v v' → e.new cs v → e.new cs v')
structure GC (B : Nat) (w0 : World) (rs : List (Nat × Nat)) (nums : List Nat) (F : List (Nat × TypeId × Array Value)) (M : World → Prop) (S : List SBx) (D : Nat → Bool) (v : World) : Prop where
 bl : Below B w0 v
 rd : ∀ e ∈ rs, ∃ p, p ≤ e.2 + 1000 * cn D nums ∧ Rdr B v e.1 p
 ob : ∀ e ∈ F, Own v e.1 e.2.1 e.2.2
 mm : M v
 st : ∀ e ∈ S, ∃ cs, Own v e.box e.ty cs ∧ (D e.op = false → cs = e.old) ∧ (D e.op = true → e.new cs v)
abbrev gtt (q : TypeId → Prop) (B : Nat) (nums : List Nat) (S : List SBx) (i : Nat) (v v' : World) : Prop := GT q B (sbo S i) (nn nums i) v v'
section
variable {q : TypeId → Prop} {B i : Nat} {w0 v v' : World} {rs : List (Nat × Nat)} {nums : List Nat} {F : List (Nat × TypeId × Array Value)} {M : World → Prop} {S : List SBx} {D : Nat → Bool}
theorem GC.step (h : GC B w0 rs nums F M S D v) (hs : GStat q nums F M S) (hD : D i = false) (ht : gtt q B nums S i v v') (hi0 : sbo S i = none) : GC B w0 rs nums F M S (dn D i) v' := by
 have hi := sbo_none hi0
 refine ⟨h.bl.trans ht.bel, fun e he => ?_, fun e he => ?_, hs.hM _ _ ht.oth h.mm, fun e he => ?_⟩
 ·obtain ⟨p, h1, h2⟩ := h.rd e he
  obtain ⟨p', h3, h4⟩ := ht.rd _ _ h2
  exact ⟨p', by rw [cn_dn hs.nd hD]; omega, h4⟩
 ·refine ht.own _ _ _ (h.ob e he) (hs.hF e he).1 fun e1 => ?_
  obtain ⟨s, h1, h2, h3⟩ := sbo_some e1.symm
  exact (hs.hF e he).2 s h1 h3
 ·obtain ⟨cs, h1, h2, h3⟩ := h.st e he
  obtain ⟨k1, k2, k3, k4⟩ := hs.hS e he
  refine ⟨cs, ht.own _ _ _ h1 k1 fun e1 => ?_, fun hd => h2 (by rwa [dn_ne (hi e he)] at hd), fun hd => k4 _ _ _ ht.oth (h3 (by rwa [dn_ne (hi e he)] at hd))⟩
  obtain ⟨s, m1, m2, m3⟩ := sbo_some e1.symm
  exact hi s m1 m2
theorem GC.store {e0 : SBx} {cs0 : Array Value} (h : GC B w0 rs nums F M S D v) (hs : GStat q nums F M S) (hD : D i = false) (ht : gtt q B nums S i v v') (hm : e0 ∈ S) (hi : e0.op = i) (ho : Own v' e0.box e0.ty cs0) (hn : e0.new cs0 v') : GC B w0 rs nums F M S (dn D i) v' := by
 refine ⟨h.bl.trans ht.bel, fun e he => ?_, fun e he => ?_, hs.hM _ _ ht.oth h.mm, fun e he => ?_⟩
 ·obtain ⟨p, h1, h2⟩ := h.rd e he
  obtain ⟨p', h3, h4⟩ := ht.rd _ _ h2
  exact ⟨p', by rw [cn_dn hs.nd hD]; omega, h4⟩
 ·refine ht.own _ _ _ (h.ob e he) (hs.hF e he).1 fun e1 => ?_
  obtain ⟨s, h1, h2, h3⟩ := sbo_some e1.symm
  exact (hs.hF e he).2 s h1 h3
 ·obtain ⟨cs, h1, h2, h3⟩ := h.st e he
  obtain ⟨k1, k2, k3, k4⟩ := hs.hS e he
  by_cases hei : e.op = i
  ·obtain rfl := k3 e0 hm (by rw [hi, hei])
   exact ⟨cs0, ho, (fun hd => by rw [hei, dn_self] at hd; cases hd), fun _ => hn⟩
  ·refine ⟨cs, ht.own _ _ _ h1 k1 fun e1 => ?_, fun hd => h2 (by rwa [dn_ne hei] at hd), fun hd => k4 _ _ _ ht.oth (h3 (by rwa [dn_ne hei] at hd))⟩
   obtain ⟨s, m1, m2, m3⟩ := sbo_some e1.symm
   exact hei ((k2 s m1 m3).symm.trans m2)
end
structure KG (q : TypeId → Prop) (B : Nat) (nums : List Nat) (S : List SBx) where
 rd : List Nat
 P : (Nat → Bool) → (Nat → Value) → World → Prop
 loc : ∀ D x y v, (∀ s ∈ rd, x s = y s) → P D x v → P D y v
 keep : ∀ i D x v v', D i = false → P D x v → gtt q B nums S i v v' → P (dn D i) x v'
section
variable {q : TypeId → Prop} {B : Nat} {nums : List Nat} {S : List SBx}
def KG.eq (s : Nat) (u0 : Value) : KG q B nums S where
 rd := [s]
 P := fun _ x _ => x s = u0
 loc := fun _ x y _ h hp => by rw [← h s (by simp)]; exact hp
 keep := fun _ _ _ _ _ _ h _ => h
def KG.no : KG q B nums S where
 rd := []
 P := fun _ _ _ => True
 loc := fun _ _ _ _ _ _ => trivial
 keep := fun _ _ _ _ _ _ _ _ => trivial
def KG.lit (hq : ¬ q 3) (s : Nat) (cs : Array Value) (n : Nat) : KG q B nums S where
 rd := [s]
 P := fun _ x v => ∃ gg : Nat, x s = .slice (some ⟨gg, 0, none⟩) n n ∧ Own v gg 3 cs
 loc := fun _ x y _ h hp => by rw [← h s (by simp)]; exact hp
 keep := fun _ _ _ _ _ _ ⟨gg, h1, h2⟩ ht => ⟨gg, h1, ht.oth.2 _ _ _ h2 hq⟩
def KG.val (s : Nat) (f : Value → World → Prop) (hf : ∀ u v v', Oth q v v' → f u v → f u v') : KG q B nums S where
 rd := [s]
 P := fun _ x v => f (x s) v
 loc := fun _ x y _ h hp => by rw [← h s (by simp)]; exact hp
 keep := fun _ _ _ _ _ _ h ht => hf _ _ _ ht.oth h
def kgs (ks : List (KG q B nums S)) (j : Nat) (D : Nat → Bool) (x : Nat → Value) (v : World) : Prop := match ks[j]? with | some k => k.P D x v | none => True
theorem kgs_loc {ks : List (KG q B nums S)} : ∀ j D x y v, (∀ s ∈ (ks.map KG.rd).getD j [], x s = y s) → kgs ks j D x v → kgs ks j D y v := by
 intro j D x y v h hp
 unfold kgs at hp ⊢
 cases hk : ks[j]? with
 | none => trivial
 | some k =>
  rw [hk] at hp
  refine k.loc D x y v (fun s hs => h s ?_) hp
  rw [List.getD_eq_getElem?_getD, List.getElem?_map, hk]
  exact hs
theorem kgs_keep {ks : List (KG q B nums S)} : ∀ i j D x v v', i ≠ j → D i = false → kgs ks j D x v → gtt q B nums S i v v' → kgs ks j (dn D i) x v' := by
 intro i j D x v v' hij hD hp ht
 unfold kgs at hp ⊢
 cases hk : ks[j]? with
 | none => trivial
 | some k =>
  rw [hk] at hp
  exact k.keep i D x v v' hD hp ht
end
def chg (e : TypeId) : Prop := e = 172 ∨ e = 48 ∨ e = 61
theorem chg_ma : chg 48 := .inr (.inl rfl)
theorem chg_int : ¬ chg 3 := by unfold chg; decide
theorem MaM.chg {b : Nat} {w w' : World} {v1 v2 v3 v4 : Value} {m : Ma} (h : MaM b w v1 v2 v3 v4 m) (ho : Oth chg w w') : MaM b w' v1 v2 v3 v4 m :=
 h.oth ho (by unfold Proofs.YtibpnlojlfcpmaaGreatDoor.chg; decide) (by unfold Proofs.YtibpnlojlfcpmaaGreatDoor.chg; decide) (by unfold Proofs.YtibpnlojlfcpmaaGreatDoor.chg; decide) (by unfold Proofs.YtibpnlojlfcpmaaGreatDoor.chg; decide)
abbrev sbE (op box : Nat) (ty : TypeId) (old new : Array Value) : SBx := ⟨op, box, ty, old, fun cs _ => cs = new⟩
theorem sbE_keep {new : Array Value} : ∀ cs v v', Oth chg v v' → (fun (cs : Array Value) (_ : World) => cs = new) cs v → (fun (cs : Array Value) (_ : World) => cs = new) cs v' := fun _ _ _ _ h => h
theorem gstat_one {nums : List Nat} {F : List (Nat × TypeId × Array Value)} {M : World → Prop} {e : SBx} (hn : nums.Nodup) (hF : ∀ f ∈ F, f.2.1 ≠ 172 ∧ e.box ≠ f.1) (hM : ∀ v v', Oth chg v v' → M v → M v') (ht : e.ty ≠ 172) (hk : ∀ cs v v', Oth chg v v' → e.new cs v → e.new cs v') : GStat chg nums F M [e] := by
 refine ⟨hn, fun f hf => ⟨(hF f hf).1, fun s hs => ?_⟩, hM, fun s hs => ?_⟩
 ·rw [List.mem_singleton.1 hs]; exact (hF f hf).2
 ·obtain rfl := List.mem_singleton.1 hs
  exact ⟨ht, fun s hs _ => by rw [List.mem_singleton.1 hs], fun s hs _ => List.mem_singleton.1 hs, hk⟩
end Go.Proofs.YtibpnlojlfcpmaaGreatDoor
