/- A part of the proofs of this seat: Dpr, Gn. -/
import Derived.Test.YtibpnlojlfcpmaaGreatDoorRW6
import Derived.Test.YtibpnlojlfcpmaaGreatDoorRGn
set_option linter.unusedVariables false
set_option linter.unusedSimpArgs false
set_option maxRecDepth 1000000
namespace Go.Proofs.YtibpnlojlfcpmaaGreatDoor
open Go.RowKit
theorem l12Open_low (B : Nat) (A : Option Addr) (n c : Nat) (w : World) (hb : Bytes B w A n) (hB : B ≤ w.heap.size) (hc : n ≤ c) (hn : n ≤ 1048576) :
  Calls Tryz.prog 71 #[.slice A n c] w fun e w' => e = .returned (.pointer (some ⟨w.heap.size, 0, none⟩)) ∧ Rdr B w' w.heap.size 0 ∧ Below w.heap.size w w' := by
 by_cases h : n ≤ 2000
 ·go_enter Tryz.func71, Tryz.ntmps71
  go_wp2
  go_ret
  exact ⟨rfl, ⟨A, n, c, Own.new_ _ _ _, hb.keep fun q hq => (bA bR).cell (by omega), h, hB⟩, bA bR⟩
 ·obtain ⟨i0, hi0, hz0, hz1, hz2⟩ := info_parts byte_info
  have hs := fun W => slice_hi (P := Tryz.prog) W 55 5 i0 1 A n c Tryz.underlying55 hi0 2000 (by omega) (by omega)
  rw [cutA_zero] at hs
  go_enter Tryz.func71, Tryz.ntmps71
  go_wp2
  go_ret
  exact ⟨rfl, ⟨A, 2000, c, Own.new_ _ _ _, ⟨fun j hj => (hb.keep fun q hq => (bA bR).cell (by omega)).at_ j (by omega)⟩, Nat.le_refl _, hB⟩, bA bR⟩
def KI.sat (s : Nat) (q : Value → Prop) : KI where
 rd := [s]
 P := fun x _ => q (x s)
 loc := fun x y _ h hp => by rw [← h s (by simp)]; exact hp
 keep := fun _ _ _ h _ => h
def KI.no : KI where
 rd := []
 P := fun _ _ => True
 loc := fun _ _ _ _ _ => trivial
 keep := fun _ _ _ _ _ => trivial
section
variable {w0 v v' : World} {g mb q : Nat} {vb vf vl vo vs : Value} {m : Ma} {fs : List Int}
theorem PS.read (h : PS w0 g mb vb vf vl vo m vs fs q v) {q' : Nat} (hr : Rdr w0.heap.size v' g q') (hg : v.grownBy v' (some g)) : PS w0 g mb vb vf vl vo m vs fs q' v' :=
 ⟨hr, bG h.bl hg (by intro k hk; injection hk with hk; have := h.hg; omega), h.mm.gr h.rd hg, h.fr.oth (h.oth hg) (by decide), (h.oth hg).2 _ _ _ h.ob (by decide)⟩
end
section
variable {w0 v v' : World} {g mb nb kb si i q : Nat} {l : List Nat} {vb vf vl vo vs : Value} {m : Ma} {fs : List Int} {D : Nat → Bool}
theorem PC.read (h : PC w0 g mb nb kb si l vb vf vl vo m vs fs q D v) (hD : D i = false) (hi : i ∈ l) (hn : l.Nodup) (hs : si ≠ i) (hr : Rdr w0.heap.size v' g (q + cn D l + 1)) (hg : v.grownBy v' (some g)) : PC w0 g mb nb kb si l vb vf vl vo m vs fs q (fun j => if j = i then true else D j) v' := by
 obtain ⟨h1, h2, a, b, h3, h4⟩ := h
 have ho := h1.oth hg
 unfold PC
 rw [cn_more hD hi hn, ← Nat.add_assoc]
 simp only [if_neg hs]
 exact ⟨h1.read hr hg, ho.2 _ _ _ h2 (by decide), a, b, ho.2 _ _ _ h3 (by decide), h4⟩
theorem PC.store (h : PC w0 g mb nb kb si l vb vf vl vo m vs fs q D v) (hD : D si = false) (hi : si ∉ l) (hb : w0.heap.size ≤ nb) (hgb : g ≠ nb) (hmb : mb ≠ nb) (hkb : kb ≠ nb) :
  PC w0 g mb nb kb si l vb vf vl vo m vs fs q (fun j => if j = si then true else D j) (((((((((v.setCell ⟨nb, 0, none⟩ vb).setCell ⟨nb, 1, none⟩ vf).setCell ⟨nb, 2, none⟩ vl).setCell ⟨nb, 3, none⟩ (.int .i64 m.c.hand)).setCell ⟨nb, 4, none⟩ (.int .i64 m.g.count)).setCell ⟨nb, 5, none⟩ (.int .i64 m.g.next)).setCell ⟨nb, 6, none⟩ (.int .i64 m.g.round)).setCell ⟨nb, 7, none⟩ vo).setCell ⟨nb, 8, none⟩ (.int .i64 m.sp)) := by
 obtain ⟨h1, h2, a, b, h3, h4⟩ := h
 unfold PC
 rw [cn_same hi]
 simp only [hD, Bool.false_eq_true, if_false] at h2
 simp only [if_true]
 have o1 := h2.set_ 0 vb
 have o2 := o1.set_ 1 vf
 have o3 := o2.set_ 2 vl
 have o4 := o3.set_ 3 (.int .i64 m.c.hand)
 have o5 := o4.set_ 4 (.int .i64 m.g.count)
 have o6 := o5.set_ 5 (.int .i64 m.g.next)
 have o7 := o6.set_ 6 (.int .i64 m.g.round)
 have o8 := o7.set_ 7 vo
 refine ⟨?_, h2.set9 _ _ _ _ _ _ _ _ _, a, b, ?_, h4⟩
 ·exact ((((((((h1.set1 h2 hb hgb hmb (by decide) (by decide) (by decide) (by decide)).set1 o1 hb hgb hmb (by decide) (by decide) (by decide) (by decide)).set1 o2 hb hgb hmb (by decide) (by decide) (by decide) (by decide)).set1 o3 hb hgb hmb (by decide) (by decide) (by decide) (by decide)).set1 o4 hb hgb hmb (by decide) (by decide) (by decide) (by decide)).set1 o5 hb hgb hmb (by decide) (by decide) (by decide) (by decide)).set1 o6 hb hgb hmb (by decide) (by decide) (by decide) (by decide)).set1 o7 hb hgb hmb (by decide) (by decide) (by decide) (by decide)).set1 o8 hb hgb hmb (by decide) (by decide) (by decide) (by decide)
 ·repeat (refine Own.far ?_ (by exact hkb))
  exact h3
end
theorem dn_self (D : Nat → Bool) (i : Nat) : dn D i i = true := by unfold dn; rw [if_pos rfl]
theorem wp_region_rel4 {P : Program} {ops : Array Oper} {Q : Exit → Act → World → Prop} {id : Nat} {a : Act} {w : World} (hm : P.follows .mixedOrders = true) (ds : List Nat) (rds : List (List Nat)) (C : (Nat → Bool) → World → Prop)
    (R : Nat → (Nat → Bool) → (Nat → Value) → World → Prop) (T : Nat → World → World → Prop) (hB : relB .any ops ds rds = true) (hC : C (fun _ => false) w.drew)
    (hR : ∀ j D x y v, (∀ s ∈ rds.getD j [], x s = y s) → R j D x v → R j D y v)
    (hT : ∀ i j D x v v', i ≠ j → D i = false → R j D x v → T i v v' → R j (dn D i) x v')
    (step : ∀ i o, ops[i]? = some o → ∀ D x v, D i = false → C D v → (∀ k, (∃ e ∈ o.after, Region.binds .any e = true ∧ e.on = k) → R k D x v) → ∀ K : Act → World → Prop,
      (∀ u v', T i v v' → C (dn D i) v' → R i (dn D i) (upd x o.dst u) v' → K ((fillA ds x a).put o.dst u) v') → o.wp P (fillA ds x a) v K Q)
    (fin : ∀ D x v, (∀ i, i < ops.size → D i = true) → C D v → (∀ i, i < ops.size → R i D x v) → Q .normal (fillA ds x a) v) : (Code.region id ops true).wp P Q a w := by
  refine wp_region_any hm ?_
  refine wpAny_inv (fun L a' v => ∃ x, a' = fillA ds x a ∧ C (fun j => L.getD j false) v ∧ L.size = ops.size ∧ (∀ j, L.getD j false = true → R j (fun j => L.getD j false) x v) ∧
    ∀ j o, ops[j]? = some o → L.getD j false = true → ∀ e ∈ o.after, Region.binds .any e = true → L.getD e.on false = true) ?_ ?_ _ _ _ _ (left_le _ _) ?_
  · rintro L a' v ⟨x, rfl, hCv, hsz, hL, hcl⟩ i hi
    obtain ⟨h0, o, ho, hdep⟩ := mem_ready.1 hi
    obtain ⟨b1, b2, b3, b4⟩ := relB_at hB ho
    have hisz := (Array.getElem?_eq_some_iff.1 ho).1
    have h0' : L.getD i false = false := by rw [← getD_both_ (by omega)]; exact h0
    unfold wpOp
    rw [ho]
    simp only [Region.wanted, b1, if_true]
    have e0 : (fun j => (L.setIfInBounds i true).getD j false) = dn (fun j => L.getD j false) i := funext fun j => by
      unfold dn
      by_cases hij : j = i
      · subst hij; simp [hsz, hisz]
      · rw [if_neg hij, getD_set_ne false (fun h => hij h.symm)]
    refine .inl (step i o ho _ x v h0' hCv (fun k ⟨e, he, hb, hk⟩ => hk ▸ hL _ (hdep e he hb)) _ (fun u v' hTv hCv' hRi => ?_))
    refine ⟨upd x o.dst u, fill_put b2, ?_, by simpa using hsz, fun j hj => ?_, fun j oj hoj hj e he hb => ?_⟩
    · show C (fun j => (L.setIfInBounds i true).getD j false) v'
      rw [e0]
      exact hCv'
    · rw [e0]
      by_cases hij : i = j
      · subst hij; exact hRi
      · rw [getD_set_ne false hij] at hj
        have hj2 : j < ops.size := by
          rcases Nat.lt_or_ge j L.size with h | h
          · omega
          · simp [Array.getElem?_eq_none h] at hj
        obtain ⟨oj, hoj⟩ : ∃ oj, ops[j]? = some oj := ⟨_, Array.getElem?_eq_getElem hj2⟩
        refine hR j _ x _ v' (fun s hs => ?_) (hT i j _ x v v' hij h0' (hL j hj) hTv)
        by_cases hd : o.dst = some s
        · obtain ⟨e, he, hb, hon⟩ := (relB_at hB hoj).2.2.2 i o s ho hij hd hs
          have h1 := hcl j oj hoj hj e he hb
          rw [hon, ← getD_both_ (by omega), h0] at h1
          cases h1
        · unfold upd; rw [if_neg (fun h => hd h.symm)]
    · by_cases hij : i = j
      · subst hij
        rw [ho] at hoj
        injection hoj with hoj
        subst hoj
        exact getD_set_true (hdep e he hb)
      · rw [getD_set_ne false hij] at hj
        exact getD_set_true (hcl j oj hoj hj e he hb)
  · rintro L a' v ⟨x, rfl, hCv, hsz, hL, hcl⟩ hr
    have hall : ∀ n j, j < n → j < ops.size → L.getD j false = true := by
      intro n
      induction n with
      | zero => intro j h; exact absurd h (by omega)
      | succ n ih =>
        intro j hj hjs
        obtain ⟨oj, hoj⟩ : ∃ oj, ops[j]? = some oj := ⟨_, Array.getElem?_eq_getElem hjs⟩
        by_cases hd : L.getD j true = true
        · rw [← getD_both_ (by omega)]; exact hd
        · have hmem : j ∈ Region.ready .any ops L := mem_ready.2 ⟨by simpa using hd, oj, hoj, fun e he hb => by
            have h1 := (relB_at hB hoj).2.2.1 e he hb
            exact ih e.on (by omega) (by omega)⟩
          rw [hr] at hmem
          cases hmem
    exact fin _ x v (fun i hi => hall (i + 1) i (by omega) hi) hCv (fun i hi => hL i (hall (i + 1) i (by omega) hi))
  · refine ⟨fun s => a.tmps.getD s undef, (fill_self ds a).symm, ?_, by simp, fun j hj => ?_, fun j o ho hj => ?_⟩
    · refine Eq.mp (congrArg (fun d => C d w.drew) ?_) hC
      funext j
      rcases Nat.lt_or_ge j ops.size with h | h
      · simp [h]
      · simp [h]
    all_goals
      exfalso
      rcases Nat.lt_or_ge j ops.size with h | h
      · simp [h] at hj
      · simp [h] at hj
section
variable {q : TypeId → Prop} {B n : Nat} {sb : Option Nat} {v v' v'' : World}
theorem rdr_pos {w : World} {g p p' : Nat} (h : Rdr B w g p) (h' : Rdr B w g p') : p = p' := by
 obtain ⟨A, m, c, ho, _⟩ := h.ok
 obtain ⟨A', m', c', ho', _⟩ := h'.ok
 unfold Own at ho ho'
 rw [ho] at ho'
 simp at ho'
 omega
theorem GT.read {g p p' : Nat} (hq : q 172) (hr : Rdr B v g p) (hr' : Rdr B v' g p') (hp : p' ≤ p + 1000) (hg : v.grownBy v' (some g)) : GT q B sb 1 v v' := by
 obtain ⟨A, m, c, ho, _, _, hBg⟩ := hr.ok
 have hot := oth_gr hg ho
 refine ⟨⟨hot.1, fun b t cs h hn => hot.2 b t cs h (fun e => hn (by rw [e]; exact hq))⟩, fun b t cs h ht _ => hot.2 b t cs h ht, ?_, fun g2 p2 h2 => ?_⟩
 ·exact ⟨hg.os, hg.tape, hg.output, hg.size, fun k hk => hg.block k (by have := ho.lt; omega) (by intro e; injection e with e; omega)⟩
 ·by_cases he : g2 = g
  ·subst he
   have := rdr_pos hr h2
   subst this
   exact ⟨_, by omega, hr'⟩
  ·exact ⟨p2, by omega, rdr_row h2 hg (by intro e; injection e with e; exact he e) (by intro k e; injection e with e; omega)⟩
theorem GT.set2 {b : Nat} {t : TypeId} {cs : Array Value} (ho : Own v b t cs) (hq : q t) (ht : t ≠ 172) (hB : B ≤ b) (u0 u1 : Value) :
  GT q B (some b) 0 v ((v.setCell ⟨b, 0, none⟩ u0).setCell ⟨b, 1, none⟩ u1) :=
 (GT.set ho hq ht hB).trans (GT.set (ho.set_ 0 u0) hq ht hB)
end
section
variable {q : TypeId → Prop} {B i : Nat} {w0 v v' : World} {rs : List (Nat × Nat)} {nums : List Nat} {F : List (Nat × TypeId × Array Value)} {M : World → Prop} {S : List SBx} {D : Nat → Bool}
theorem GC.store {e0 : SBx} {cs0 : Array Value} (h : GC B w0 rs nums F M S D v) (hs : GStat q nums F M S) (hD : D i = false) (ht : gtt q B nums S i v v') (hm : e0 ∈ S) (hi : e0.op = i) (ho : Own v' e0.box e0.ty cs0) (hn : e0.new cs0 v') : GC B w0 rs nums F M S (dn D i) v' := by
 refine ⟨h.bl.trans ht.bel, fun e he => ?_, fun e he => ?_, hs.hM _ _ ht.oth h.mm, fun e he => ?_⟩
 ·obtain ⟨p, h1, h2⟩ := h.rd e he
  obtain ⟨p', h3, h4⟩ := ht.rd _ _ h2
  exact ⟨p', by rw [cn_dn hs.nd hD]; omega, h4⟩
 ·refine ht.own _ _ _ (h.ob e he) (hs.hF e he).1 fun e1 => ?_
  obtain ⟨s, h1, h2, h3⟩ := sbo_some e1.symm
  exact (hs.hF e he).2 s h1 h3
 ·obtain ⟨cs, h1, h2, h3⟩ := h.st e he
  obtain ⟨k1, k2, k3, k4⟩ := hs.hS e he
  by_cases hei : e.op = i
  ·obtain rfl := k3 e0 hm (by rw [hi, hei])
   exact ⟨cs0, ho, (fun hd => by rw [hei, dn_self] at hd; cases hd), fun _ => hn⟩
  ·refine ⟨cs, ht.own _ _ _ h1 k1 fun e1 => ?_, fun hd => h2 (by rwa [dn_ne hei] at hd), fun hd => k4 _ _ _ ht.oth (h3 (by rwa [dn_ne hei] at hd))⟩
   obtain ⟨s, m1, m2, m3⟩ := sbo_some e1.symm
   exact hei ((k2 s m1 m3).symm.trans m2)
end
section
variable {q : TypeId → Prop} {B : Nat} {nums : List Nat} {S : List SBx}
def KG.sat (s : Nat) (f : Value → Prop) : KG q B nums S where
 rd := [s]
 P := fun _ x _ => f (x s)
 loc := fun _ x y _ h hp => by rw [← h s (by simp)]; exact hp
 keep := fun _ _ _ _ _ _ h _ => h
def KG.no : KG q B nums S where
 rd := []
 P := fun _ _ _ => True
 loc := fun _ _ _ _ _ _ => trivial
 keep := fun _ _ _ _ _ _ _ _ => trivial
def KG.rdr (hn : nums.Nodup) (s : Nat) : KG q B nums S where
 rd := [s]
 P := fun D x v => ∃ gr p : Nat, x s = .pointer (some ⟨gr, 0, none⟩) ∧ p ≤ 1000 * cn D nums ∧ Rdr B v gr p
 loc := fun _ x y _ h hp => by rw [← h s (by simp)]; exact hp
 keep := fun i D _ _ _ hD ⟨gr, p, h1, h2, h3⟩ ht => by
  obtain ⟨p', h4, h5⟩ := ht.rd _ _ h3
  exact ⟨gr, p', h1, by rw [cn_dn hn hD]; omega, h5⟩
def kgs (ks : List (KG q B nums S)) (j : Nat) (D : Nat → Bool) (x : Nat → Value) (v : World) : Prop := match ks[j]? with | some k => k.P D x v | none => True
theorem kgs_loc {ks : List (KG q B nums S)} : ∀ j D x y v, (∀ s ∈ (ks.map KG.rd).getD j [], x s = y s) → kgs ks j D x v → kgs ks j D y v := by
 intro j D x y v h hp
 unfold kgs at hp ⊢
 cases hk : ks[j]? with
 | none => trivial
 | some k =>
  rw [hk] at hp
  refine k.loc D x y v (fun s hs => h s ?_) hp
  rw [List.getD_eq_getElem?_getD, List.getElem?_map, hk]
  exact hs
theorem kgs_keep {ks : List (KG q B nums S)} : ∀ i j D x v v', i ≠ j → D i = false → kgs ks j D x v → gtt q B nums S i v v' → kgs ks j (dn D i) x v' := by
 intro i j D x v v' hij hD hp ht
 unfold kgs at hp ⊢
 cases hk : ks[j]? with
 | none => trivial
 | some k =>
  rw [hk] at hp
  exact k.keep i D x v v' hD hp ht
end
def isIn (zs : List Int) (u : Value) : Prop := ∃ z : Int, u = .int .i64 z ∧ z ∈ zs
theorem isIn_small {zs : List Int} (h : ∀ z ∈ zs, -1000 ≤ z ∧ z ≤ 1000001) {z : Int} (hz : z ∈ zs) : small z := h z hz
theorem chg_rd : chg 172 := .inl rfl
theorem chg_ky : chg 61 := .inr (.inr rfl)
abbrev sbE (op box : Nat) (ty : TypeId) (old new : Array Value) : SBx := ⟨op, box, ty, old, fun cs _ => cs = new⟩
theorem sbE_keep {new : Array Value} : ∀ cs v v', Oth chg v v' → (fun (cs : Array Value) (_ : World) => cs = new) cs v → (fun (cs : Array Value) (_ : World) => cs = new) cs v' := fun _ _ _ _ h => h
theorem gstat_one {nums : List Nat} {F : List (Nat × TypeId × Array Value)} {M : World → Prop} {e : SBx} (hn : nums.Nodup) (hF : ∀ f ∈ F, f.2.1 ≠ 172 ∧ e.box ≠ f.1) (hM : ∀ v v', Oth chg v v' → M v → M v') (ht : e.ty ≠ 172) (hk : ∀ cs v v', Oth chg v v' → e.new cs v → e.new cs v') : GStat chg nums F M [e] := by
 refine ⟨hn, fun f hf => ⟨(hF f hf).1, fun s hs => ?_⟩, hM, fun s hs => ?_⟩
 ·rw [List.mem_singleton.1 hs]; exact (hF f hf).2
 ·obtain rfl := List.mem_singleton.1 hs
  exact ⟨ht, fun s hs _ => by rw [List.mem_singleton.1 hs], fun s hs _ => List.mem_singleton.1 hs, hk⟩
end Go.Proofs.YtibpnlojlfcpmaaGreatDoor
