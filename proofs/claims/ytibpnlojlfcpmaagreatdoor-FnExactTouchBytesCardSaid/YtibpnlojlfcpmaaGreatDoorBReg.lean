/- A part of the proofs of this seat: Reg. -/
import Derived.Test.YtibpnlojlfcpmaaGreatDoorBRel
set_option linter.unusedVariables false
set_option linter.unusedSimpArgs false
set_option maxRecDepth 1000000
namespace Go.Proofs.YtibpnlojlfcpmaaGreatDoor
open Go.RowKit
theorem wp_region_rel3 {P : Program} {ops : Array Oper} {Q : Exit → Act → World → Prop} {id : Nat} {a : Act} {w : World} (hm : P.follows .mixedOrders = true) (ds : List Nat) (rds : List (List Nat)) (C : (Nat → Bool) → World → Prop)
    (R : Nat → (Nat → Value) → World → Prop) (T : Nat → World → World → Prop) (hB : relB .any ops ds rds = true) (hC : C (fun _ => false) w.drew)
    (hR : ∀ j x y v, (∀ s ∈ rds.getD j [], x s = y s) → R j x v → R j y v)
    (hT : ∀ i j x v v', i ≠ j → R j x v → T i v v' → R j x v')
    (step : ∀ i o, ops[i]? = some o → ∀ D x v, D i = false → (∀ j oj, ops[j]? = some oj → D j = true → ∀ e ∈ oj.after, Region.binds .any e = true → D e.on = true) → C D v → (∀ k, (∃ e ∈ o.after, Region.binds .any e = true ∧ e.on = k) → R k x v) → ∀ K : Act → World → Prop,
      (∀ u v', T i v v' → C (fun j => if j = i then true else D j) v' → R i (upd x o.dst u) v' → K ((fillA ds x a).put o.dst u) v') → o.wp P (fillA ds x a) v K Q)
    (fin : ∀ D x v, (∀ i, i < ops.size → D i = true) → C D v → (∀ i, i < ops.size → R i x v) → Q .normal (fillA ds x a) v) : (Code.region id ops true).wp P Q a w := by
  refine wp_region_any hm ?_
  refine wpAny_inv (fun L a' v => ∃ x, a' = fillA ds x a ∧ C (fun j => L.getD j false) v ∧ L.size = ops.size ∧ (∀ j, L.getD j false = true → R j x v) ∧
    ∀ j o, ops[j]? = some o → L.getD j false = true → ∀ e ∈ o.after, Region.binds .any e = true → L.getD e.on false = true) ?_ ?_ _ _ _ _ (left_le _ _) ?_
  · rintro L a' v ⟨x, rfl, hCv, hsz, hL, hcl⟩ i hi
    obtain ⟨h0, o, ho, hdep⟩ := mem_ready.1 hi
    obtain ⟨b1, b2, b3, b4⟩ := relB_at hB ho
    have hisz := (Array.getElem?_eq_some_iff.1 ho).1
    have h0' : L.getD i false = false := by rw [← getD_both_ (by omega)]; exact h0
    unfold wpOp
    rw [ho]
    simp only [Region.wanted, b1, if_true]
    refine .inl (step i o ho _ x v h0' (fun j oj hoj hj e he hb => hcl j oj hoj hj e he hb) hCv (fun k ⟨e, he, hb, hk⟩ => hk ▸ hL _ (hdep e he hb)) _ (fun u v' hTv hCv' hRi => ?_))
    refine ⟨upd x o.dst u, fill_put b2, ?_, by simpa using hsz, fun j hj => ?_, fun j oj hoj hj e he hb => ?_⟩
    · have e : (fun j => (L.setIfInBounds i true).getD j false) = (fun j => if j = i then true else L.getD j false) := funext fun j => by
        by_cases hij : j = i
        · subst hij; simp [hsz, hisz]
        · rw [if_neg hij, getD_set_ne false (fun h => hij h.symm)]
      show C (fun j => (L.setIfInBounds i true).getD j false) v'
      rw [e]
      exact hCv'
    · by_cases hij : i = j
      · subst hij; exact hRi
      · rw [getD_set_ne false hij] at hj
        have hj2 : j < ops.size := by
          rcases Nat.lt_or_ge j L.size with h | h
          · omega
          · simp [Array.getElem?_eq_none h] at hj
        obtain ⟨oj, hoj⟩ : ∃ oj, ops[j]? = some oj := ⟨_, Array.getElem?_eq_getElem hj2⟩
        refine hR j x _ v' (fun s hs => ?_) (hT i j x v v' hij (hL j hj) hTv)
        by_cases hd : o.dst = some s
        · obtain ⟨e, he, hb, hon⟩ := (relB_at hB hoj).2.2.2 i o s ho hij hd hs
          have h1 := hcl j oj hoj hj e he hb
          rw [hon, ← getD_both_ (by omega), h0] at h1
          cases h1
        · unfold upd; rw [if_neg (fun h => hd h.symm)]
    · by_cases hij : i = j
      · subst hij
        rw [ho] at hoj
        injection hoj with hoj
        subst hoj
        exact getD_set_true (hdep e he hb)
      · rw [getD_set_ne false hij] at hj
        exact getD_set_true (hcl j oj hoj hj e he hb)
  · rintro L a' v ⟨x, rfl, hCv, hsz, hL, hcl⟩ hr
    have hall : ∀ n j, j < n → j < ops.size → L.getD j false = true := by
      intro n
      induction n with
      | zero => intro j h; exact absurd h (by omega)
      | succ n ih =>
        intro j hj hjs
        obtain ⟨oj, hoj⟩ : ∃ oj, ops[j]? = some oj := ⟨_, Array.getElem?_eq_getElem hjs⟩
        by_cases hd : L.getD j true = true
        · rw [← getD_both_ (by omega)]; exact hd
        · have hmem : j ∈ Region.ready .any ops L := mem_ready.2 ⟨by simpa using hd, oj, hoj, fun e he hb => by
            have h1 := (relB_at hB hoj).2.2.1 e he hb
            exact ih e.on (by omega) (by omega)⟩
          rw [hr] at hmem
          cases hmem
    exact fin _ x v (fun i hi => hall (i + 1) i (by omega) hi) hCv (fun i hi => hL i (hall (i + 1) i (by omega) hi))
  · refine ⟨fun s => a.tmps.getD s undef, (fill_self ds a).symm, ?_, by simp, fun j hj => ?_, fun j o ho hj => ?_⟩
    · refine Eq.mp (congrArg (fun d => C d w.drew) ?_) hC
      funext j
      rcases Nat.lt_or_ge j ops.size with h | h
      · simp [h]
      · simp [h]
    all_goals
      exfalso
      rcases Nat.lt_or_ge j ops.size with h | h
      · simp [h] at hj
      · simp [h] at hj
theorem wp_region_rel2 {P : Program} {ops : Array Oper} {Q : Exit → Act → World → Prop} {id : Nat} {a : Act} {w : World} (hm : P.follows .mixedOrders = true) (ds : List Nat) (rds : List (List Nat)) (C : (Nat → Bool) → World → Prop)
    (R : Nat → (Nat → Value) → World → Prop) (T : Nat → World → World → Prop) (hB : relB .any ops ds rds = true) (hC : C (fun _ => false) w.drew)
    (hR : ∀ j x y v, (∀ s ∈ rds.getD j [], x s = y s) → R j x v → R j y v)
    (hT : ∀ i j x v v', i ≠ j → R j x v → T i v v' → R j x v')
    (step : ∀ i o, ops[i]? = some o → ∀ D x v, D i = false → C D v → (∀ k, (∃ e ∈ o.after, Region.binds .any e = true ∧ e.on = k) → R k x v) → ∀ K : Act → World → Prop,
      (∀ u v', T i v v' → C (fun j => if j = i then true else D j) v' → R i (upd x o.dst u) v' → K ((fillA ds x a).put o.dst u) v') → o.wp P (fillA ds x a) v K Q)
    (fin : ∀ D x v, (∀ i, i < ops.size → D i = true) → C D v → (∀ i, i < ops.size → R i x v) → Q .normal (fillA ds x a) v) : (Code.region id ops true).wp P Q a w :=
  wp_region_rel3 hm ds rds C R T hB hC hR hT (fun i o ho D x v hD _ hCv hd K hK => step i o ho D x v hD hCv hd K hK) fin
def small (n : Int) : Prop := -1000 ≤ n ∧ n ≤ 1000001
theorem g_set {w0 w : World} {r : Option Nat} {b i : Nat} {u : Value} (hb : w0.heap.size ≤ b) (h : w0.grownBy w r) : w0.grownBy (w.setCell ⟨b, i, none⟩ u) r :=
 ⟨h.os, h.tape, h.output, by simpa using h.size, fun k hk hne => (Below.heap_setCell w _ u k (by intro e; have e : k = b := e; omega)).trans (h.block k hk hne)⟩
theorem rdr_set1 {B : Nat} {w : World} {g p b i : Nat} {u : Value} (hb : g < b) (h : Rdr B w g p) : Rdr B (w.setCell ⟨b, i, none⟩ u) g p := by
 have hl := rdr_lt h
 exact rdr_grownb h ⟨rfl, rfl, rfl, by simp, fun k hk hne => Below.heap_setCell w _ u k (by rintro rfl; exact hne rfl)⟩ hb
def cn (D : Nat → Bool) : List Nat → Nat
 | [] => 0
 | a :: l => (if D a = true then 1 else 0) + cn D l
theorem cn_same {D : Nat → Bool} {i : Nat} : ∀ {l : List Nat}, i ∉ l → cn (fun j => if j = i then true else D j) l = cn D l
  | [], _ => rfl
  | a :: l, h => by
    have h1 : a ≠ i := fun e => h (by simp [e])
    unfold cn
    rw [cn_same (fun h2 => h (by simp [h2])), if_neg h1]
theorem cn_more {D : Nat → Bool} {i : Nat} (hD : D i = false) : ∀ {l : List Nat}, i ∈ l → l.Nodup → cn (fun j => if j = i then true else D j) l = cn D l + 1
  | [], h, _ => by simp at h
  | a :: l, h, hn => by
    obtain ⟨h1, h2⟩ := List.nodup_cons.1 hn
    unfold cn
    by_cases ha : a = i
    · subst ha
      rw [cn_same h1, if_pos rfl, hD]
      simp; omega
    · rw [cn_more hD (by simp at h; rcases h with h | h; exact absurd h.symm ha; exact h) h2, if_neg ha]
      omega
abbrev othR (v v' : World) : Prop := Oth (fun e => e = 172) v v'
def tX (si i : Nat) (v v' : World) : Prop := if i = si then stS 48 9 v v' else othR v v'
structure KX (si : Nat) where
 rd : List Nat
 P : Nat → (Nat → Value) → World → Prop
 loc : ∀ j x y v, (∀ s ∈ rd, x s = y s) → P j x v → P j y v
 kb : ∀ j x v v', P j x v → othR v v' → P j x v'
 ks : ∀ j x v v', j ≠ si → P j x v → stS 48 9 v v' → P j x v'
def kxs {si : Nat} (ks : List (KX si)) (j : Nat) (x : Nat → Value) (v : World) : Prop := match ks[j]? with | some k => k.P j x v | none => True
theorem kxs_loc {si : Nat} {ks : List (KX si)} : ∀ j x y v, (∀ s ∈ (ks.map KX.rd).getD j [], x s = y s) → kxs ks j x v → kxs ks j y v := by
 intro j x y v h hp
 unfold kxs at hp ⊢
 cases hk : ks[j]? with
 | none => trivial
 | some k =>
  rw [hk] at hp
  refine k.loc j x y v (fun s hs => h s ?_) hp
  rw [List.getD_eq_getElem?_getD, List.getElem?_map, hk]
  exact hs
theorem kxs_keep {si : Nat} {ks : List (KX si)} : ∀ i j x v v', i ≠ j → kxs ks j x v → tX si i v v' → kxs ks j x v' := by
 intro i j x v v' hij hp ht
 unfold kxs at hp ⊢
 cases hk : ks[j]? with
 | none => trivial
 | some k =>
  rw [hk] at hp
  unfold tX at ht
  split at ht
  ·rename_i hi
   exact k.ks j x v v' (by omega) hp ht
  ·exact k.kb j x v v' hp ht
theorem tX_oth {si i : Nat} {v v' : World} (hi : i ≠ si) (h : othR v v') : tX si i v v' := by unfold tX; rw [if_neg hi]; exact h
theorem tX_below {si i : Nat} {v v' : World} (hi : i ≠ si) (h : Below v.heap.size v v') : tX si i v v' := tX_oth hi (Oth.of_below h)
theorem tX_same {si i : Nat} {v : World} (hi : i ≠ si) : tX si i v v := tX_below hi bR
theorem tX_store {si : Nat} {v v' : World} (h : stS 48 9 v v') : tX si si v v' := by unfold tX; rw [if_pos rfl]; exact h
section
variable {si : Nat}
def KX.eq (s : Nat) (u0 : Value) : KX si where
 rd := [s]
 P := fun _ x _ => x s = u0
 loc := fun _ x y _ h hp => by rw [← h s (by simp)]; exact hp
 kb := fun _ _ _ _ h _ => h
 ks := fun _ _ _ _ _ h _ => h
def KX.lit (s : Nat) (cs : Array Value) (n : Nat) : KX si where
 rd := [s]
 P := fun _ x v => ∃ gg : Nat, x s = .slice (some ⟨gg, 0, none⟩) n n ∧ Own v gg 3 cs
 loc := fun _ x y _ h hp => by rw [← h s (by simp)]; exact hp
 kb := fun _ _ _ _ ⟨gg, h1, h2⟩ ho => ⟨gg, h1, ho.2 _ _ _ h2 (by decide)⟩
 ks := fun _ _ _ _ _ ⟨gg, h1, h2⟩ hs => ⟨gg, h1, hs.1.2 _ _ _ h2 (by decide)⟩
def KX.tup (s B : Nat) (f : Ma → Value → Value → Value → Value → Value → Prop) : KX si where
 rd := [s]
 P := fun _ x v => ∃ (m : Ma) (e1 e2 e3 e4 : Value), f m e1 e2 e3 e4 (x s) ∧ MaM B v e1 e2 e3 e4 m
 loc := fun _ x y _ h hp => by rw [← h s (by simp)]; exact hp
 kb := fun _ _ _ _ ⟨m, e1, e2, e3, e4, h1, h2⟩ ho => ⟨m, e1, e2, e3, e4, h1, h2.oth ho (by decide) (by decide) (by decide) (by decide)⟩
 ks := fun _ _ _ _ _ ⟨m, e1, e2, e3, e4, h1, h2⟩ hs => ⟨m, e1, e2, e3, e4, h1, h2.oth hs.1 (by decide) (by decide) (by decide) (by decide)⟩
def KX.part (t s i : Nat) : KX si where
 rd := [t, s]
 P := fun _ x _ => ∃ vs : Array Value, x t = .tuple vs ∧ vs[i]? = some (x s)
 loc := fun _ x y _ h hp => by rw [← h s (by simp), ← h t (by simp)]; exact hp
 kb := fun _ _ _ _ h _ => h
 ks := fun _ _ _ _ _ h _ => h
def KX.box (s b : Nat) : KX si where
 rd := [s]
 P := fun _ x v => ∃ (gb : Nat) (cs : Array Value), x s = .pointer (some ⟨gb, 0, none⟩) ∧ b ≤ gb ∧ cs.size = 9 ∧ Own v gb 48 cs
 loc := fun _ x y _ h hp => by rw [← h s (by simp)]; exact hp
 kb := fun _ _ _ _ ⟨gb, cs, h1, h2, h3, h4⟩ ho => ⟨gb, cs, h1, h2, h3, ho.2 _ _ _ h4 (by decide)⟩
 ks := fun _ _ _ _ _ ⟨gb, cs, h1, h2, h3, h4⟩ hs => let ⟨cs', e1, e2⟩ := hs.2 gb cs h3 h4; ⟨gb, cs', h1, h2, e1, e2⟩
def KX.fst (t s B : Nat) (f : Ma → Value → Value → Value → Value → Value → Prop) : KX si where
 rd := [t, s]
 P := fun _ x v => ∃ (m : Ma) (e1 e2 e3 e4 : Value), f m e1 e2 e3 e4 (x t) ∧ x s = .agg #[e1, e2, e3, .int .i64 m.c.hand, .int .i64 m.g.count, .int .i64 m.g.next, .int .i64 m.g.round, e4, .int .i64 m.sp] ∧ MaM B v e1 e2 e3 e4 m
 loc := fun _ x y _ h hp => by rw [← h s (by simp), ← h t (by simp)]; exact hp
 kb := fun _ _ _ _ ⟨m, e1, e2, e3, e4, h1, h2, h3⟩ ho => ⟨m, e1, e2, e3, e4, h1, h2, h3.oth ho (by decide) (by decide) (by decide) (by decide)⟩
 ks := fun _ _ _ _ _ ⟨m, e1, e2, e3, e4, h1, h2, h3⟩ hs => ⟨m, e1, e2, e3, e4, h1, h2, h3.oth hs.1 (by decide) (by decide) (by decide) (by decide)⟩
def KX.stored (t s b B : Nat) (f : Ma → Value → Value → Value → Value → Value → Prop) : KX si where
 rd := [t, s]
 P := fun j x v => j = si ∧ ∃ (gb : Nat) (m : Ma) (e1 e2 e3 e4 : Value), x s = .pointer (some ⟨gb, 0, none⟩) ∧ b ≤ gb ∧ f m e1 e2 e3 e4 (x t) ∧ MaM B v e1 e2 e3 e4 m ∧ Own v gb 48 #[e1, e2, e3, .int .i64 m.c.hand, .int .i64 m.g.count, .int .i64 m.g.next, .int .i64 m.g.round, e4, .int .i64 m.sp]
 loc := fun _ x y _ h hp => by rw [← h s (by simp), ← h t (by simp)]; exact hp
 kb := fun _ _ _ _ ⟨hj, gb, m, e1, e2, e3, e4, h1, h2, h3, h4, h5⟩ ho => ⟨hj, gb, m, e1, e2, e3, e4, h1, h2, h3, h4.oth ho (by decide) (by decide) (by decide) (by decide), ho.2 _ _ _ h5 (by decide)⟩
 ks := fun _ _ _ _ hne ⟨hj, _⟩ _ => absurd hj hne
def KX.put (t nb B : Nat) (f : Ma → Value → Value → Value → Value → Value → Prop) : KX si where
 rd := [t]
 P := fun j x v => j = si ∧ ∃ (m : Ma) (e1 e2 e3 e4 : Value), f m e1 e2 e3 e4 (x t) ∧ MaM B v e1 e2 e3 e4 m ∧ Own v nb 48 #[e1, e2, e3, .int .i64 m.c.hand, .int .i64 m.g.count, .int .i64 m.g.next, .int .i64 m.g.round, e4, .int .i64 m.sp]
 loc := fun _ x y _ h hp => by rw [← h t (by simp)]; exact hp
 kb := fun _ _ _ _ ⟨hj, m, e1, e2, e3, e4, h3, h4, h5⟩ ho => ⟨hj, m, e1, e2, e3, e4, h3, h4.oth ho (by decide) (by decide) (by decide) (by decide), ho.2 _ _ _ h5 (by decide)⟩
 ks := fun _ _ _ _ hne ⟨hj, _⟩ _ => absurd hj hne
end
structure DC (B : Nat) (w : World) (g q : Nat) (F : List (Nat × TypeId × Array Value)) (vb vf vl vo : Value) (m : Ma) (v : World) : Prop where
 rd : Rdr B v g q
 gr : w.grownBy v (some g)
 mm : MaM B v vb vf vl vo m
 ob : ∀ e ∈ F, Own v e.1 e.2.1 e.2.2
 ty : ∀ e ∈ F, e.2.1 ≠ 172
section
variable {B g q : Nat} {F : List (Nat × TypeId × Array Value)} {w : World} {vb vf vl vo : Value} {m : Ma} {v v' : World}
theorem DC.below (h : DC B w g q F vb vf vl vo m v) (hb : Below v.heap.size v v') : DC B w g q F vb vf vl vo m v' :=
 ⟨rdr_below h.rd hb, gT h.gr (gr_below hb), h.mm.now hb, fun e he => (h.ob e he).below hb, h.ty⟩
theorem DC.oth (h : DC B w g q F vb vf vl vo m v) (hg : v.grownBy v' (some g)) : othR v v' := by
 obtain ⟨A, n, c, ho, _⟩ := h.rd.ok
 exact oth_gr hg ho
theorem DC.set1 (h : DC B w g q F vb vf vl vo m v) {b i : Nat} {u : Value} (hw : w.heap.size ≤ b) (hg : g < w.heap.size) (hm : ∀ e ∈ F, e.1 ≠ b) {cs : Array Value} (ho : Own v b 48 cs) : DC B w g q F vb vf vl vo m (v.setCell ⟨b, i, none⟩ u) :=
 ⟨rdr_set1 (by omega) h.rd, g_set hw h.gr, h.mm.farT ho, fun e he => (h.ob e he).far (hm e he), h.ty⟩
theorem DC.set9 (h : DC B w g q F vb vf vl vo m v) {b : Nat} (hw : w.heap.size ≤ b) (hg : g < w.heap.size) (hm : ∀ e ∈ F, e.1 ≠ b) {cs : Array Value} (ho : Own v b 48 cs) (u0 u1 u2 u3 u4 u5 u6 u7 u8 : Value) :
  DC B w g q F vb vf vl vo m (((((((((v.setCell ⟨b, 0, none⟩ u0).setCell ⟨b, 1, none⟩ u1).setCell ⟨b, 2, none⟩ u2).setCell ⟨b, 3, none⟩ u3).setCell ⟨b, 4, none⟩ u4).setCell ⟨b, 5, none⟩ u5).setCell ⟨b, 6, none⟩ u6).setCell ⟨b, 7, none⟩ u7).setCell ⟨b, 8, none⟩ u8) := by
 have o1 := ho.set_ 0 u0
 have o2 := o1.set_ 1 u1
 have o3 := o2.set_ 2 u2
 have o4 := o3.set_ 3 u3
 have o5 := o4.set_ 4 u4
 have o6 := o5.set_ 5 u5
 have o7 := o6.set_ 6 u6
 have o8 := o7.set_ 7 u7
 exact ((((((((h.set1 hw hg hm ho).set1 hw hg hm o1).set1 hw hg hm o2).set1 hw hg hm o3).set1 hw hg hm o4).set1 hw hg hm o5).set1 hw hg hm o6).set1 hw hg hm o7).set1 hw hg hm o8
theorem DC.own (h : DC B w g q F vb vf vl vo m v) {b : Nat} {t : TypeId} {cs : Array Value} (he : (b, t, cs) ∈ F) : Own v b t cs := h.ob _ he
end
theorem stS_set9 {v : World} {b : Nat} {cs : Array Value} (ho : Own v b 48 cs) (u0 u1 u2 u3 u4 u5 u6 u7 u8 : Value) :
  stS 48 9 v (((((((((v.setCell ⟨b, 0, none⟩ u0).setCell ⟨b, 1, none⟩ u1).setCell ⟨b, 2, none⟩ u2).setCell ⟨b, 3, none⟩ u3).setCell ⟨b, 4, none⟩ u4).setCell ⟨b, 5, none⟩ u5).setCell ⟨b, 6, none⟩ u6).setCell ⟨b, 7, none⟩ u7).setCell ⟨b, 8, none⟩ u8) := by
 have o1 := ho.set_ 0 u0
 have o2 := o1.set_ 1 u1
 have o3 := o2.set_ 2 u2
 have o4 := o3.set_ 3 u3
 have o5 := o4.set_ 4 u4
 have o6 := o5.set_ 5 u5
 have o7 := o6.set_ 6 u6
 have o8 := o7.set_ 7 u7
 exact stS_trans (stS_trans (stS_trans (stS_trans (stS_trans (stS_trans (stS_trans (stS_trans (stS_set ho) (stS_set o1)) (stS_set o2)) (stS_set o3)) (stS_set o4)) (stS_set o5)) (stS_set o6)) (stS_set o7)) (stS_set o8)
def CX (B : Nat) (w : World) (g q : Nat) (F : List (Nat × TypeId × Array Value)) (vb vf vl vo : Value) (m : Ma) (l : List Nat) (si : Nat) (nb : Option Nat) (D : Nat → Bool) (v : World) : Prop :=
 DC B w g (q + cn D l) F vb vf vl vo m v ∧ (∀ b, nb = some b → D si = false → ∃ cs : Array Value, cs.size = 9 ∧ Own v b 48 cs)
section
variable {B g q si i : Nat} {w v v' : World} {F : List (Nat × TypeId × Array Value)} {vb vf vl vo : Value} {m : Ma} {l : List Nat} {nb : Option Nat} {D : Nat → Bool}
theorem upd_f (hs : i ≠ si) (h : (fun j => if j = i then true else D j) si = false) : D si = false := by
 simp only at h
 rw [if_neg (fun e => hs e.symm)] at h
 exact h
theorem CX.same (h : CX B w g q F vb vf vl vo m l si nb D v) (hi : i ∉ l) (hs : i ≠ si) : CX B w g q F vb vf vl vo m l si nb (fun j => if j = i then true else D j) v := by
 unfold CX
 rw [cn_same hi]
 exact ⟨h.1, fun b hb hd => h.2 b hb (upd_f hs hd)⟩
theorem CX.below (h : CX B w g q F vb vf vl vo m l si nb D v) (hb : Below v.heap.size v v') (hi : i ∉ l) (hs : i ≠ si) : CX B w g q F vb vf vl vo m l si nb (fun j => if j = i then true else D j) v' := by
 unfold CX
 rw [cn_same hi]
 exact ⟨h.1.below hb, fun b hn hd => let ⟨cs, h1, h2⟩ := h.2 b hn (upd_f hs hd); ⟨cs, h1, h2.below hb⟩⟩
theorem CX.store {b : Nat} (h : CX B w g q F vb vf vl vo m l si nb D v) (hi : si ∉ l) (hw : w.heap.size ≤ b) (hg : g < w.heap.size) (hm : ∀ e ∈ F, e.1 ≠ b) {cs : Array Value} (ho : Own v b 48 cs) (u0 u1 u2 u3 u4 u5 u6 u7 u8 : Value) :
  CX B w g q F vb vf vl vo m l si nb (fun j => if j = si then true else D j) (((((((((v.setCell ⟨b, 0, none⟩ u0).setCell ⟨b, 1, none⟩ u1).setCell ⟨b, 2, none⟩ u2).setCell ⟨b, 3, none⟩ u3).setCell ⟨b, 4, none⟩ u4).setCell ⟨b, 5, none⟩ u5).setCell ⟨b, 6, none⟩ u6).setCell ⟨b, 7, none⟩ u7).setCell ⟨b, 8, none⟩ u8) := by
 unfold CX
 rw [cn_same hi]
 exact ⟨h.1.set9 hw hg hm ho u0 u1 u2 u3 u4 u5 u6 u7 u8, fun _ _ hd => by simp at hd⟩
end
theorem len_nine {cs : List Value} (h : cs.length = 9) : ∃ c0 c1 c2 c3 c4 c5 c6 c7 c8, cs = [c0, c1, c2, c3, c4, c5, c6, c7, c8] := by
 match cs, h with
 | [c0, c1, c2, c3, c4, c5, c6, c7, c8], _ => exact ⟨c0, c1, c2, c3, c4, c5, c6, c7, c8, rfl⟩
end Go.Proofs.YtibpnlojlfcpmaaGreatDoor
