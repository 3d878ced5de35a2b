/- A part of the proofs of this seat: Reg. -/
import Derived.Test.YtibpnlojlfcpmaaGreatDoorRTchP
set_option linter.unusedVariables false
set_option linter.unusedSimpArgs false
set_option maxRecDepth 1000000
namespace Go.Proofs.YtibpnlojlfcpmaaGreatDoor
open Go.RowKit
theorem wp_region_rel3 {P : Program} {ops : Array Oper} {Q : Exit → Act → World → Prop} {id : Nat} {a : Act} {w : World} (hm : P.follows .mixedOrders = true) (ds : List Nat) (rds : List (List Nat)) (C : (Nat → Bool) → World → Prop)
    (R : Nat → (Nat → Value) → World → Prop) (T : Nat → World → World → Prop) (hB : relB .any ops ds rds = true) (hC : C (fun _ => false) w.drew)
    (hR : ∀ j x y v, (∀ s ∈ rds.getD j [], x s = y s) → R j x v → R j y v)
    (hT : ∀ i j x v v', i ≠ j → R j x v → T i v v' → R j x v')
    (step : ∀ i o, ops[i]? = some o → ∀ D x v, D i = false → (∀ j oj, ops[j]? = some oj → D j = true → ∀ e ∈ oj.after, Region.binds .any e = true → D e.on = true) → C D v → (∀ k, (∃ e ∈ o.after, Region.binds .any e = true ∧ e.on = k) → R k x v) → ∀ K : Act → World → Prop,
      (∀ u v', T i v v' → C (fun j => if j = i then true else D j) v' → R i (upd x o.dst u) v' → K ((fillA ds x a).put o.dst u) v') → o.wp P (fillA ds x a) v K Q)
    (fin : ∀ D x v, (∀ i, i < ops.size → D i = true) → C D v → (∀ i, i < ops.size → R i x v) → Q .normal (fillA ds x a) v) : (Code.region id ops true).wp P Q a w := by
  refine wp_region_any hm ?_
  refine wpAny_inv (fun L a' v => ∃ x, a' = fillA ds x a ∧ C (fun j => L.getD j false) v ∧ L.size = ops.size ∧ (∀ j, L.getD j false = true → R j x v) ∧
    ∀ j o, ops[j]? = some o → L.getD j false = true → ∀ e ∈ o.after, Region.binds .any e = true → L.getD e.on false = true) ?_ ?_ _ _ _ _ (left_le _ _) ?_
  · rintro L a' v ⟨x, rfl, hCv, hsz, hL, hcl⟩ i hi
    obtain ⟨h0, o, ho, hdep⟩ := mem_ready.1 hi
    obtain ⟨b1, b2, b3, b4⟩ := relB_at hB ho
    have hisz := (Array.getElem?_eq_some_iff.1 ho).1
    have h0' : L.getD i false = false := by rw [← getD_both_ (by omega)]; exact h0
    unfold wpOp
    rw [ho]
    simp only [Region.wanted, b1, if_true]
    refine .inl (step i o ho _ x v h0' (fun j oj hoj hj e he hb => hcl j oj hoj hj e he hb) hCv (fun k ⟨e, he, hb, hk⟩ => hk ▸ hL _ (hdep e he hb)) _ (fun u v' hTv hCv' hRi => ?_))
    refine ⟨upd x o.dst u, fill_put b2, ?_, by simpa using hsz, fun j hj => ?_, fun j oj hoj hj e he hb => ?_⟩
    · have e : (fun j => (L.setIfInBounds i true).getD j false) = (fun j => if j = i then true else L.getD j false) := funext fun j => by
        by_cases hij : j = i
        · subst hij; simp [hsz, hisz]
        · rw [if_neg hij, getD_set_ne false (fun h => hij h.symm)]
      show C (fun j => (L.setIfInBounds i true).getD j false) v'
      rw [e]
      exact hCv'
    · by_cases hij : i = j
      · subst hij; exact hRi
      · rw [getD_set_ne false hij] at hj
        have hj2 : j < ops.size := by
          rcases Nat.lt_or_ge j L.size with h | h
          · omega
          · simp [Array.getElem?_eq_none h] at hj
        obtain ⟨oj, hoj⟩ : ∃ oj, ops[j]? = some oj := ⟨_, Array.getElem?_eq_getElem hj2⟩
        refine hR j x _ v' (fun s hs => ?_) (hT i j x v v' hij (hL j hj) hTv)
        by_cases hd : o.dst = some s
        · obtain ⟨e, he, hb, hon⟩ := (relB_at hB hoj).2.2.2 i o s ho hij hd hs
          have h1 := hcl j oj hoj hj e he hb
          rw [hon, ← getD_both_ (by omega), h0] at h1
          cases h1
        · unfold upd; rw [if_neg (fun h => hd h.symm)]
    · by_cases hij : i = j
      · subst hij
        rw [ho] at hoj
        injection hoj with hoj
        subst hoj
        exact getD_set_true (hdep e he hb)
      · rw [getD_set_ne false hij] at hj
        exact getD_set_true (hcl j oj hoj hj e he hb)
  · rintro L a' v ⟨x, rfl, hCv, hsz, hL, hcl⟩ hr
    have hall : ∀ n j, j < n → j < ops.size → L.getD j false = true := by
      intro n
      induction n with
      | zero => intro j h; exact absurd h (by omega)
      | succ n ih =>
        intro j hj hjs
        obtain ⟨oj, hoj⟩ : ∃ oj, ops[j]? = some oj := ⟨_, Array.getElem?_eq_getElem hjs⟩
        by_cases hd : L.getD j true = true
        · rw [← getD_both_ (by omega)]; exact hd
        · have hmem : j ∈ Region.ready .any ops L := mem_ready.2 ⟨by simpa using hd, oj, hoj, fun e he hb => by
            have h1 := (relB_at hB hoj).2.2.1 e he hb
            exact ih e.on (by omega) (by omega)⟩
          rw [hr] at hmem
          cases hmem
    exact fin _ x v (fun i hi => hall (i + 1) i (by omega) hi) hCv (fun i hi => hL i (hall (i + 1) i (by omega) hi))
  · refine ⟨fun s => a.tmps.getD s undef, (fill_self ds a).symm, ?_, by simp, fun j hj => ?_, fun j o ho hj => ?_⟩
    · refine Eq.mp (congrArg (fun d => C d w.drew) ?_) hC
      funext j
      rcases Nat.lt_or_ge j ops.size with h | h
      · simp [h]
      · simp [h]
    all_goals
      exfalso
      rcases Nat.lt_or_ge j ops.size with h | h
      · simp [h] at hj
      · simp [h] at hj
theorem wp_region_rel2 {P : Program} {ops : Array Oper} {Q : Exit → Act → World → Prop} {id : Nat} {a : Act} {w : World} (hm : P.follows .mixedOrders = true) (ds : List Nat) (rds : List (List Nat)) (C : (Nat → Bool) → World → Prop)
    (R : Nat → (Nat → Value) → World → Prop) (T : Nat → World → World → Prop) (hB : relB .any ops ds rds = true) (hC : C (fun _ => false) w.drew)
    (hR : ∀ j x y v, (∀ s ∈ rds.getD j [], x s = y s) → R j x v → R j y v)
    (hT : ∀ i j x v v', i ≠ j → R j x v → T i v v' → R j x v')
    (step : ∀ i o, ops[i]? = some o → ∀ D x v, D i = false → C D v → (∀ k, (∃ e ∈ o.after, Region.binds .any e = true ∧ e.on = k) → R k x v) → ∀ K : Act → World → Prop,
      (∀ u v', T i v v' → C (fun j => if j = i then true else D j) v' → R i (upd x o.dst u) v' → K ((fillA ds x a).put o.dst u) v') → o.wp P (fillA ds x a) v K Q)
    (fin : ∀ D x v, (∀ i, i < ops.size → D i = true) → C D v → (∀ i, i < ops.size → R i x v) → Q .normal (fillA ds x a) v) : (Code.region id ops true).wp P Q a w :=
  wp_region_rel3 hm ds rds C R T hB hC hR hT (fun i o ho D x v hD _ hCv hd K hK => step i o ho D x v hD hCv hd K hK) fin
theorem own_gr {w w' : World} {b g : Nat} {t : TypeId} {cs : Array Value} (h : Own w b t cs) (hg : w.grownBy w' (some g)) (hne : b ≠ g) : Own w' b t cs := (hg.block b h.lt (by simpa using hne)).trans h
theorem cn_le (D : Nat → Bool) : ∀ l : List Nat, cn D l ≤ l.length
  | [] => Nat.le_refl _
  | a :: l => by
    have := cn_le D l
    unfold cn
    simp only [List.length_cons]
    split <;> omega
theorem cn_zero : ∀ l : List Nat, cn (fun _ => false) l = 0
 | [] => rfl
 | a :: l => by unfold cn; rw [cn_zero l]; rfl
theorem cn_all {D : Nat → Bool} : ∀ {l : List Nat}, (∀ i ∈ l, D i = true) → cn D l = l.length
  | [], _ => rfl
  | a :: l, h => by
    unfold cn
    rw [cn_all (fun i hi => h i (by simp [hi])), h a (by simp), if_pos rfl]
    simp; omega
def tX (si i : Nat) (v v' : World) : Prop := if i = si then stS 48 9 v v' else othR v v'
def kxs {si : Nat} (ks : List (KX si)) (j : Nat) (x : Nat → Value) (v : World) : Prop := match ks[j]? with | some k => k.P j x v | none => True
theorem kxs_loc {si : Nat} {ks : List (KX si)} : ∀ j x y v, (∀ s ∈ (ks.map KX.rd).getD j [], x s = y s) → kxs ks j x v → kxs ks j y v := by
 intro j x y v h hp
 unfold kxs at hp ⊢
 cases hk : ks[j]? with
 | none => trivial
 | some k =>
  rw [hk] at hp
  refine k.loc j x y v (fun s hs => h s ?_) hp
  rw [List.getD_eq_getElem?_getD, List.getElem?_map, hk]
  exact hs
theorem kxs_keep {si : Nat} {ks : List (KX si)} : ∀ i j x v v', i ≠ j → kxs ks j x v → tX si i v v' → kxs ks j x v' := by
 intro i j x v v' hij hp ht
 unfold kxs at hp ⊢
 cases hk : ks[j]? with
 | none => trivial
 | some k =>
  rw [hk] at hp
  unfold tX at ht
  split at ht
  ·rename_i hi
   exact k.ks j x v v' (by omega) hp ht
  ·exact k.kb j x v v' hp ht
theorem tX_oth {si i : Nat} {v v' : World} (hi : i ≠ si) (h : othR v v') : tX si i v v' := by unfold tX; rw [if_neg hi]; exact h
theorem tX_below {si i : Nat} {v v' : World} (hi : i ≠ si) (h : Below v.heap.size v v') : tX si i v v' := tX_oth hi (Oth.of_below h)
theorem tX_same {si i : Nat} {v : World} (hi : i ≠ si) : tX si i v v := tX_below hi bR
theorem tX_store {si : Nat} {v v' : World} (h : stS 48 9 v v') : tX si si v v' := by unfold tX; rw [if_pos rfl]; exact h
section
variable {si : Nat}
def KX.sat (s : Nat) (q : Value → Prop) : KX si where
 rd := [s]
 P := fun _ x _ => q (x s)
 loc := fun _ x y _ h hp => by rw [← h s (by simp)]; exact hp
 kb := fun _ _ _ _ h _ => h
 ks := fun _ _ _ _ _ h _ => h
def KX.fst (t s B : Nat) (f : Ma → Value → Value → Value → Value → Value → Prop) : KX si where
 rd := [t, s]
 P := fun _ x v => ∃ (m : Ma) (e1 e2 e3 e4 : Value), f m e1 e2 e3 e4 (x t) ∧ x s = .agg #[e1, e2, e3, .int .i64 m.c.hand, .int .i64 m.g.count, .int .i64 m.g.next, .int .i64 m.g.round, e4, .int .i64 m.sp] ∧ MaM B v e1 e2 e3 e4 m
 loc := fun _ x y _ h hp => by rw [← h s (by simp), ← h t (by simp)]; exact hp
 kb := fun _ _ _ _ ⟨m, e1, e2, e3, e4, h1, h2, h3⟩ ho => ⟨m, e1, e2, e3, e4, h1, h2, h3.oth ho (by decide) (by decide) (by decide) (by decide)⟩
 ks := fun _ _ _ _ _ ⟨m, e1, e2, e3, e4, h1, h2, h3⟩ hs => ⟨m, e1, e2, e3, e4, h1, h2, h3.oth hs.1 (by decide) (by decide) (by decide) (by decide)⟩
def KX.stored (t s b B : Nat) (f : Ma → Value → Value → Value → Value → Value → Prop) : KX si where
 rd := [t, s]
 P := fun j x v => j = si ∧ ∃ (gb : Nat) (m : Ma) (e1 e2 e3 e4 : Value), x s = .pointer (some ⟨gb, 0, none⟩) ∧ b ≤ gb ∧ f m e1 e2 e3 e4 (x t) ∧ MaM B v e1 e2 e3 e4 m ∧ Own v gb 48 #[e1, e2, e3, .int .i64 m.c.hand, .int .i64 m.g.count, .int .i64 m.g.next, .int .i64 m.g.round, e4, .int .i64 m.sp]
 loc := fun _ x y _ h hp => by rw [← h s (by simp), ← h t (by simp)]; exact hp
 kb := fun _ _ _ _ ⟨hj, gb, m, e1, e2, e3, e4, h1, h2, h3, h4, h5⟩ ho => ⟨hj, gb, m, e1, e2, e3, e4, h1, h2, h3, h4.oth ho (by decide) (by decide) (by decide) (by decide), ho.2 _ _ _ h5 (by decide)⟩
 ks := fun _ _ _ _ hne ⟨hj, _⟩ _ => absurd hj hne
end
section
variable {B g q : Nat} {F : List (Nat × TypeId × Array Value)} {w : World} {vb vf vl vo : Value} {m : Ma} {v v' : World}
theorem DC.read (h : DC B w g q F vb vf vl vo m v) {q' : Nat} (hr : Rdr B v' g q') (hg : v.grownBy v' (some g)) : DC B w g q' F vb vf vl vo m v' :=
 ⟨hr, gT h.gr hg, h.mm.gr h.rd hg, fun e he => (h.oth hg).2 _ _ _ (h.ob e he) (h.ty e he), h.ty⟩
end
theorem stS_set9 {v : World} {b : Nat} {cs : Array Value} (ho : Own v b 48 cs) (u0 u1 u2 u3 u4 u5 u6 u7 u8 : Value) :
  stS 48 9 v (((((((((v.setCell ⟨b, 0, none⟩ u0).setCell ⟨b, 1, none⟩ u1).setCell ⟨b, 2, none⟩ u2).setCell ⟨b, 3, none⟩ u3).setCell ⟨b, 4, none⟩ u4).setCell ⟨b, 5, none⟩ u5).setCell ⟨b, 6, none⟩ u6).setCell ⟨b, 7, none⟩ u7).setCell ⟨b, 8, none⟩ u8) := by
 have o1 := ho.set_ 0 u0
 have o2 := o1.set_ 1 u1
 have o3 := o2.set_ 2 u2
 have o4 := o3.set_ 3 u3
 have o5 := o4.set_ 4 u4
 have o6 := o5.set_ 5 u5
 have o7 := o6.set_ 6 u6
 have o8 := o7.set_ 7 u7
 exact stS_trans (stS_trans (stS_trans (stS_trans (stS_trans (stS_trans (stS_trans (stS_trans (stS_set ho) (stS_set o1)) (stS_set o2)) (stS_set o3)) (stS_set o4)) (stS_set o5)) (stS_set o6)) (stS_set o7)) (stS_set o8)
def okM (m : Ma) (e1 e2 e3 e4 u : Value) : Prop := ∃ ok : Bool, u = .tuple #[.agg #[e1, e2, e3, .int .i64 m.c.hand, .int .i64 m.g.count, .int .i64 m.g.next, .int .i64 m.g.round, e4, .int .i64 m.sp], .bool ok] ∧ (ok = true → Sz 17 m)
def okM4 (m : Ma) (e1 e2 e3 e4 u : Value) : Prop := ∃ (a b : Int) (ok : Bool), u = .tuple #[.agg #[e1, e2, e3, .int .i64 m.c.hand, .int .i64 m.g.count, .int .i64 m.g.next, .int .i64 m.g.round, e4, .int .i64 m.sp], .int .i64 a, .int .i64 b, .bool ok] ∧ (ok = true → Sz 17 m)
def isN (u : Value) : Prop := ∃ z : Int, u = .int .i64 z
def isK (u : Value) : Prop := ∃ a b : Int, u = .agg #[.int .i64 a, .int .i64 b]
theorem tpl_get {vs ws : Array Value} {i : Nat} {u z : Value} {y : Value} (h1 : y = .tuple vs) (h2 : vs[i]? = some u) (h3 : y = .tuple ws) (h4 : ws[i]? = some z) : u = z := by
 rw [h1] at h3
 injection h3 with h3
 subst h3
 rw [h2] at h4
 injection h4
section
variable {B g q si i : Nat} {w v v' : World} {F : List (Nat × TypeId × Array Value)} {vb vf vl vo : Value} {m : Ma} {l : List Nat} {nb : Option Nat} {D : Nat → Bool}
theorem CX.read (h : CX B w g q F vb vf vl vo m l si nb D v) (hD : D i = false) (hi : i ∈ l) (hn : l.Nodup) (hs : i ≠ si) (hr : Rdr B v' g (q + cn D l + 1)) (hg : v.grownBy v' (some g)) : CX B w g q F vb vf vl vo m l si nb (fun j => if j = i then true else D j) v' := by
 unfold CX
 rw [cn_more hD hi hn, ← Nat.add_assoc]
 exact ⟨h.1.read hr hg, fun b hb hd => let ⟨cs, h1, h2⟩ := h.2 b hb (upd_f hs hd); ⟨cs, h1, (h.1.oth hg).2 _ _ _ h2 (by decide)⟩⟩
theorem CX.store {b : Nat} (h : CX B w g q F vb vf vl vo m l si nb D v) (hi : si ∉ l) (hw : w.heap.size ≤ b) (hg : g < w.heap.size) (hm : ∀ e ∈ F, e.1 ≠ b) {cs : Array Value} (ho : Own v b 48 cs) (u0 u1 u2 u3 u4 u5 u6 u7 u8 : Value) :
  CX B w g q F vb vf vl vo m l si nb (fun j => if j = si then true else D j) (((((((((v.setCell ⟨b, 0, none⟩ u0).setCell ⟨b, 1, none⟩ u1).setCell ⟨b, 2, none⟩ u2).setCell ⟨b, 3, none⟩ u3).setCell ⟨b, 4, none⟩ u4).setCell ⟨b, 5, none⟩ u5).setCell ⟨b, 6, none⟩ u6).setCell ⟨b, 7, none⟩ u7).setCell ⟨b, 8, none⟩ u8) := by
 unfold CX
 rw [cn_same hi]
 exact ⟨h.1.set9 hw hg hm ho u0 u1 u2 u3 u4 u5 u6 u7 u8, fun _ _ hd => by simp at hd⟩
end
theorem len_nine {cs : List Value} (h : cs.length = 9) : ∃ c0 c1 c2 c3 c4 c5 c6 c7 c8, cs = [c0, c1, c2, c3, c4, c5, c6, c7, c8] := by
 match cs, h with
 | [c0, c1, c2, c3, c4, c5, c6, c7, c8], _ => exact ⟨c0, c1, c2, c3, c4, c5, c6, c7, c8, rfl⟩
def PageP (B : Nat) (w : World) (g p : Nat) (e : Ending) (w' : World) : Prop := ∃ z : Int, e = .returned (.int .i64 z) ∧ Rdr B w' g (p + 1) ∧ w.grownBy w' (some g)
theorem l6Page_any (B g p : Nat) (w : World) (h : Rdr B w g p) (hp : p ≤ 1000000) : Calls Tryz.prog 175 #[.pointer (some ⟨g, 0, none⟩)] w (PageP B w g p) := by
 have hl := rdr_lt h
 have HR := Hd (rdr_alloc h (.cells #[.int .i64 1, .int .i64 2, .int .i64 3, .int .i64 4, .int .i64 200, .int .i64 201, .int .i64 5] 3))
 clear h
 go_enter Tryz.func175, Tryz.ntmps175
 go_wp2_with fail
 refine (num_any B g p w.heap.size [1, 2, 3, 4, 200, 201, 5] _ HR.out (Own.new_ w _ _) (by omega) hp (by simp) (by simp)).mono ?_
 rintro e w' ⟨r, rfl, hr, hrd, hg⟩
 have HRD := Hd hrd
 have HG := Hd (gT (gA gR) hg)
 clear hrd hg
 go_wp2
 go_ret
 exact ⟨r, rfl, HRD.out, HG.out⟩
end Go.Proofs.YtibpnlojlfcpmaaGreatDoor
