/- A part of the proofs of this seat: Gn, Kr, KyP, Kys. -/
import Derived.Deep.CutRange
import Derived.Test.YtibpnlojlfcpmaaGreatDoorADprv1
import Derived.Test.YtibpnlojlfcpmaaGreatDoorAGn
set_option linter.unusedVariables false
set_option linter.unusedSimpArgs false
set_option maxRecDepth 1000000
namespace Go.Proofs.YtibpnlojlfcpmaaGreatDoor
open Go.RowKit
theorem wp_region_rel4 {P : Program} {ops : Array Oper} {Q : Exit → Act → World → Prop} {id : Nat} {a : Act} {w : World} (hm : P.follows .mixedOrders = true) (ds : List Nat) (rds : List (List Nat)) (C : (Nat → Bool) → World → Prop)
    (R : Nat → (Nat → Bool) → (Nat → Value) → World → Prop) (T : Nat → World → World → Prop) (hB : relB .any ops ds rds = true) (hC : C (fun _ => false) w.drew)
    (hR : ∀ j D x y v, (∀ s ∈ rds.getD j [], x s = y s) → R j D x v → R j D y v)
    (hT : ∀ i j D x v v', i ≠ j → D i = false → R j D x v → T i v v' → R j (dn D i) x v')
    (step : ∀ i o, ops[i]? = some o → ∀ D x v, D i = false → C D v → (∀ k, (∃ e ∈ o.after, Region.binds .any e = true ∧ e.on = k) → R k D x v) → ∀ K : Act → World → Prop,
      (∀ u v', T i v v' → C (dn D i) v' → R i (dn D i) (upd x o.dst u) v' → K ((fillA ds x a).put o.dst u) v') → o.wp P (fillA ds x a) v K Q)
    (fin : ∀ D x v, (∀ i, i < ops.size → D i = true) → C D v → (∀ i, i < ops.size → R i D x v) → Q .normal (fillA ds x a) v) : (Code.region id ops true).wp P Q a w := by
  refine wp_region_any hm ?_
  refine wpAny_inv (fun L a' v => ∃ x, a' = fillA ds x a ∧ C (fun j => L.getD j false) v ∧ L.size = ops.size ∧ (∀ j, L.getD j false = true → R j (fun j => L.getD j false) x v) ∧
    ∀ j o, ops[j]? = some o → L.getD j false = true → ∀ e ∈ o.after, Region.binds .any e = true → L.getD e.on false = true) ?_ ?_ _ _ _ _ (left_le _ _) ?_
  · rintro L a' v ⟨x, rfl, hCv, hsz, hL, hcl⟩ i hi
    obtain ⟨h0, o, ho, hdep⟩ := mem_ready.1 hi
    obtain ⟨b1, b2, b3, b4⟩ := relB_at hB ho
    have hisz := (Array.getElem?_eq_some_iff.1 ho).1
    have h0' : L.getD i false = false := by rw [← getD_both_ (by omega)]; exact h0
    unfold wpOp
    rw [ho]
    simp only [Region.wanted, b1, if_true]
    have e0 : (fun j => (L.setIfInBounds i true).getD j false) = dn (fun j => L.getD j false) i := funext fun j => by
      unfold dn
      by_cases hij : j = i
      · subst hij; simp [hsz, hisz]
      · rw [if_neg hij, getD_set_ne false (fun h => hij h.symm)]
    refine .inl (step i o ho _ x v h0' hCv (fun k ⟨e, he, hb, hk⟩ => hk ▸ hL _ (hdep e he hb)) _ (fun u v' hTv hCv' hRi => ?_))
    refine ⟨upd x o.dst u, fill_put b2, ?_, by simpa using hsz, fun j hj => ?_, fun j oj hoj hj e he hb => ?_⟩
    · show C (fun j => (L.setIfInBounds i true).getD j false) v'
      rw [e0]
      exact hCv'
    · rw [e0]
      by_cases hij : i = j
      · subst hij; exact hRi
      · rw [getD_set_ne false hij] at hj
        have hj2 : j < ops.size := by
          rcases Nat.lt_or_ge j L.size with h | h
          · omega
          · simp [Array.getElem?_eq_none h] at hj
        obtain ⟨oj, hoj⟩ : ∃ oj, ops[j]? = some oj := ⟨_, Array.getElem?_eq_getElem hj2⟩
        refine hR j _ x _ v' (fun s hs => ?_) (hT i j _ x v v' hij h0' (hL j hj) hTv)
        by_cases hd : o.dst = some s
        · obtain ⟨e, he, hb, hon⟩ := (relB_at hB hoj).2.2.2 i o s ho hij hd hs
          have h1 := hcl j oj hoj hj e he hb
          rw [hon, ← getD_both_ (by omega), h0] at h1
          cases h1
        · unfold upd; rw [if_neg (fun h => hd h.symm)]
    · by_cases hij : i = j
      · subst hij
        rw [ho] at hoj
        injection hoj with hoj
        subst hoj
        exact getD_set_true (hdep e he hb)
      · rw [getD_set_ne false hij] at hj
        exact getD_set_true (hcl j oj hoj hj e he hb)
  · rintro L a' v ⟨x, rfl, hCv, hsz, hL, hcl⟩ hr
    have hall : ∀ n j, j < n → j < ops.size → L.getD j false = true := by
      intro n
      induction n with
      | zero => intro j h; exact absurd h (by omega)
      | succ n ih =>
        intro j hj hjs
        obtain ⟨oj, hoj⟩ : ∃ oj, ops[j]? = some oj := ⟨_, Array.getElem?_eq_getElem hjs⟩
        by_cases hd : L.getD j true = true
        · rw [← getD_both_ (by omega)]; exact hd
        · have hmem : j ∈ Region.ready .any ops L := mem_ready.2 ⟨by simpa using hd, oj, hoj, fun e he hb => by
            have h1 := (relB_at hB hoj).2.2.1 e he hb
            exact ih e.on (by omega) (by omega)⟩
          rw [hr] at hmem
          cases hmem
    exact fin _ x v (fun i hi => hall (i + 1) i (by omega) hi) hCv (fun i hi => hL i (hall (i + 1) i (by omega) hi))
  · refine ⟨fun s => a.tmps.getD s undef, (fill_self ds a).symm, ?_, by simp, fun j hj => ?_, fun j o ho hj => ?_⟩
    · refine Eq.mp (congrArg (fun d => C d w.drew) ?_) hC
      funext j
      rcases Nat.lt_or_ge j ops.size with h | h
      · simp [h]
      · simp [h]
    all_goals
      exfalso
      rcases Nat.lt_or_ge j ops.size with h | h
      · simp [h] at hj
      · simp [h] at hj
section
variable {q : TypeId → Prop} {B : Nat} {nums : List Nat} {S : List SBx}
def kgs (ks : List (KG q B nums S)) (j : Nat) (D : Nat → Bool) (x : Nat → Value) (v : World) : Prop := match ks[j]? with | some k => k.P D x v | none => True
theorem kgs_loc {ks : List (KG q B nums S)} : ∀ j D x y v, (∀ s ∈ (ks.map KG.rd).getD j [], x s = y s) → kgs ks j D x v → kgs ks j D y v := by
 intro j D x y v h hp
 unfold kgs at hp ⊢
 cases hk : ks[j]? with
 | none => trivial
 | some k =>
  rw [hk] at hp
  refine k.loc D x y v (fun s hs => h s ?_) hp
  rw [List.getD_eq_getElem?_getD, List.getElem?_map, hk]
  exact hs
theorem kgs_keep {ks : List (KG q B nums S)} : ∀ i j D x v v', i ≠ j → D i = false → kgs ks j D x v → gtt q B nums S i v v' → kgs ks j (dn D i) x v' := by
 intro i j D x v v' hij hD hp ht
 unfold kgs at hp ⊢
 cases hk : ks[j]? with
 | none => trivial
 | some k =>
  rw [hk] at hp
  exact k.keep i D x v v' hD hp ht
end
theorem isIn_small {zs : List Int} (h : ∀ z ∈ zs, -1000 ≤ z ∧ z ≤ 1000001) {z : Int} (hz : z ∈ zs) : small z := h z hz
theorem chg_rd : chg 172 := .inl rfl
abbrev sbE (op box : Nat) (ty : TypeId) (old new : Array Value) : SBx := ⟨op, box, ty, old, fun cs _ => cs = new⟩
theorem sbE_keep {new : Array Value} : ∀ cs v v', Oth chg v v' → (fun (cs : Array Value) (_ : World) => cs = new) cs v → (fun (cs : Array Value) (_ : World) => cs = new) cs v' := fun _ _ _ _ h => h
theorem gstat_two {nums : List Nat} {F : List (Nat × TypeId × Array Value)} {M : World → Prop} {e e2 : SBx} (hn : nums.Nodup) (hF : ∀ f ∈ F, f.2.1 ≠ 172 ∧ e.box ≠ f.1 ∧ e2.box ≠ f.1) (hM : ∀ v v', Oth chg v v' → M v → M v') (hb : e.box ≠ e2.box) (ho : e.op ≠ e2.op) (ht : e.ty ≠ 172) (ht2 : e2.ty ≠ 172) (hk : ∀ cs v v', Oth chg v v' → e.new cs v → e.new cs v') (hk2 : ∀ cs v v', Oth chg v v' → e2.new cs v → e2.new cs v') : GStat chg nums F M [e, e2] := by
 refine ⟨hn, fun f hf => ⟨(hF f hf).1, fun s hs => ?_⟩, hM, fun s hs => ?_⟩
 ·rcases List.mem_cons.1 hs with h | h
  ·rw [h]; exact (hF f hf).2.1
  ·rw [List.mem_singleton.1 h]; exact (hF f hf).2.2
 ·rcases List.mem_cons.1 hs with h | h
  ·subst h
   refine ⟨ht, fun s hs h1 => ?_, fun s hs h1 => ?_, hk⟩
   ·rcases List.mem_cons.1 hs with h | h
    ·rw [h]
    ·rw [List.mem_singleton.1 h] at h1; exact absurd h1.symm hb
   ·rcases List.mem_cons.1 hs with h | h
    ·exact h
    ·rw [List.mem_singleton.1 h] at h1; exact absurd h1.symm ho
  ·obtain rfl := List.mem_singleton.1 h
   refine ⟨ht2, fun s hs h1 => ?_, fun s hs h1 => ?_, hk2⟩
   ·rcases List.mem_cons.1 hs with h | h
    ·rw [h] at h1; exact absurd h1 hb
    ·rw [List.mem_singleton.1 h]
   ·rcases List.mem_cons.1 hs with h | h
    ·rw [h] at h1; exact absurd h1 ho
    ·exact List.mem_singleton.1 h
def insAt (l : List Key) (x : Key) (j : Nat) : List Key := l.take j ++ x :: l.drop j
theorem insAt_length {l : List Key} {x : Key} {j : Nat} (h : j ≤ l.length) : (insAt l x j).length = l.length + 1 := by
 unfold insAt; simp; omega
theorem insAt_end (l : List Key) (x : Key) : insAt l x l.length = l ++ [x] := by simp [insAt]
theorem insAt_perm (l : List Key) (x : Key) (j : Nat) : (insAt l x j).Perm (l ++ [x]) := by
 have h : (insAt l x j).Perm (x :: l) := by
  unfold insAt
  exact List.perm_middle.trans (by rw [List.take_append_drop])
 exact h.trans (List.perm_append_comm (l₁ := [x]) (l₂ := l))
theorem insAt_at {l : List Key} {x : Key} {i : Nat} (h : i ≤ l.length) (d : Key) : (insAt l x i).getD i d = x := by
 unfold insAt
 rw [List.getD_eq_getElem?_getD, List.getElem?_append_right (by simp; omega)]
 have : i - (l.take i).length = 0 := by simp; omega
 rw [this]; rfl
theorem insAt_before {l : List Key} {x : Key} {i j : Nat} (hj : i < j) (h : i < l.length) (d : Key) : (insAt l x j).getD i d = l[i] := by
 unfold insAt
 rw [List.getD_eq_getElem?_getD, List.getElem?_append_left (by simp; omega), List.getElem?_take, if_pos hj, List.getElem?_eq_getElem h]; rfl
theorem insAt_swap {l : List Key} {x : Key} {i : Nat} (h : i < l.length) : ((insAt l x (i + 1)).set (i + 1) l[i]).set i x = insAt l x i := by
 induction l generalizing i with
 | nil => simp at h
 | cons a l ih =>
  cases i with
  | zero => simp [insAt]
  | succ i =>
   have := ih (i := i) (by simpa using h)
   simp only [insAt] at this ⊢
   simp only [List.take_succ_cons, List.drop_succ_cons, List.cons_append, List.set_cons_succ, List.getElem_cons_succ]
   rw [this]
theorem kso_ins {l : List Key} {x : Key} {j : Nat} (hs : KSo l) (hj : j ≤ l.length) (ha : ∀ y ∈ l.drop j, kb x y = true) (hb : ∀ i, (h : i < l.length) → i + 1 = j → kb x l[i] = false) : KSo (insAt l x j) := by
 unfold KSo at hs
 have hs' := hs
 rw [← List.take_append_drop j l, List.pairwise_append] at hs
 obtain ⟨h1, h2, h3⟩ := hs
 unfold KSo insAt
 rw [List.pairwise_append]
 refine ⟨h1, List.pairwise_cons.2 ⟨fun y hy => kb_asym (ha y hy), h2⟩, fun a hta b hbb => ?_⟩
 rcases List.mem_cons.1 hbb with h | h
 ·subst h
  cases j with
  | zero => simp at hta
  | succ i =>
   have h5 := hb i (by omega) rfl
   obtain ⟨k, hk, e⟩ := List.mem_iff_getElem.1 hta
   rw [List.length_take] at hk
   rw [List.getElem_take] at e
   by_cases hki : k = i
   ·subst hki; rw [← e]; exact h5
   ·have h6 := List.pairwise_iff_getElem.1 hs' k i (by omega) (by omega) (by omega)
    rw [e] at h6
    exact kb_ntrans h6 h5
 ·exact h3 a hta b h
theorem KeyBefore_any (a b c d : Int) (w : World) :
  Calls Tryz.prog 133 #[.agg #[.int .i64 a, .int .i64 b], .agg #[.int .i64 c, .int .i64 d]] w fun r w' => r = .returned (.bool (kb (a, b) (c, d))) ∧ Below w.heap.size w w' := by
 have hx := (Own.new_ w 61 #[.int .i64 a, .int .i64 b]).alloc (o := .cells #[.int .i64 c, .int .i64 d] 61)
 have hy := ownAt (W := w.alloc (.cells #[.int .i64 a, .int .i64 b] 61)) (g := w.heap.size + 1) (t := 61) (cs := #[.int .i64 c, .int .i64 d]) (by simp)
 have hb0 : Below w.heap.size w ((w.alloc (.cells #[.int .i64 a, .int .i64 b] 61)).alloc (.cells #[.int .i64 c, .int .i64 d] 61)) := bA (bA bR)
 generalize hW : (w.alloc (.cells #[.int .i64 a, .int .i64 b] 61)).alloc (.cells #[.int .i64 c, .int .i64 d] 61) = W0 at hx hy hb0
 have x0 := hx.cell_ 0 (v := .int .i64 a) rfl
 have x1 := hx.cell_ 1 (v := .int .i64 b) rfl
 have y0 := hy.cell_ 0 (v := .int .i64 c) rfl
 have y1 := hy.cell_ 1 (v := .int .i64 d) rfl
 have HB := Hd hb0
 clear hx hy hb0
 go_enter Tryz.func133, Tryz.ntmps133
 cases h1 : decide (a < c) with
 | true =>
  have HZ : Hid (kb (a, b) (c, d) = true) := by show _ = _; unfold kb; rw [h1]; rfl
  go_wp2
  go_ret
  exact ⟨by rw [HZ.out]; rfl, HB.out⟩
 | false =>
  cases h2 : (a == c) with
  | true =>
   have HZ : Hid (kb (a, b) (c, d) = decide (b < d)) := by show _ = _; unfold kb; rw [h1]; have := beq_iff_eq.1 h2; subst this; simp
   go_wp2
   go_ret
   exact ⟨by rw [HZ.out]; rfl, HB.out⟩
  | false =>
   have HZ : Hid (kb (a, b) (c, d) = false) := by show _ = _; unfold kb; rw [h1]; have : a ≠ c := beq_eq_false_iff_ne.1 h2; simp [this]
   go_wp2
   go_ret
   exact ⟨by rw [HZ.out]; rfl, HB.out⟩
theorem kcells_set (l : List Key) (k : Nat) (a b : Int) (hk : k < l.length) : ((kcells l).set (k * 2) (.int .i64 a)).set (k * 2 + 1) (.int .i64 b) = kcells (l.set k (a, b)) := by
 induction l generalizing k with
 | nil => simp at hk
 | cons x l ih =>
  cases k with
  | zero => rfl
  | succ k =>
   have h := ih k (by simpa using hk)
   have e : kcells (x :: l) = .int .i64 x.1 :: .int .i64 x.2 :: kcells l := rfl
   have e2 : kcells ((x :: l).set (k + 1) (a, b)) = .int .i64 x.1 :: .int .i64 x.2 :: kcells (l.set k (a, b)) := rfl
   rw [e, e2, ← h, show (k + 1) * 2 = k * 2 + 1 + 1 by omega]
   rfl
theorem own_put {base g c n k : Nat} {e : TypeId} {w : World} {l : List Key} (h : w.ownsRow base e 2 (.slice (some ⟨g, 0, none⟩) n c) n (kcells l)) (hl : l.length = n) (hk : k < n) (a b : Int) :
  ((w.setCell ⟨g, k * 2, none⟩ (.int .i64 a)).setCell ⟨g, k * 2 + 1, none⟩ (.int .i64 b)).ownsRow base e 2 (.slice (some ⟨g, 0, none⟩) n c) n (kcells (l.set k (a, b))) := by
 obtain ⟨h1, h2⟩ := h
 rcases h2 with ⟨e1, _⟩ | ⟨g', cap, cur, e1, hb, ho, hc, hm, hs, ht⟩
 ·cases e1
 ·injection e1 with e1 _ e2
  injection e1 with e1
  injection e1 with e1
  subst e1 e2
  have o1 : Own w g e cur := ho
  have o3 := (o1.set_ (k * 2) (.int .i64 a)).set_ (k * 2 + 1) (.int .i64 b)
  refine ⟨by rw [← kcells_set l k a b (by omega)]; simpa using h1, .inr ⟨g, c, _, rfl, hb, o3, hc, hm, by simpa using hs, ?_⟩⟩
  rw [← kcells_set l k a b (by omega), ← ht]
  simp [List.take_set]
theorem kys_of {t : Tab} {l : List Key} {k : Nat} (hs : KSo l) (hp : l.Perm (keysL (t.fs.take k))) (hk : 0 < k → tv t = true) (he : tv t = false ∨ k = t.fs.length) : l = kys t := by
 by_cases htv : tv t = true
 ·have hke : k = t.fs.length := by rcases he with h | h; rw [h] at htv; cases htv; exact h
  rw [hke, List.take_length] at hp
  unfold kys
  rw [if_pos htv]
  exact ksrt_of hs hp
 ·have h0 : k = 0 := by
   rcases Nat.eq_zero_or_pos k with h | h
   ·exact h
   ·exact absurd (hk h) htv
  subst h0
  unfold kys
  rw [if_neg htv]
  exact List.perm_nil.1 (by simpa [keysL] using hp)
theorem kys_ins {t : Tab} {l : List Key} {k j : Nat} {y : Fr} (hs : KSo l) (hp : l.Perm (keysL (t.fs.take k))) (ey : t.fs[k]? = some y) (hu : y.used = true) (hj : j ≤ l.length) (ha : ∀ v ∈ l.drop j, kb (y.s, y.p) v = true) (hb : ∀ i, (h : i < l.length) → i + 1 = j → kb (y.s, y.p) l[i] = false) : KSo (insAt l (y.s, y.p) j) ∧ (insAt l (y.s, y.p) j).Perm (keysL (t.fs.take (k + 1))) := by
 refine ⟨kso_ins hs hj ha hb, (insAt_perm _ _ _).trans ?_⟩
 rw [keysL_take ey, if_pos hu]
 exact hp.append_right _
def kyok (x : Key) : Prop := 0 ≤ x.1 ∧ x.1 ≤ 15 ∧ 0 ≤ x.2 ∧ x.2 ≤ 255
theorem kyok_of {t : Tab} (h : tv t = true) {k : Nat} {y : Fr} (hk : t.fs[k]? = some y) (hu : y.used = true) : kyok (y.s, y.p) := by
 have h1 := (tv_TV.1 h).ok k y hk
 unfold frok at h1
 rw [if_pos hu, Bool.and_eq_true] at h1
 have h2 := h1.1
 unfold kval at h2
 unfold kyok
 simp [inR] at h2
 simp only
 omega
theorem kys_ok {t : Tab} {x : Key} (h : x ∈ kys t) : kyok x ∧ tv t = true := by
 unfold kys at h
 split at h
 ·rename_i htv
  obtain ⟨i, y, hi, hu, rfl⟩ := keysL_mem.1 ((ksrt_perm _).mem_iff.1 h)
  exact ⟨kyok_of htv hi hu, htv⟩
 ·simp at h
theorem own_keyat {base g c n k : Nat} {e : TypeId} {w : World} {l : List Key} (h : w.ownsRow base e 2 (.slice (some ⟨g, 0, none⟩) n c) n (kcells l)) (hl : l.length = n) (hk : k < n) :
  w.cell? ⟨g, k * 2, none⟩ = some (.int .i64 (l.getD k (0, 0)).1) ∧ w.cell? ⟨g, k * 2 + 1, none⟩ = some (.int .i64 (l.getD k (0, 0)).2) ∧ w.frozen? ⟨g, k * 2, none⟩ = false ∧ w.frozen? ⟨g, k * 2 + 1, none⟩ = false ∧ g < w.heap.size := by
 obtain ⟨A, c', e1, _, _, hr⟩ := own_rd h
 injection e1 with e1 _ _
 subst e1
 have hr' : Ks w.heap.size w (some ⟨g, 0, none⟩) l := by unfold Ks; rw [hl]; exact hr
 obtain ⟨b, o, e2, hb, h3, h4⟩ := hr'.key (k := k) (by omega)
 injection e2 with e2
 injection e2 with e2 e3
 subst e2 e3
 have hg : l.getD k (0, 0) = l[k]'(by omega) := by rw [List.getD_eq_getElem?_getD, List.getElem?_eq_getElem (by omega)]; rfl
 rw [Nat.zero_add] at h3
 have h4' : w.cell? ⟨g, k * 2 + 1, none⟩ = some (.int .i64 (l[k]'(by omega)).2) := by rw [← h4]; congr 2; omega
 obtain ⟨h1, h2⟩ := h
 rcases h2 with ⟨e1, _⟩ | ⟨g', cap, cur, e1, _, ho, _⟩
 ·cases e1
 ·injection e1 with e1 _ _
  injection e1 with e1
  injection e1 with e1
  subst e1
  have o1 : Own w g e cur := ho
  exact ⟨by rw [hg]; exact h3, by rw [hg]; exact h4', o1.free _, o1.free _, hb⟩
set_option maxHeartbeats 4000000 in
theorem KeysOf_any (vb vf : Value) (t : Tab) (w : World) (hT : TaR w vb vf t) (hsz : t.fs.length ≤ 1000) :
  Calls Tryz.prog 56 #[.agg #[vb, vf]] w (Post2 fun v w' => w'.ownsRow w.heap.size 61 2 v (kys t).length (kcells (kys t)) ∧ Below w.heap.size w w') := by
 obtain ⟨Ab, cb, rfl, _⟩ := id hT.b
 obtain ⟨Af, cf, rfl, hbc, hbm, hL⟩ := id hT.f
 have HT := Hd hT
 have HL := Hd hL
 clear hT hL
 have ho := Own.new_ w 40 #[.slice Ab t.bs.length cb, .slice Af t.fs.length cf]
 have hb0 : Below w.heap.size w (w.alloc (.cells #[.slice Ab t.bs.length cb, .slice Af t.fs.length cf] 40)) := bA bR
 have hs0 : (w.alloc (.cells #[.slice Ab t.bs.length cb, .slice Af t.fs.length cf] 40)).heap.size = w.heap.size + 1 := by simp
 have hx := owns_lit (base := w.heap.size + 1) (e := 61) (w.alloc (.cells #[.slice Ab t.bs.length cb, .slice Af t.fs.length cf] 40)) 2 (by omega)
 rw [hs0] at hx
 have ho1 := ho.alloc (o := .cells #[] 61)
 have hb1 : Below w.heap.size w ((w.alloc (.cells #[.slice Ab t.bs.length cb, .slice Af t.fs.length cf] 40)).alloc (.cells #[] 61)) := bA (bA bR)
 generalize hW : (w.alloc (.cells #[.slice Ab t.bs.length cb, .slice Af t.fs.length cf] 40)).alloc (.cells #[] 61) = W0 at hx ho1 hb1
 have HX := Hd hx
 have HO := Hd ho1
 have HB := Hd hb1
 clear hx ho ho1 hb0 hb1
 go_enter Tryz.func56, Tryz.ntmps56
 go_wp2
 go_loopw [3, 4] (fun out u wr => ∃ (k : Nat) (l : List Key), k ≤ t.fs.length ∧ u = .int .i64 k ∧ l.length ≤ k ∧ Hid (KSo l ∧ l.Perm (keysL (t.fs.take k)) ∧ (0 < k → tv t = true)) ∧ Hid (wr.ownsRow (w.heap.size + 1) 61 2 out l.length (kcells l)) ∧ Hid (Own wr w.heap.size 40 #[.slice Ab t.bs.length cb, .slice Af t.fs.length cf]) ∧ Hid (Below w.heap.size w wr)) (fun _ u _ => t.fs.length - (intOf u).toNat)
 case atStart => exact ⟨0, [], by omega, rfl, by simp, Hd ⟨List.Pairwise.nil, by simp [keysL], fun h => absurd h (by omega)⟩, HX, HO, HB⟩
 case round =>
  obtain ⟨k, l, hk, rfl, hlk, HP, HX, HO, HB⟩ := hrel
  have o0 := HO.out.cell_ 0 (v := .slice Ab t.bs.length cb) rfl
  have o1 := HO.out.cell_ 1 (v := .slice Af t.fs.length cf) rfl
  have hlo := HO.out.lt
  by_cases hlt : k < t.fs.length
  ·have hki : (k : Int) < (t.fs.length : Int) := by omega
   go_wp2_with fail
   refine (sTableValid_any _ _ t wr (HT.out.now HB.out)).mono ?_
   rintro e w2 ⟨rfl, hb2⟩
   have HO2 := Hd (HO.out.below hb2)
   have HX2 := Hd (own_kept HX.out hb2)
   have HB2 := Hd (bT HB.out hb2)
   clear o0 o1 hlo HO HX HB hb2
   have o0 := HO2.out.cell_ 0 (v := .slice Ab t.bs.length cb) rfl
   have o1 := HO2.out.cell_ 1 (v := .slice Af t.fs.length cf) rfl
   have hlo := HO2.out.lt
   cases htv : tv t with
   | false =>
    have HE : Hid (l = kys t) := Hd (kys_of HP.out.1 HP.out.2.1 HP.out.2.2 (.inl htv))
    go_wp2
    go_ret
    exact ⟨_, rfl, by rw [← HE.out]; exact own_mono HX2.out (by omega), HB2.out⟩
   | true =>
    obtain ⟨y, ey⟩ : ∃ y, t.fs[k]? = some y := ⟨_, List.getElem?_eq_getElem hlt⟩
    have hfs := (HT.out.now HB2.out).fsl
    obtain ⟨bq, oq, rfl, hbq, y0, y1, y2, y3, y4⟩ := hfs.fr ey
    clear hfs
    have hk0 : (0 : Int) ≤ (k : Int) := by omega
    have HEY := Hd ey
    clear ey
    cases hu : y.used with
    | false =>
     rw [hu] at y0
     have HP2 : Hid (KSo l ∧ l.Perm (keysL (t.fs.take (k + 1))) ∧ (0 < k + 1 → tv t = true)) := Hd ⟨HP.out.1, by rw [keysL_take HEY.out, hu]; simpa using HP.out.2.1, fun _ => htv⟩
     go_wp2
     go_roundw
     case rel => exact ⟨k + 1, l, by omega, by simp, by omega, HP2, HX2, HO2, HB2⟩
     case measure => simp [intOf]; omega
    | true =>
     rw [hu] at y0
     have HU := Hd hu
     have HTV := Hd htv
     have hsz2 : w.heap.size + 1 ≤ w2.heap.size := hlo
     obtain ⟨A8, c8, rfl, _⟩ := own_rd HX2.out
     obtain ⟨v7, w7, hrun, hown7, hg7, _⟩ := run_append_key (w.heap.size + 1) w2 (.slice A8 l.length c8) l.length l y.s y.p HX2.out rfl (by omega) hsz2
     have hbl : ∀ b, (Value.slice A8 l.length c8).ownBlock = some b → w.heap.size + 1 ≤ b := own_block HX2.out
     have ho7 := own_other (HO2.out.alloc (o := .cells #[.int .i64 y.s, .int .i64 y.p] 61)) hg7 (fun h2 => by have := hbl _ h2.symm; omega)
     have hb7 := bG (bA HB2.out (o := .cells #[.int .i64 y.s, .int .i64 y.p] 61)) hg7 (fun b hb => by have := hbl b hb; omega)
     obtain ⟨g7, c7, rfl⟩ : ∃ g7 c7, v7 = .slice (some ⟨g7, 0, none⟩) (l.length + 1) c7 := by
      rcases hown7.2 with ⟨_, e⟩ | ⟨g, cap, cur, e, _⟩
      ·omega
      ·exact ⟨g, cap, e⟩
     have hg8 : w.heap.size + 1 ≤ g7 := own_block hown7 g7 rfl
     rw [← insAt_end] at hown7
     have HX7 := Hd hown7
     have HO7 := Hd ho7
     have HB7 := Hd hb7
     clear hown7 hg7 hbl ho7 hb7 HX2 HO2 HB2
     go_wp2_with (at_builtin; refine wpList_append_run _ rfl (.tmp 26) (.tmp 33) 58 rfl _ _ _ _ rfl rfl hrun ?_)
     clear hrun
     go_loopw [5] (fun u wi => ∃ j : Nat, u = .int .i64 j ∧ j ≤ l.length ∧ Hid (∀ v ∈ l.drop j, kb (y.s, y.p) v = true) ∧ Hid (wi.ownsRow (w.heap.size + 1) 61 2 (.slice (some ⟨g7, 0, none⟩) (l.length + 1) c7) (l.length + 1) (kcells (insAt l (y.s, y.p) j))) ∧ Hid (Own wi w.heap.size 40 #[.slice Ab t.bs.length cb, .slice (some ⟨bq, oq, none⟩) t.fs.length cf]) ∧ Hid (Below w.heap.size w wi)) (fun u _ => (intOf u).toNat)
     case atStart => exact ⟨l.length, by simp, by omega, Hd (by simp), HX7, HO7, HB7⟩
     case round =>
      obtain ⟨j, rfl, hj, HP8, HX8, HO8, HB8⟩ := hrel
      clear HX7 HO7 HB7 y0 y1 y2 y3 y4 o0 o1 hlo hu htv
      have hl' := insAt_length (x := (y.s, y.p)) hj
      by_cases hj0 : 0 < j
      ·obtain ⟨i, rfl⟩ : ∃ i, j = i + 1 := ⟨j - 1, by omega⟩
       have hji : (0 : Int) < (i : Int) + 1 := by omega
       have hjc : (i : Int) + 1 - 1 = (i : Int) := by omega
       have hjn : ((i : Int) + 1).toNat = i + 1 := by omega
       have hbd1 : (i : Int) + 1 < (l.length : Int) + 1 := by omega
       have hbd2 : (i : Int) < (l.length : Int) + 1 := by omega
       have hbd3 : (0 : Int) ≤ (i : Int) + 1 := by omega
       have hbd4 : i < l.length + 1 := by omega
       have hwi : IntKind.i64.wrap (i : Int) = i := IntWalk.i64_in _ (by omega)
       have hbd5 : i ≤ l.length := by omega
       have hbd6 : decide (i < l.length + 1) = true := by simp; omega
       have hil : i < l.length := by omega
       obtain ⟨a0, a1, a2, a3, a4⟩ := own_keyat HX8.out hl' (k := i + 1) (by omega)
       obtain ⟨b0, b1, b2, b3, _⟩ := own_keyat HX8.out hl' (k := i) (by omega)
       rw [insAt_at hj] at a0 a1
       rw [insAt_before (Nat.lt_succ_self i) hil] at b0 b1
       dsimp only at a0 a1
       obtain ⟨u2, hu2⟩ : ∃ u, l[i] = u := ⟨_, rfl⟩
       rw [hu2] at b0 b1
       have HU2 := Hd hu2
       have HL' := Hd hl'
       clear hu2 hl'
       have hi0 : (0 : Int) ≤ (i : Int) := by omega
       have hi1 : (i : Int) < ((l.length + 1 : Nat) : Int) := by omega
       have hi2 : ((i + 1 : Nat) : Int) < ((l.length + 1 : Nat) : Int) := by omega
       have hi3 : (0 : Int) ≤ ((i + 1 : Nat) : Int) := by omega
       go_wp2
       go_still_tail 12, (by kernel_rfl)
       go_wp2_with fail
       refine (KeyBefore_any _ _ _ _ _).mono ?_
       rintro _ w9 ⟨rfl, hbz⟩
       have hbw : Below wr.heap.size wr w9 := bT (bD bR) hbz
       have HX9 := Hd (own_kept HX8.out hbw)
       have HO9 := Hd (HO8.out.below hbw)
       have HB9 := Hd (bT HB8.out hbw)
       clear HX8 HO8 HB8 hbz hbw a0 a1 a2 a3 a4 b0 b1 b2 b3
       cases hz : kb (y.s, y.p) (u2.1, u2.2) with
       | false =>
        have HPN := Hd (kys_ins HP.out.1 HP.out.2.1 HEY.out HU.out hj HP8.out (fun i' h e => by have hii : i' = i := (by omega); subst hii; rw [HU2.out]; exact hz))
        go_wp2
        go_roundw
        case rel => exact ⟨k + 1, insAt l (y.s, y.p) (i + 1), by omega, by simp, by rw [HL'.out]; omega, Hd ⟨HPN.out.1, HPN.out.2, fun _ => HTV.out⟩, by (show World.ownsRow _ _ _ _ _ _ _; rw [HL'.out]; exact HX9.out), HO9, HB9⟩
        case measure => simp [intOf]; omega
       | true =>
        obtain ⟨a0, a1, a2, a3, a4⟩ := own_keyat HX9.out HL'.out (k := i + 1) (by omega)
        obtain ⟨b0, b1, b2, b3, _⟩ := own_keyat HX9.out HL'.out (k := i) (by omega)
        rw [insAt_at hj] at a0 a1
        rw [insAt_before (Nat.lt_succ_self i) hil, HU2.out] at b0 b1
        dsimp only at a0 a1
        have hne : w.heap.size ≠ g7 := by omega
        have hneA : w9.heap.size ≠ g7 := by omega
        have hXA := HX9.out.alloc (.cells #[.int .i64 y.s, .int .i64 y.p] 61)
        have hOA := Own.new_ w9 61 #[.int .i64 y.s, .int .i64 y.p]
        have hX11 := own_put hXA HL'.out (k := i + 1) (by omega) u2.1 u2.2
        have hO11 := (hOA.far (p := ⟨g7, (i + 1) * 2, none⟩) (u := .int .i64 u2.1) hneA).far (p := ⟨g7, (i + 1) * 2 + 1, none⟩) (u := .int .i64 u2.2) hneA
        have hX10 := own_put hX11 (by simpa using HL'.out) (k := i) (by omega) y.s y.p
        rw [show ((insAt l (y.s, y.p) (i + 1)).set (i + 1) (u2.1, u2.2)).set i (y.s, y.p) = insAt l (y.s, y.p) i by rw [← insAt_swap hil, HU2.out]] at hX10
        have hO10 := ((((HO9.out.alloc (o := .cells #[.int .i64 y.s, .int .i64 y.p] 61)).far (p := ⟨g7, (i + 1) * 2, none⟩) (u := .int .i64 u2.1) hne).far (p := ⟨g7, (i + 1) * 2 + 1, none⟩) (u := .int .i64 u2.2) hne).far (p := ⟨g7, i * 2, none⟩) (u := .int .i64 y.s) hne).far (p := ⟨g7, i * 2 + 1, none⟩) (u := .int .i64 y.p) hne
        have hgw : w.heap.size ≤ g7 := by omega
        have hB10 := bS (bS (bS (bS (bA HB9.out (o := .cells #[.int .i64 y.s, .int .i64 y.p] 61)) (p := ⟨g7, (i + 1) * 2, none⟩) (u := .int .i64 u2.1) hgw) (p := ⟨g7, (i + 1) * 2 + 1, none⟩) (u := .int .i64 u2.2) hgw) (p := ⟨g7, i * 2, none⟩) (u := .int .i64 y.s) hgw) (p := ⟨g7, i * 2 + 1, none⟩) (u := .int .i64 y.p) hgw
        have HP10 : Hid (∀ v ∈ l.drop i, kb (y.s, y.p) v = true) := by
         intro v hv
         rw [List.drop_eq_getElem_cons hil] at hv
         rcases List.mem_cons.1 hv with h | h
         ·rw [h, HU2.out]; exact hz
         ·exact HP8.out v h
        have HXA := Hd hXA
        have HOA := Hd hOA
        have HX11 := Hd hX11
        have HO11 := Hd hO11
        have HX10 := Hd hX10
        have HO10 := Hd hO10
        have HB10 := Hd hB10
        clear hX10 hO10 hB10 hXA hOA hX11 hO11 HX9 HO9 HB9 HP8
        go_upto_region 11 with fail
        clear a0 a1 a2 a3 a4 b0 b1 b2 b3
        generalize w9.alloc (.cells #[.int .i64 y.s, .int .i64 y.p] 61) = wA at *
        obtain ⟨a0, a1, a2, a3, a4⟩ := own_keyat HXA.out HL'.out (k := i + 1) (by omega)
        obtain ⟨b0, b1, b2, b3, _⟩ := own_keyat HXA.out HL'.out (k := i) (by omega)
        rw [insAt_at hj] at a0 a1
        rw [insAt_before (Nat.lt_succ_self i) hil, HU2.out] at b0 b1
        go_upto_region 12 with fail
        clear a0 a1 a2 a3 a4 b0 b1 b2 b3 HXA HOA
        generalize (wA.setCell ⟨g7, (i + 1) * 2, none⟩ (.int .i64 u2.1)).setCell ⟨g7, (i + 1) * 2 + 1, none⟩ (.int .i64 u2.2) = wB at *
        obtain ⟨b0, b1, b2, b3, b4⟩ := own_keyat HX11.out (by simpa using HL'.out) (k := i) (by omega)
        have t0 := HO11.out.cell_ 0 (v := .int .i64 y.s) rfl
        have t1 := HO11.out.cell_ 1 (v := .int .i64 y.p) rfl
        go_wp2
        go_roundw
        case rel => exact ⟨i, by simp, by omega, HP10, HX10, HO10, HB10⟩
        case measure => simp [intOf]
      ·obtain rfl : j = 0 := by omega
       have HPN := Hd (kys_ins HP.out.1 HP.out.2.1 HEY.out HU.out hj HP8.out (fun i' h e => absurd e (by omega)))
       have HL' := Hd hl'
       clear hl'
       go_wp2
       go_quiet (fail)
       have HX9 := Hd (own_kept HX8.out (bDN bR (n := nq)))
       have HO9 := Hd (HO8.out.below (bDN bR (n := nq)))
       have HB9 := Hd (bT HB8.out (bDN bR (n := nq)))
       go_wp2
       go_roundw
       case rel => exact ⟨k + 1, insAt l (y.s, y.p) 0, by omega, by simp, by rw [HL'.out]; omega, Hd ⟨HPN.out.1, HPN.out.2, fun _ => HTV.out⟩, by (show World.ownsRow _ _ _ _ _ _ _; rw [HL'.out]; exact HX9.out), HO9, HB9⟩
       case measure => simp [intOf]; omega
  ·obtain rfl : k = t.fs.length := by omega
   have hki : decide ((t.fs.length : Int) < (t.fs.length : Int)) = false := by simp
   have HE : Hid (l = kys t) := Hd (kys_of HP.out.1 HP.out.2.1 HP.out.2.2 (.inr rfl))
   go_wp2
   go_ret
   exact ⟨_, rfl, by rw [← HE.out]; exact own_mono HX.out (by omega), HB.out⟩
theorem kys_small {t : Tab} {k : Nat} (h : k < (kys t).length) : small (kys t)[k].1 ∧ small (kys t)[k].2 := by
 have h2 := (kys_ok (List.getElem_mem h)).1
 unfold kyok at h2
 unfold small
 omega
def KRP (w : World) (v : Value) (w' : World) : Prop := ∃ (m : Ma) (v1 v2 v3 v4 : Value) (a b : Int), v = .tuple #[.agg #[v1, v2, v3, .int .i64 m.c.hand, .int .i64 m.g.count, .int .i64 m.g.next, .int .i64 m.g.round, v4, .int .i64 m.sp], .agg #[.int .i64 a, .int .i64 b]] ∧ MaM w.heap.size w' v1 v2 v3 v4 m ∧ Sz 19 m ∧ small a ∧ small b ∧ Below w.heap.size w w'
end Go.Proofs.YtibpnlojlfcpmaaGreatDoor
