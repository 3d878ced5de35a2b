/- A part of the proofs of this seat: Mach, Rel, Row. -/
import Derived.Orders
import Derived.Test.YtibpnlojlfcpmaaGreatDoorRMem
set_option linter.unusedVariables false
set_option linter.unusedSimpArgs false
set_option maxRecDepth 1000000
namespace Go.Proofs.YtibpnlojlfcpmaaGreatDoor
open Go.RowKit
structure Enc (α : Type) where
 sz : Nat
 cs : α → List Value
 len : ∀ a, (cs a).length = sz
 one : ∀ a, ∀ u ∈ cs a, u.oneCell' = true
 pos : 0 < sz
namespace Enc
variable {α : Type} (E : Enc α)
def cells (l : List α) : List Value := l.flatMap E.cs
theorem cells_length (l : List α) : (E.cells l).length = l.length * E.sz := by
 induction l with
 | nil => simp [cells]
 | cons x l ih =>
  simp only [cells, List.flatMap_cons, List.length_append, List.length_cons, E.len] at ih ⊢
  rw [ih, Nat.add_mul]; omega
theorem cells_append (l m : List α) : E.cells (l ++ m) = E.cells l ++ E.cells m := by simp [cells]
theorem cells_one (l : List α) : ∀ u ∈ E.cells l, u.oneCell' = true := by
 intro u hu
 obtain ⟨a, _, h⟩ := List.mem_flatMap.1 hu
 exact E.one a u h
theorem cells_cons (a : α) (l : List α) : E.cells (a :: l) = E.cs a ++ E.cells l := rfl
theorem cells_single (a : α) : E.cells [a] = E.cs a := by simp [cells]
theorem cells_get {l : List α} {k j : Nat} {a : α} {u : Value} (h : l[k]? = some a) (hj : (E.cs a)[j]? = some u) : (E.cells l)[k * E.sz + j]? = some u := by
 have hlt : j < E.sz := by rw [← E.len a]; exact (List.getElem?_eq_some_iff.1 hj).1
 induction l generalizing k with
 | nil => simp at h
 | cons x l ih =>
  rw [cells_cons]
  cases k with
  | zero =>
   simp at h
   subst h
   rw [Nat.zero_mul, Nat.zero_add, List.getElem?_append_left (by rw [E.len]; exact hlt)]
   exact hj
  | succ k =>
   have e : (k + 1) * E.sz + j = E.sz + (k * E.sz + j) := by rw [Nat.add_mul]; omega
   rw [List.getElem?_append_right (by rw [E.len, e]; omega), E.len, e, Nat.add_sub_cancel_left]
   exact ih (by simpa using h)
end Enc
abbrev Rs {α : Type} (E : Enc α) (B : Nat) (w : World) (A : Option Addr) (l : List α) : Prop := Rd B w E.sz A l.length (E.cells l)
section
variable {α : Type} {E : Enc α} {B : Nat} {w w' : World} {A : Option Addr} {l : List α}
theorem Rd.el (h : Rs E B w A l) {k : Nat} {a : α} (hk : l[k]? = some a) :
  ∃ b o, A = some ⟨b, o, none⟩ ∧ b < B ∧ ∀ j u, (E.cs a)[j]? = some u → w.cell? ⟨b, o + (k * E.sz + j), none⟩ = some u := by
 obtain ⟨hlt, _⟩ := List.getElem?_eq_some_iff.1 hk
 obtain ⟨b, o, e, hb, hc⟩ := h.at_ (by omega)
 exact ⟨b, o, e, hb, fun j u hj => hc _ _ (E.cells_get hk hj)⟩
theorem rs_nil (A : Option Addr) : Rs E B w A [] := ⟨by simp [Enc.cells], fun h => absurd h (by simp)⟩
theorem rs_own {base : Nat} {e : TypeId} {v : Value} {n : Nat} (hn : n = l.length) (h : w.ownsRow base e E.sz v n (E.cells l)) : ∃ A c, v = .slice A l.length c ∧ l.length ≤ c ∧ c ≤ maxLen ∧ Rs E w.heap.size w A l := by
 subst hn
 exact own_rd h
end
theorem run_append_el {α : Type} (E : Enc α) (t e : TypeId) (i : TypeInfo) (z : Value) (bytes : Nat) (ht : Tryz.prog.underlying t = some (.slice e)) (hi : Tryz.prog.info? e = some i) (hz : i.zero = some z)
  (hs : i.size = E.sz) (hby : i.bytes = bytes) (hzs : z.cells.size = E.sz) (hbb : bytes ≤ 1000)
  (base : Nat) (W : World) (v : Value) (n : Nat) (l : List α) (a : α) (hown : W.ownsRow base e E.sz v n (E.cells l)) (hn : l.length = n) (hn2 : n ≤ 1048576) (hb : base ≤ W.heap.size) :
  ∃ v' w', (Builtin.append_ #[t, t] t #[v, .slice (some ⟨W.heap.size, 0, none⟩) 1 1]).run Tryz.prog (W.alloc (.cells (E.cs a).toArray e)) = .ok v' w' ∧
   w'.ownsRow base e E.sz v' (n + 1) (E.cells (l ++ [a])) ∧ (W.alloc (.cells (E.cs a).toArray e)).grownBy w' v.ownBlock ∧ (v'.ownBlock = v.ownBlock ∨ v'.ownBlock = some (W.heap.size + 1)) := by
 have hr : Rd (W.alloc (.cells (E.cs a).toArray e)).heap.size (W.alloc (.cells (E.cs a).toArray e)) E.sz (some ⟨W.heap.size, 0, none⟩) 1 (E.cells [a]) :=
  ⟨by rw [E.cells_length]; rfl, fun _ => ⟨W.heap.size, 0, rfl, by simp, fun j u hu => by
   rw [Nat.zero_add, (Own.new_ W _ _).cell j]
   rw [E.cells_single] at hu
   simpa using hu⟩⟩
 have hm : n + 1 ≤ maxLen := by simp only [maxLen]; omega
 have hbytes : (n + 1) * bytes ≤ 140737488355328 := Nat.le_trans (Nat.mul_le_mul (show n + 1 ≤ 1048577 by omega) hbb) (by omega)
 obtain ⟨v', w', h1, h2, h3, h4⟩ := run_append_rd (P := Tryz.prog) (W.alloc (.cells (E.cs a).toArray e)) base t t e i z E.sz bytes ht hi hz hs hby hzs E.pos
  v n (E.cells l) (hown.alloc _) _ _ 1 1 _ hr (E.cells_one _) hm hbytes (Nat.le_trans hb (by simp))
 exact ⟨v', w', h1, by rw [E.cells_append]; exact h2, h3, by simpa using h4⟩
structure MineE {α : Type} (E : Enc α) (e : TypeId) (B : Nat) (w : World) (A : Option Addr) (l : List α) : Prop where
 is : Rs E w.heap.size w A l
 own : 0 < l.length → ∃ g cs, A = some ⟨g, 0, none⟩ ∧ B ≤ g ∧ Own w g e cs ∧ l.length * E.sz ≤ cs.size
section
variable {α : Type} {E : Enc α} {e : TypeId} {B : Nat} {w w' : World} {A : Option Addr} {l : List α}
theorem MineE.nil_ (A : Option Addr) : MineE E e B w A [] := ⟨rs_nil A, fun h => absurd h (by simp)⟩
theorem mine_own {v : Value} {n : Nat} (hn : n = l.length) (h : w.ownsRow B e E.sz v n (E.cells l)) : ∃ A c, v = .slice A l.length c ∧ l.length ≤ c ∧ c ≤ maxLen ∧ MineE E e B w A l := by
 obtain ⟨A, c, rfl, h1, h2, h3⟩ := rs_own hn h
 refine ⟨A, c, rfl, h1, h2, h3, fun hl => ?_⟩
 rcases h.2 with ⟨h4, _⟩ | ⟨g, cap, cur, hv, hg, ho, hc, _, hs, _⟩
 ·injection h4 with _ h4; omega
 ·injection hv with hA _ hcc
  refine ⟨g, cur, hA, hg, ho, ?_⟩
  rw [hs]
  exact Nat.mul_le_mul_right _ (by omega)
theorem MineE.below (h : MineE E e B w A l) (hb : Below w.heap.size w w') : MineE E e B w' A l :=
 ⟨h.is.now (Nat.le_refl _) hb, fun hl => let ⟨g, cs, e, hg, ho, hs⟩ := h.own hl; ⟨g, cs, e, hg, ho.below hb, hs⟩⟩
end
theorem slice_max {P : Program} (w : World) (t e : TypeId) (i : TypeInfo) (A : Option Addr) (n c : Nat) (ht : P.underlying t = some (.slice e)) (hi : P.info? e = some i) (hn : n ≤ c) :
  (Instr.slice t (.slice A n c) none (some (.int .i64 (n : Int))) (some (.int .i64 (n : Int)))).run P w = .ok (.slice A n n) w := by
 have h1 : (0 ≤ (n : Int) ∧ (n : Int) ≤ (c : Int)) := ⟨by omega, by omega⟩
 simp [Instr.slice, run_underlying ht, Instr.sliceBounds, Instr.sliceBound, asIntOf, h1, sizeOf, typeInfo, hi]
 cases A <;> simp [Addr.add] <;> (intro hh; exfalso; omega)
end Go.Proofs.YtibpnlojlfcpmaaGreatDoor
namespace Go.Proofs.YtibpnlojlfcpmaaGreatDoor
open Go.RowKit
def fillA : List Nat → (Nat → Value) → Act → Act
 | [], _, a => a
 | s :: ds, x, a => (fillA ds x a).put (some s) (x s)
def upd (x : Nat → Value) (d : Option Nat) (v : Value) : Nat → Value := fun s => if some s = d then v else x s
theorem fill_get (x : Nat → Value) (a : Act) : ∀ ds : List Nat, (fillA ds x a).tmps.size = a.tmps.size ∧ (fillA ds x a).defers = a.defers ∧ ∀ j, (fillA ds x a).tmps[j]? = if j ∈ ds ∧ j < a.tmps.size then some (x j) else a.tmps[j]?
  | [] => ⟨rfl, rfl, fun j => by simp [fillA]⟩
  | s :: ds => by
    obtain ⟨h1, h2, h3⟩ := fill_get x a ds
    refine ⟨by simp [fillA, Act.put, h1], by simp [fillA, Act.put, h2], fun j => ?_⟩
    simp only [fillA, Act.put]
    rw [Array.getElem?_setIfInBounds, h1]
    by_cases hs : s = j
    · subst hs
      rw [if_pos rfl]
      by_cases hl : s < a.tmps.size
      · rw [if_pos hl, if_pos ⟨by simp, hl⟩]
      · rw [if_neg hl, if_neg (fun h => hl h.2), Array.getElem?_eq_none (by omega)]
    · rw [if_neg hs, h3]
      by_cases hj : j ∈ ds
      · simp [hj]
      · have : ¬ j = s := fun h => hs h.symm
        simp [hj, this]
theorem act_ext {a b : Act} (h1 : a.tmps = b.tmps) (h2 : a.defers = b.defers) : a = b := by cases a; cases b; simp_all
theorem fill_put {ds : List Nat} {x : Nat → Value} {a : Act} {d : Option Nat} {v : Value} (hd : ∀ s, d = some s → s ∈ ds) : (fillA ds x a).put d v = fillA ds (upd x d v) a := by
 obtain ⟨h1, h2, h3⟩ := fill_get x a ds
 obtain ⟨g1, g2, g3⟩ := fill_get (upd x d v) a ds
 cases d with
 | none =>
  have : upd x none v = x := by funext s; simp [upd]
  rw [this]; rfl
 | some s =>
  refine act_ext (Array.ext_getElem? fun j => ?_) (by rw [g2]; exact h2)
  rw [g3]
  show ((fillA ds x a).tmps.setIfInBounds s v)[j]? = _
  rw [Array.getElem?_setIfInBounds, h1, h3]
  by_cases hs : s = j
  ·subst hs
   rw [if_pos rfl]
   have hm := hd s rfl
   by_cases hl : s < a.tmps.size
   ·rw [if_pos hl, if_pos ⟨hm, hl⟩]; simp [upd]
   ·rw [if_neg hl, if_neg (fun h => hl h.2), Array.getElem?_eq_none (by omega)]
  ·rw [if_neg hs]
   have : ¬ j = s := fun h => hs h.symm
   simp [upd, this]
theorem fill_self (ds : List Nat) (a : Act) : fillA ds (fun s => a.tmps.getD s undef) a = a := by
 obtain ⟨h1, h2, h3⟩ := fill_get (fun s => a.tmps.getD s undef) a ds
 refine act_ext (Array.ext_getElem? fun j => ?_) h2
 rw [h3]
 split
 ·rename_i h
  simp [h.2]
 ·rfl
section
variable {P : Program} {ops : Array Oper} {md : Region.Mode} {Q : Exit → Act → World → Prop}
def left_ (L : Array Bool) : Nat → Nat
 | 0 => 0
 | n + 1 => left_ L n + (if L.getD n true = true then 0 else 1)
theorem left_ge {L : Array Bool} {i : Nat} : ∀ n, left_ (L.setIfInBounds i true) n ≤ left_ L n
  | 0 => Nat.le_refl _
  | n + 1 => by
    have h := left_ge (L := L) (i := i) n
    unfold left_
    by_cases hin : i = n
    · subst hin
      by_cases h1 : i < L.size
      · have : (L.setIfInBounds i true).getD i true = true := by simp
        rw [if_pos this]; omega
      · rw [if_pos (by simp)]; omega
    · rw [getD_set_ne true hin]; omega
theorem left_lt {L : Array Bool} {i : Nat} (h : L.getD i true = false) : ∀ n, i < n → left_ (L.setIfInBounds i true) n + 1 ≤ left_ L n
  | 0, hn => absurd hn (by omega)
  | n + 1, hn => by
    unfold left_
    by_cases hin : i = n
    · subst hin
      have e1 : (L.setIfInBounds i true).getD i true = true := by simp
      rw [if_pos e1, if_neg (by rw [h]; simp)]
      have := left_ge (L := L) (i := i) i
      omega
    · have := left_lt h n (by omega)
      rw [getD_set_ne true hin]; omega
theorem left_pos {L : Array Bool} {i : Nat} (h : L.getD i true = false) {n : Nat} (hn : i < n) : 1 ≤ left_ L n := by
 have := left_lt h n hn
 omega
theorem wpAny_inv (I : Array Bool → Act → World → Prop)
    (step : ∀ L a w, I L a w → ∀ i ∈ Region.ready md ops L, wpOp P ops Q i (fun a' w' => I (L.setIfInBounds i true) a' w') a w)
    (fin : ∀ L a w, I L a w → Region.ready md ops L = [] → Q .normal a w) : ∀ fuel L a w, left_ L ops.size ≤ fuel → I L a w → wpAny P md ops Q fuel L a w
  | 0, L, a, w, hf, h => by
    have hr : Region.ready md ops L = [] := by
      cases e : Region.ready md ops L with
      | nil => rfl
      | cons i r =>
        obtain ⟨h0, o, ho, _⟩ := mem_ready.1 (show i ∈ Region.ready md ops L by rw [e]; simp)
        have := left_pos h0 (Array.getElem?_eq_some_iff.1 ho).1
        omega
    exact ⟨hr, fin L a w h hr⟩
  | fuel + 1, L, a, w, hf, h => by
    refine ⟨fin L a w h, fun i hi => wpOp_mono (fun a' w' h' => wpAny_inv I step fin fuel _ a' w' ?_ h') (step L a w h i hi)⟩
    obtain ⟨h0, o, ho, _⟩ := mem_ready.1 hi
    have := left_lt h0 ops.size (Array.getElem?_eq_some_iff.1 ho).1
    omega
def relB (md : Region.Mode) (ops : Array Oper) (ds : List Nat) (rds : List (List Nat)) : Bool :=
  (List.range ops.size).all fun j => match ops[j]? with
    | none => false
    | some o => o.guard.isNone && (match o.dst with | some d => ds.contains d | none => true) && o.after.all (fun e => !Region.binds md e || decide (e.on < j))
        && (List.range ops.size).all fun i => i == j || (match ops[i]? with
          | some oi => (match oi.dst with | some d => !(rds.getD j []).contains d || o.after.any (fun e => Region.binds md e && e.on == i) | none => true)
          | none => true)
theorem relB_at {ds : List Nat} {rds : List (List Nat)} (h : relB md ops ds rds = true) {j : Nat} {o : Oper} (ho : ops[j]? = some o) :
  o.guard = none ∧ (∀ s, o.dst = some s → s ∈ ds) ∧ (∀ e ∈ o.after, Region.binds md e = true → e.on < j) ∧
   ∀ i oi s, ops[i]? = some oi → i ≠ j → oi.dst = some s → s ∈ rds.getD j [] → ∃ e ∈ o.after, Region.binds md e = true ∧ e.on = i := by
 unfold relB at h
 rw [List.all_eq_true] at h
 have h1 := h j (List.mem_range.2 (Array.getElem?_eq_some_iff.1 ho).1)
 rw [ho] at h1
 simp only [Bool.and_eq_true] at h1
 obtain ⟨⟨⟨h1, h2⟩, h3⟩, h4⟩ := h1
 refine ⟨by simpa using h1, fun s hs => ?_, fun e he hb => ?_, fun i oi s hi hne hs hm => ?_⟩
 ·rw [hs] at h2; simpa using h2
 ·have := Array.all_eq_true_iff_forall_mem.1 h3 e he
  rw [hb] at this
  simpa using this
 ·rw [List.all_eq_true] at h4
  have h5 := h4 i (List.mem_range.2 (Array.getElem?_eq_some_iff.1 hi).1)
  rw [hi] at h5
  simp only [hs, Bool.or_eq_true, beq_iff_eq] at h5
  rcases h5 with h5 | h5 | h5
  ·exact absurd h5 hne
  ·have hc : (rds.getD j []).contains s = true := List.contains_iff_mem.2 hm
   rw [hc] at h5
   cases h5
  ·obtain ⟨e, he, hb⟩ := Array.any_eq_true'.1 h5
   simp only [Bool.and_eq_true, beq_iff_eq] at hb
   exact ⟨e, he, hb.1, hb.2⟩
theorem left_le (L : Array Bool) : ∀ n, left_ L n ≤ n
  | 0 => Nat.le_refl _
  | n + 1 => by
    have := left_le L n
    unfold left_
    split <;> omega
theorem getD_both_ {L : Array Bool} {i : Nat} (hi : i < L.size) : L.getD i true = L.getD i false := by simp [hi]
theorem wp_region_rel {id : Nat} {a : Act} {w : World} (hm : P.follows .mixedOrders = true) (ds : List Nat) (rds : List (List Nat)) (C : World → Prop)
    (R : Nat → (Nat → Value) → World → Prop) (T : Nat → World → World → Prop) (hB : relB .any ops ds rds = true) (hC : C w.drew)
    (hR : ∀ j x y v, (∀ s ∈ rds.getD j [], x s = y s) → R j x v → R j y v)
    (hT : ∀ i j x v v', i ≠ j → R j x v → T i v v' → R j x v')
    (step : ∀ i o, ops[i]? = some o → ∀ x v, C v → (∀ e ∈ o.after, Region.binds .any e = true → R e.on x v) → ∀ K : Act → World → Prop,
      (∀ u v', T i v v' → C v' → R i (upd x o.dst u) v' → K ((fillA ds x a).put o.dst u) v') → o.wp P (fillA ds x a) v K Q)
    (fin : ∀ x v, C v → (∀ i, i < ops.size → R i x v) → Q .normal (fillA ds x a) v) : (Code.region id ops true).wp P Q a w := by
  refine wp_region_any hm ?_
  refine wpAny_inv (fun L a' v => ∃ x, a' = fillA ds x a ∧ C v ∧ L.size = ops.size ∧ (∀ j, L.getD j false = true → R j x v) ∧
    ∀ j o, ops[j]? = some o → L.getD j false = true → ∀ e ∈ o.after, Region.binds .any e = true → L.getD e.on false = true) ?_ ?_ _ _ _ _ (left_le _ _) ?_
  · rintro L a' v ⟨x, rfl, hCv, hsz, hL, hcl⟩ i hi
    obtain ⟨h0, o, ho, hdep⟩ := mem_ready.1 hi
    obtain ⟨b1, b2, b3, b4⟩ := relB_at hB ho
    have hisz := (Array.getElem?_eq_some_iff.1 ho).1
    unfold wpOp
    rw [ho]
    simp only [Region.wanted, b1, if_true]
    refine .inl (step i o ho x v hCv (fun e he hb => hL _ (hdep e he hb)) _ (fun u v' hTv hCv' hRi => ?_))
    refine ⟨upd x o.dst u, fill_put b2, hCv', by simpa using hsz, fun j hj => ?_, fun j oj hoj hj e he hb => ?_⟩
    · by_cases hij : i = j
      · subst hij; exact hRi
      · rw [getD_set_ne false hij] at hj
        have hj2 : j < ops.size := by
          rcases Nat.lt_or_ge j L.size with h | h
          · omega
          · simp [Array.getElem?_eq_none h] at hj
        obtain ⟨oj, hoj⟩ : ∃ oj, ops[j]? = some oj := ⟨_, Array.getElem?_eq_getElem hj2⟩
        refine hR j x _ v' (fun s hs => ?_) (hT i j x v v' hij (hL j hj) hTv)
        by_cases hd : o.dst = some s
        · obtain ⟨e, he, hb, hon⟩ := (relB_at hB hoj).2.2.2 i o s ho hij hd hs
          have h1 := hcl j oj hoj hj e he hb
          rw [hon, ← getD_both_ (by omega), h0] at h1
          cases h1
        · unfold upd; rw [if_neg (fun h => hd h.symm)]
    · by_cases hij : i = j
      · subst hij
        rw [ho] at hoj
        injection hoj with hoj
        subst hoj
        exact getD_set_true (hdep e he hb)
      · rw [getD_set_ne false hij] at hj
        exact getD_set_true (hcl j oj hoj hj e he hb)
  · rintro L a' v ⟨x, rfl, hCv, hsz, hL, hcl⟩ hr
    refine fin x v hCv (fun i hi => hL i ?_)
    have hall : ∀ n j, j < n → j < ops.size → L.getD j false = true := by
      intro n
      induction n with
      | zero => intro j h; exact absurd h (by omega)
      | succ n ih =>
        intro j hj hjs
        obtain ⟨oj, hoj⟩ : ∃ oj, ops[j]? = some oj := ⟨_, Array.getElem?_eq_getElem hjs⟩
        by_cases hd : L.getD j true = true
        · rw [← getD_both_ (by omega)]; exact hd
        · have hmem : j ∈ Region.ready .any ops L := mem_ready.2 ⟨by simpa using hd, oj, hoj, fun e he hb => by
            have h1 := (relB_at hB hoj).2.2.1 e he hb
            exact ih e.on (by omega) (by omega)⟩
          rw [hr] at hmem
          cases hmem
    exact hall (i + 1) i (by omega) hi
  · refine ⟨fun s => a.tmps.getD s undef, (fill_self ds a).symm, hC, by simp, fun j hj => ?_, fun j o ho hj => ?_⟩
    all_goals
      exfalso
      rcases Nat.lt_or_ge j ops.size with h | h
      · simp [h] at hj
      · simp [h] at hj
theorem wp_region_rel1 {id : Nat} {a : Act} {w : World} (hm : P.follows .mixedOrders = true) (ds sl : List Nat) (C : World → Prop)
    (R : Nat → Value → World → Prop) (T : Nat → World → World → Prop) (hB : relB .any ops ds (sl.map fun s => [s]) = true) (hs : ops.size = sl.length) (hC : C w.drew)
    (hT : ∀ i j u v v', i ≠ j → R j u v → T i v v' → R j u v')
    (step : ∀ i o, ops[i]? = some o → ∀ x v, C v → (∀ k, (∃ e ∈ o.after, Region.binds .any e = true ∧ e.on = k) → k < sl.length → R k (x (sl.getD k 0)) v) → ∀ K : Act → World → Prop,
      (∀ u v', T i v v' → C v' → R i (upd x o.dst u (sl.getD i 0)) v' → K ((fillA ds x a).put o.dst u) v') → o.wp P (fillA ds x a) v K Q)
    (fin : ∀ x v, C v → (∀ i, i < sl.length → R i (x (sl.getD i 0)) v) → Q .normal (fillA ds x a) v) : (Code.region id ops true).wp P Q a w := by
  refine wp_region_rel hm ds (sl.map fun s => [s]) C (fun j x v => j < sl.length → R j (x (sl.getD j 0)) v) T hB hC ?_ ?_ ?_ ?_
  · intro j x y v h hr hj
    have e := h (sl.getD j 0) (by simp [List.getD_eq_getElem?_getD, hj])
    rw [← e]
    exact hr hj
  · exact fun i j x v v' hij h ht hj => hT i j _ v v' hij (h hj) ht
  · intro i o ho x v hCv hd K hK
    refine step i o ho x v hCv (fun k ⟨e, he, hb, hk⟩ hl => ?_) K (fun u v' h1 h2 h3 => hK u v' h1 h2 (fun _ => h3))
    subst hk
    exact hd e he hb hl
  · intro x v hCv h
    exact fin x v hCv (fun i hi => h i (by omega) hi)
end
structure Fr where
 used : Bool
 s : Int
 p : Int
 r : Int
 n : Int
 deriving DecidableEq
structure Tab where
 bs : List Int
 fs : List Fr
structure Ln where
 v : Bool
 t : Int
 p : Int
 f : Int
 r : Int
 w : Bool
 deriving DecidableEq
structure Ca where
 ls : List Ln
 hand : Int
structure Tg where
 count : Int
 next : Int
 round : Int
 os : List (Int × Int)
structure Ma where
 t : Tab
 c : Ca
 g : Tg
 sp : Int
def frz : Fr := ⟨false, 0, 0, 0, -1⟩
def lnz : Ln := ⟨false, 0, 0, 0, 0, false⟩
def intE : Enc Int where
 sz := 1
 cs := fun a => [.int .i64 a]
 len := fun _ => rfl
 one := fun a u hu => by simp at hu; rw [hu]; rfl
 pos := by decide
def owE : Enc (Int × Int) where
 sz := 2
 cs := fun a => [.int .i64 a.1, .int .i64 a.2]
 len := fun _ => rfl
 one := fun a u hu => by simp at hu; rcases hu with rfl | rfl <;> rfl
 pos := by decide
def frE : Enc Fr where
 sz := 5
 cs := fun a => [.bool a.used, .int .i64 a.s, .int .i64 a.p, .int .i64 a.r, .int .i64 a.n]
 len := fun _ => rfl
 one := fun a u hu => by simp at hu; rcases hu with rfl | rfl | rfl | rfl | rfl <;> rfl
 pos := by decide
def lnE : Enc Ln where
 sz := 6
 cs := fun a => [.bool a.v, .int .i64 a.t, .int .i64 a.p, .int .i64 a.f, .int .i64 a.r, .bool a.w]
 len := fun _ => rfl
 one := fun a u hu => by simp at hu; rcases hu with rfl | rfl | rfl | rfl | rfl | rfl <;> rfl
 pos := by decide
def SlR {α : Type} (E : Enc α) (w : World) (v : Value) (l : List α) : Prop := ∃ A c, v = .slice A l.length c ∧ l.length ≤ c ∧ c ≤ maxLen ∧ Rs E w.heap.size w A l
def SlM {α : Type} (E : Enc α) (e : TypeId) (base : Nat) (w : World) (v : Value) (l : List α) : Prop := ∃ A c, v = .slice A l.length c ∧ l.length ≤ c ∧ c ≤ maxLen ∧ MineE E e base w A l
section
variable {α : Type} {E : Enc α} {e : TypeId} {base : Nat} {w w' : World} {v : Value} {l : List α}
theorem SlM.r (h : SlM E e base w v l) : SlR E w v l := let ⟨A, c, h1, h2, h3, h4⟩ := h; ⟨A, c, h1, h2, h3, h4.is⟩
theorem SlR.now (h : SlR E w v l) (hb : Below w.heap.size w w') : SlR E w' v l := let ⟨A, c, h1, h2, h3, h4⟩ := h; ⟨A, c, h1, h2, h3, h4.now (Nat.le_refl _) hb⟩
theorem SlM.now (h : SlM E e base w v l) (hb : Below w.heap.size w w') : SlM E e base w' v l := let ⟨A, c, h1, h2, h3, h4⟩ := h; ⟨A, c, h1, h2, h3, h4.below hb⟩
theorem SlR.nil_ (w : World) : SlR E w (.slice none 0 0) [] := ⟨none, 0, rfl, Nat.le_refl _, by simp [maxLen], rs_nil _⟩
theorem SlM.nil_ (w : World) : SlM E e base w (.slice none 0 0) [] := ⟨none, 0, rfl, Nat.le_refl _, by simp [maxLen], MineE.nil_ _⟩
theorem slm_own {n : Nat} (hn : n = l.length) (h : w.ownsRow base e E.sz v n (E.cells l)) : SlM E e base w v l := by
 obtain ⟨A, c, h1, h2, h3, h4⟩ := mine_own hn h
 exact ⟨A, c, h1, h2, h3, h4⟩
theorem SlM.mono {base' : Nat} (h : SlM E e base w v l) (hb : base' ≤ base) : SlM E e base' w v l := by
 obtain ⟨A, c, h1, h2, h3, h4, h5⟩ := h
 exact ⟨A, c, h1, h2, h3, h4, fun hl => let ⟨g, cs, e1, e2, e3⟩ := h5 hl; ⟨g, cs, e1, Nat.le_trans hb e2, e3⟩⟩
end
structure TaR (w : World) (vb vf : Value) (t : Tab) : Prop where
 b : SlR intE w vb t.bs
 f : SlR frE w vf t.fs
structure TaM (base : Nat) (w : World) (vb vf : Value) (t : Tab) : Prop where
 b : SlM intE 3 base w vb t.bs
 f : SlM frE 66 base w vf t.fs
theorem TaM.r {base : Nat} {w : World} {vb vf : Value} {t : Tab} (h : TaM base w vb vf t) : TaR w vb vf t := ⟨h.b.r, h.f.r⟩
theorem TaR.now {w w' : World} {vb vf : Value} {t : Tab} (h : TaR w vb vf t) (hb : Below w.heap.size w w') : TaR w' vb vf t := ⟨h.b.now hb, h.f.now hb⟩
theorem TaM.now {base : Nat} {w w' : World} {vb vf : Value} {t : Tab} (h : TaM base w vb vf t) (hb : Below w.heap.size w w') : TaM base w' vb vf t := ⟨h.b.now hb, h.f.now hb⟩
end Go.Proofs.YtibpnlojlfcpmaaGreatDoor
