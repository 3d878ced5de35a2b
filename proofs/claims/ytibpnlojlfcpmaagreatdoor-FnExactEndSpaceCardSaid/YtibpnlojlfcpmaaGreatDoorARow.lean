/- A part of the proofs of this seat: Mach, Rel, Row, Tab. -/
import Derived.Orders
import Derived.Test.YtibpnlojlfcpmaaGreatDoorAMem
set_option linter.unusedVariables false
set_option linter.unusedSimpArgs false
set_option maxRecDepth 1000000
namespace Go.Proofs.YtibpnlojlfcpmaaGreatDoor
open Go.RowKit
structure Enc (α : Type) where
 sz : Nat
 cs : α → List Value
 len : ∀ a, (cs a).length = sz
 one : ∀ a, ∀ u ∈ cs a, u.oneCell' = true
 pos : 0 < sz
namespace Enc
variable {α : Type} (E : Enc α)
def cells (l : List α) : List Value := l.flatMap E.cs
theorem cells_length (l : List α) : (E.cells l).length = l.length * E.sz := by
 induction l with
 | nil => simp [cells]
 | cons x l ih =>
  simp only [cells, List.flatMap_cons, List.length_append, List.length_cons, E.len] at ih ⊢
  rw [ih, Nat.add_mul]; omega
theorem cells_append (l m : List α) : E.cells (l ++ m) = E.cells l ++ E.cells m := by simp [cells]
theorem cells_one (l : List α) : ∀ u ∈ E.cells l, u.oneCell' = true := by
 intro u hu
 obtain ⟨a, _, h⟩ := List.mem_flatMap.1 hu
 exact E.one a u h
theorem cells_cons (a : α) (l : List α) : E.cells (a :: l) = E.cs a ++ E.cells l := rfl
theorem cells_single (a : α) : E.cells [a] = E.cs a := by simp [cells]
theorem cells_get {l : List α} {k j : Nat} {a : α} {u : Value} (h : l[k]? = some a) (hj : (E.cs a)[j]? = some u) : (E.cells l)[k * E.sz + j]? = some u := by
 have hlt : j < E.sz := by rw [← E.len a]; exact (List.getElem?_eq_some_iff.1 hj).1
 induction l generalizing k with
 | nil => simp at h
 | cons x l ih =>
  rw [cells_cons]
  cases k with
  | zero =>
   simp at h
   subst h
   rw [Nat.zero_mul, Nat.zero_add, List.getElem?_append_left (by rw [E.len]; exact hlt)]
   exact hj
  | succ k =>
   have e : (k + 1) * E.sz + j = E.sz + (k * E.sz + j) := by rw [Nat.add_mul]; omega
   rw [List.getElem?_append_right (by rw [E.len, e]; omega), E.len, e, Nat.add_sub_cancel_left]
   exact ih (by simpa using h)
end Enc
abbrev Rs {α : Type} (E : Enc α) (B : Nat) (w : World) (A : Option Addr) (l : List α) : Prop := Rd B w E.sz A l.length (E.cells l)
section
variable {α : Type} {E : Enc α} {B : Nat} {w w' : World} {A : Option Addr} {l : List α}
theorem Rd.el (h : Rs E B w A l) {k : Nat} {a : α} (hk : l[k]? = some a) :
  ∃ b o, A = some ⟨b, o, none⟩ ∧ b < B ∧ ∀ j u, (E.cs a)[j]? = some u → w.cell? ⟨b, o + (k * E.sz + j), none⟩ = some u := by
 obtain ⟨hlt, _⟩ := List.getElem?_eq_some_iff.1 hk
 obtain ⟨b, o, e, hb, hc⟩ := h.at_ (by omega)
 exact ⟨b, o, e, hb, fun j u hj => hc _ _ (E.cells_get hk hj)⟩
theorem rs_nil (A : Option Addr) : Rs E B w A [] := ⟨by simp [Enc.cells], fun h => absurd h (by simp)⟩
theorem rs_own {base : Nat} {e : TypeId} {v : Value} {n : Nat} (hn : n = l.length) (h : w.ownsRow base e E.sz v n (E.cells l)) : ∃ A c, v = .slice A l.length c ∧ l.length ≤ c ∧ c ≤ maxLen ∧ Rs E w.heap.size w A l := by
 subst hn
 exact own_rd h
end
theorem run_append_el {α : Type} (E : Enc α) (t e : TypeId) (i : TypeInfo) (z : Value) (bytes : Nat) (ht : Tryz.prog.underlying t = some (.slice e)) (hi : Tryz.prog.info? e = some i) (hz : i.zero = some z)
  (hs : i.size = E.sz) (hby : i.bytes = bytes) (hzs : z.cells.size = E.sz) (hbb : bytes ≤ 1000)
  (base : Nat) (W : World) (v : Value) (n : Nat) (l : List α) (a : α) (hown : W.ownsRow base e E.sz v n (E.cells l)) (hn : l.length = n) (hn2 : n ≤ 1048576) (hb : base ≤ W.heap.size) :
  ∃ v' w', (Builtin.append_ #[t, t] t #[v, .slice (some ⟨W.heap.size, 0, none⟩) 1 1]).run Tryz.prog (W.alloc (.cells (E.cs a).toArray e)) = .ok v' w' ∧
   w'.ownsRow base e E.sz v' (n + 1) (E.cells (l ++ [a])) ∧ (W.alloc (.cells (E.cs a).toArray e)).grownBy w' v.ownBlock ∧ (v'.ownBlock = v.ownBlock ∨ v'.ownBlock = some (W.heap.size + 1)) := by
 have hr : Rd (W.alloc (.cells (E.cs a).toArray e)).heap.size (W.alloc (.cells (E.cs a).toArray e)) E.sz (some ⟨W.heap.size, 0, none⟩) 1 (E.cells [a]) :=
  ⟨by rw [E.cells_length]; rfl, fun _ => ⟨W.heap.size, 0, rfl, by simp, fun j u hu => by
   rw [Nat.zero_add, (Own.new_ W _ _).cell j]
   rw [E.cells_single] at hu
   simpa using hu⟩⟩
 have hm : n + 1 ≤ maxLen := by simp only [maxLen]; omega
 have hbytes : (n + 1) * bytes ≤ 140737488355328 := Nat.le_trans (Nat.mul_le_mul (show n + 1 ≤ 1048577 by omega) hbb) (by omega)
 obtain ⟨v', w', h1, h2, h3, h4⟩ := run_append_rd (P := Tryz.prog) (W.alloc (.cells (E.cs a).toArray e)) base t t e i z E.sz bytes ht hi hz hs hby hzs E.pos
  v n (E.cells l) (hown.alloc _) _ _ 1 1 _ hr (E.cells_one _) hm hbytes (Nat.le_trans hb (by simp))
 exact ⟨v', w', h1, by rw [E.cells_append]; exact h2, h3, by simpa using h4⟩
structure MineE {α : Type} (E : Enc α) (e : TypeId) (B : Nat) (w : World) (A : Option Addr) (l : List α) : Prop where
 is : Rs E w.heap.size w A l
 own : 0 < l.length → ∃ g cs, A = some ⟨g, 0, none⟩ ∧ B ≤ g ∧ Own w g e cs ∧ l.length * E.sz ≤ cs.size
section
variable {α : Type} {E : Enc α} {e : TypeId} {B : Nat} {w w' : World} {A : Option Addr} {l : List α}
theorem MineE.nil_ (A : Option Addr) : MineE E e B w A [] := ⟨rs_nil A, fun h => absurd h (by simp)⟩
theorem mine_own {v : Value} {n : Nat} (hn : n = l.length) (h : w.ownsRow B e E.sz v n (E.cells l)) : ∃ A c, v = .slice A l.length c ∧ l.length ≤ c ∧ c ≤ maxLen ∧ MineE E e B w A l := by
 obtain ⟨A, c, rfl, h1, h2, h3⟩ := rs_own hn h
 refine ⟨A, c, rfl, h1, h2, h3, fun hl => ?_⟩
 rcases h.2 with ⟨h4, _⟩ | ⟨g, cap, cur, hv, hg, ho, hc, _, hs, _⟩
 ·injection h4 with _ h4; omega
 ·injection hv with hA _ hcc
  refine ⟨g, cur, hA, hg, ho, ?_⟩
  rw [hs]
  exact Nat.mul_le_mul_right _ (by omega)
theorem MineE.below (h : MineE E e B w A l) (hb : Below w.heap.size w w') : MineE E e B w' A l :=
 ⟨h.is.now (Nat.le_refl _) hb, fun hl => let ⟨g, cs, e, hg, ho, hs⟩ := h.own hl; ⟨g, cs, e, hg, ho.below hb, hs⟩⟩
end
theorem slice_max {P : Program} (w : World) (t e : TypeId) (i : TypeInfo) (A : Option Addr) (n c : Nat) (ht : P.underlying t = some (.slice e)) (hi : P.info? e = some i) (hn : n ≤ c) :
  (Instr.slice t (.slice A n c) none (some (.int .i64 (n : Int))) (some (.int .i64 (n : Int)))).run P w = .ok (.slice A n n) w := by
 have h1 : (0 ≤ (n : Int) ∧ (n : Int) ≤ (c : Int)) := ⟨by omega, by omega⟩
 simp [Instr.slice, run_underlying ht, Instr.sliceBounds, Instr.sliceBound, asIntOf, h1, sizeOf, typeInfo, hi]
 cases A <;> simp [Addr.add] <;> (intro hh; exfalso; omega)
end Go.Proofs.YtibpnlojlfcpmaaGreatDoor
namespace Go.Proofs.YtibpnlojlfcpmaaGreatDoor
open Go.RowKit
def fillA : List Nat → (Nat → Value) → Act → Act
 | [], _, a => a
 | s :: ds, x, a => (fillA ds x a).put (some s) (x s)
def upd (x : Nat → Value) (d : Option Nat) (v : Value) : Nat → Value := fun s => if some s = d then v else x s
theorem fill_get (x : Nat → Value) (a : Act) : ∀ ds : List Nat, (fillA ds x a).tmps.size = a.tmps.size ∧ (fillA ds x a).defers = a.defers ∧ ∀ j, (fillA ds x a).tmps[j]? = if j ∈ ds ∧ j < a.tmps.size then some (x j) else a.tmps[j]?
  | [] => ⟨rfl, rfl, fun j => by simp [fillA]⟩
  | s :: ds => by
    obtain ⟨h1, h2, h3⟩ := fill_get x a ds
    refine ⟨by simp [fillA, Act.put, h1], by simp [fillA, Act.put, h2], fun j => ?_⟩
    simp only [fillA, Act.put]
    rw [Array.getElem?_setIfInBounds, h1]
    by_cases hs : s = j
    · subst hs
      rw [if_pos rfl]
      by_cases hl : s < a.tmps.size
      · rw [if_pos hl, if_pos ⟨by simp, hl⟩]
      · rw [if_neg hl, if_neg (fun h => hl h.2), Array.getElem?_eq_none (by omega)]
    · rw [if_neg hs, h3]
      by_cases hj : j ∈ ds
      · simp [hj]
      · have : ¬ j = s := fun h => hs h.symm
        simp [hj, this]
theorem act_ext {a b : Act} (h1 : a.tmps = b.tmps) (h2 : a.defers = b.defers) : a = b := by cases a; cases b; simp_all
theorem fill_put {ds : List Nat} {x : Nat → Value} {a : Act} {d : Option Nat} {v : Value} (hd : ∀ s, d = some s → s ∈ ds) : (fillA ds x a).put d v = fillA ds (upd x d v) a := by
 obtain ⟨h1, h2, h3⟩ := fill_get x a ds
 obtain ⟨g1, g2, g3⟩ := fill_get (upd x d v) a ds
 cases d with
 | none =>
  have : upd x none v = x := by funext s; simp [upd]
  rw [this]; rfl
 | some s =>
  refine act_ext (Array.ext_getElem? fun j => ?_) (by rw [g2]; exact h2)
  rw [g3]
  show ((fillA ds x a).tmps.setIfInBounds s v)[j]? = _
  rw [Array.getElem?_setIfInBounds, h1, h3]
  by_cases hs : s = j
  ·subst hs
   rw [if_pos rfl]
   have hm := hd s rfl
   by_cases hl : s < a.tmps.size
   ·rw [if_pos hl, if_pos ⟨hm, hl⟩]; simp [upd]
   ·rw [if_neg hl, if_neg (fun h => hl h.2), Array.getElem?_eq_none (by omega)]
  ·rw [if_neg hs]
   have : ¬ j = s := fun h => hs h.symm
   simp [upd, this]
theorem fill_self (ds : List Nat) (a : Act) : fillA ds (fun s => a.tmps.getD s undef) a = a := by
 obtain ⟨h1, h2, h3⟩ := fill_get (fun s => a.tmps.getD s undef) a ds
 refine act_ext (Array.ext_getElem? fun j => ?_) h2
 rw [h3]
 split
 ·rename_i h
  simp [h.2]
 ·rfl
section
variable {P : Program} {ops : Array Oper} {md : Region.Mode} {Q : Exit → Act → World → Prop}
def left_ (L : Array Bool) : Nat → Nat
 | 0 => 0
 | n + 1 => left_ L n + (if L.getD n true = true then 0 else 1)
theorem left_ge {L : Array Bool} {i : Nat} : ∀ n, left_ (L.setIfInBounds i true) n ≤ left_ L n
  | 0 => Nat.le_refl _
  | n + 1 => by
    have h := left_ge (L := L) (i := i) n
    unfold left_
    by_cases hin : i = n
    · subst hin
      by_cases h1 : i < L.size
      · have : (L.setIfInBounds i true).getD i true = true := by simp
        rw [if_pos this]; omega
      · rw [if_pos (by simp)]; omega
    · rw [getD_set_ne true hin]; omega
theorem left_lt {L : Array Bool} {i : Nat} (h : L.getD i true = false) : ∀ n, i < n → left_ (L.setIfInBounds i true) n + 1 ≤ left_ L n
  | 0, hn => absurd hn (by omega)
  | n + 1, hn => by
    unfold left_
    by_cases hin : i = n
    · subst hin
      have e1 : (L.setIfInBounds i true).getD i true = true := by simp
      rw [if_pos e1, if_neg (by rw [h]; simp)]
      have := left_ge (L := L) (i := i) i
      omega
    · have := left_lt h n (by omega)
      rw [getD_set_ne true hin]; omega
theorem left_pos {L : Array Bool} {i : Nat} (h : L.getD i true = false) {n : Nat} (hn : i < n) : 1 ≤ left_ L n := by
 have := left_lt h n hn
 omega
theorem wpAny_inv (I : Array Bool → Act → World → Prop)
    (step : ∀ L a w, I L a w → ∀ i ∈ Region.ready md ops L, wpOp P ops Q i (fun a' w' => I (L.setIfInBounds i true) a' w') a w)
    (fin : ∀ L a w, I L a w → Region.ready md ops L = [] → Q .normal a w) : ∀ fuel L a w, left_ L ops.size ≤ fuel → I L a w → wpAny P md ops Q fuel L a w
  | 0, L, a, w, hf, h => by
    have hr : Region.ready md ops L = [] := by
      cases e : Region.ready md ops L with
      | nil => rfl
      | cons i r =>
        obtain ⟨h0, o, ho, _⟩ := mem_ready.1 (show i ∈ Region.ready md ops L by rw [e]; simp)
        have := left_pos h0 (Array.getElem?_eq_some_iff.1 ho).1
        omega
    exact ⟨hr, fin L a w h hr⟩
  | fuel + 1, L, a, w, hf, h => by
    refine ⟨fin L a w h, fun i hi => wpOp_mono (fun a' w' h' => wpAny_inv I step fin fuel _ a' w' ?_ h') (step L a w h i hi)⟩
    obtain ⟨h0, o, ho, _⟩ := mem_ready.1 hi
    have := left_lt h0 ops.size (Array.getElem?_eq_some_iff.1 ho).1
    omega
def relB (md : Region.Mode) (ops : Array Oper) (ds : List Nat) (rds : List (List Nat)) : Bool :=
  (List.range ops.size).all fun j => match ops[j]? with
    | none => false
    | some o => o.guard.isNone && (match o.dst with | some d => ds.contains d | none => true) && o.after.all (fun e => !Region.binds md e || decide (e.on < j))
        && (List.range ops.size).all fun i => i == j || (match ops[i]? with
          | some oi => (match oi.dst with | some d => !(rds.getD j []).contains d || o.after.any (fun e => Region.binds md e && e.on == i) | none => true)
          | none => true)
theorem relB_at {ds : List Nat} {rds : List (List Nat)} (h : relB md ops ds rds = true) {j : Nat} {o : Oper} (ho : ops[j]? = some o) :
  o.guard = none ∧ (∀ s, o.dst = some s → s ∈ ds) ∧ (∀ e ∈ o.after, Region.binds md e = true → e.on < j) ∧
   ∀ i oi s, ops[i]? = some oi → i ≠ j → oi.dst = some s → s ∈ rds.getD j [] → ∃ e ∈ o.after, Region.binds md e = true ∧ e.on = i := by
 unfold relB at h
 rw [List.all_eq_true] at h
 have h1 := h j (List.mem_range.2 (Array.getElem?_eq_some_iff.1 ho).1)
 rw [ho] at h1
 simp only [Bool.and_eq_true] at h1
 obtain ⟨⟨⟨h1, h2⟩, h3⟩, h4⟩ := h1
 refine ⟨by simpa using h1, fun s hs => ?_, fun e he hb => ?_, fun i oi s hi hne hs hm => ?_⟩
 ·rw [hs] at h2; simpa using h2
 ·have := Array.all_eq_true_iff_forall_mem.1 h3 e he
  rw [hb] at this
  simpa using this
 ·rw [List.all_eq_true] at h4
  have h5 := h4 i (List.mem_range.2 (Array.getElem?_eq_some_iff.1 hi).1)
  rw [hi] at h5
  simp only [hs, Bool.or_eq_true, beq_iff_eq] at h5
  rcases h5 with h5 | h5 | h5
  ·exact absurd h5 hne
  ·have hc : (rds.getD j []).contains s = true := List.contains_iff_mem.2 hm
   rw [hc] at h5
   cases h5
  ·obtain ⟨e, he, hb⟩ := Array.any_eq_true'.1 h5
   simp only [Bool.and_eq_true, beq_iff_eq] at hb
   exact ⟨e, he, hb.1, hb.2⟩
theorem left_le (L : Array Bool) : ∀ n, left_ L n ≤ n
  | 0 => Nat.le_refl _
  | n + 1 => by
    have := left_le L n
    unfold left_
    split <;> omega
theorem getD_both_ {L : Array Bool} {i : Nat} (hi : i < L.size) : L.getD i true = L.getD i false := by simp [hi]
theorem wp_region_rel {id : Nat} {a : Act} {w : World} (hm : P.follows .mixedOrders = true) (ds : List Nat) (rds : List (List Nat)) (C : World → Prop)
    (R : Nat → (Nat → Value) → World → Prop) (T : Nat → World → World → Prop) (hB : relB .any ops ds rds = true) (hC : C w.drew)
    (hR : ∀ j x y v, (∀ s ∈ rds.getD j [], x s = y s) → R j x v → R j y v)
    (hT : ∀ i j x v v', i ≠ j → R j x v → T i v v' → R j x v')
    (step : ∀ i o, ops[i]? = some o → ∀ x v, C v → (∀ e ∈ o.after, Region.binds .any e = true → R e.on x v) → ∀ K : Act → World → Prop,
      (∀ u v', T i v v' → C v' → R i (upd x o.dst u) v' → K ((fillA ds x a).put o.dst u) v') → o.wp P (fillA ds x a) v K Q)
    (fin : ∀ x v, C v → (∀ i, i < ops.size → R i x v) → Q .normal (fillA ds x a) v) : (Code.region id ops true).wp P Q a w := by
  refine wp_region_any hm ?_
  refine wpAny_inv (fun L a' v => ∃ x, a' = fillA ds x a ∧ C v ∧ L.size = ops.size ∧ (∀ j, L.getD j false = true → R j x v) ∧
    ∀ j o, ops[j]? = some o → L.getD j false = true → ∀ e ∈ o.after, Region.binds .any e = true → L.getD e.on false = true) ?_ ?_ _ _ _ _ (left_le _ _) ?_
  · rintro L a' v ⟨x, rfl, hCv, hsz, hL, hcl⟩ i hi
    obtain ⟨h0, o, ho, hdep⟩ := mem_ready.1 hi
    obtain ⟨b1, b2, b3, b4⟩ := relB_at hB ho
    have hisz := (Array.getElem?_eq_some_iff.1 ho).1
    unfold wpOp
    rw [ho]
    simp only [Region.wanted, b1, if_true]
    refine .inl (step i o ho x v hCv (fun e he hb => hL _ (hdep e he hb)) _ (fun u v' hTv hCv' hRi => ?_))
    refine ⟨upd x o.dst u, fill_put b2, hCv', by simpa using hsz, fun j hj => ?_, fun j oj hoj hj e he hb => ?_⟩
    · by_cases hij : i = j
      · subst hij; exact hRi
      · rw [getD_set_ne false hij] at hj
        have hj2 : j < ops.size := by
          rcases Nat.lt_or_ge j L.size with h | h
          · omega
          · simp [Array.getElem?_eq_none h] at hj
        obtain ⟨oj, hoj⟩ : ∃ oj, ops[j]? = some oj := ⟨_, Array.getElem?_eq_getElem hj2⟩
        refine hR j x _ v' (fun s hs => ?_) (hT i j x v v' hij (hL j hj) hTv)
        by_cases hd : o.dst = some s
        · obtain ⟨e, he, hb, hon⟩ := (relB_at hB hoj).2.2.2 i o s ho hij hd hs
          have h1 := hcl j oj hoj hj e he hb
          rw [hon, ← getD_both_ (by omega), h0] at h1
          cases h1
        · unfold upd; rw [if_neg (fun h => hd h.symm)]
    · by_cases hij : i = j
      · subst hij
        rw [ho] at hoj
        injection hoj with hoj
        subst hoj
        exact getD_set_true (hdep e he hb)
      · rw [getD_set_ne false hij] at hj
        exact getD_set_true (hcl j oj hoj hj e he hb)
  · rintro L a' v ⟨x, rfl, hCv, hsz, hL, hcl⟩ hr
    refine fin x v hCv (fun i hi => hL i ?_)
    have hall : ∀ n j, j < n → j < ops.size → L.getD j false = true := by
      intro n
      induction n with
      | zero => intro j h; exact absurd h (by omega)
      | succ n ih =>
        intro j hj hjs
        obtain ⟨oj, hoj⟩ : ∃ oj, ops[j]? = some oj := ⟨_, Array.getElem?_eq_getElem hjs⟩
        by_cases hd : L.getD j true = true
        · rw [← getD_both_ (by omega)]; exact hd
        · have hmem : j ∈ Region.ready .any ops L := mem_ready.2 ⟨by simpa using hd, oj, hoj, fun e he hb => by
            have h1 := (relB_at hB hoj).2.2.1 e he hb
            exact ih e.on (by omega) (by omega)⟩
          rw [hr] at hmem
          cases hmem
    exact hall (i + 1) i (by omega) hi
  · refine ⟨fun s => a.tmps.getD s undef, (fill_self ds a).symm, hC, by simp, fun j hj => ?_, fun j o ho hj => ?_⟩
    all_goals
      exfalso
      rcases Nat.lt_or_ge j ops.size with h | h
      · simp [h] at hj
      · simp [h] at hj
theorem wp_region_rel1 {id : Nat} {a : Act} {w : World} (hm : P.follows .mixedOrders = true) (ds sl : List Nat) (C : World → Prop)
    (R : Nat → Value → World → Prop) (T : Nat → World → World → Prop) (hB : relB .any ops ds (sl.map fun s => [s]) = true) (hs : ops.size = sl.length) (hC : C w.drew)
    (hT : ∀ i j u v v', i ≠ j → R j u v → T i v v' → R j u v')
    (step : ∀ i o, ops[i]? = some o → ∀ x v, C v → (∀ k, (∃ e ∈ o.after, Region.binds .any e = true ∧ e.on = k) → k < sl.length → R k (x (sl.getD k 0)) v) → ∀ K : Act → World → Prop,
      (∀ u v', T i v v' → C v' → R i (upd x o.dst u (sl.getD i 0)) v' → K ((fillA ds x a).put o.dst u) v') → o.wp P (fillA ds x a) v K Q)
    (fin : ∀ x v, C v → (∀ i, i < sl.length → R i (x (sl.getD i 0)) v) → Q .normal (fillA ds x a) v) : (Code.region id ops true).wp P Q a w := by
  refine wp_region_rel hm ds (sl.map fun s => [s]) C (fun j x v => j < sl.length → R j (x (sl.getD j 0)) v) T hB hC ?_ ?_ ?_ ?_
  · intro j x y v h hr hj
    have e := h (sl.getD j 0) (by simp [List.getD_eq_getElem?_getD, hj])
    rw [← e]
    exact hr hj
  · exact fun i j x v v' hij h ht hj => hT i j _ v v' hij (h hj) ht
  · intro i o ho x v hCv hd K hK
    refine step i o ho x v hCv (fun k ⟨e, he, hb, hk⟩ hl => ?_) K (fun u v' h1 h2 h3 => hK u v' h1 h2 (fun _ => h3))
    subst hk
    exact hd e he hb hl
  · intro x v hCv h
    exact fin x v hCv (fun i hi => h i (by omega) hi)
end
structure Fr where
 used : Bool
 s : Int
 p : Int
 r : Int
 n : Int
 deriving DecidableEq
structure Tab where
 bs : List Int
 fs : List Fr
structure Ln where
 v : Bool
 t : Int
 p : Int
 f : Int
 r : Int
 w : Bool
 deriving DecidableEq
structure Ca where
 ls : List Ln
 hand : Int
structure Tg where
 count : Int
 next : Int
 round : Int
 os : List (Int × Int)
structure Ma where
 t : Tab
 c : Ca
 g : Tg
 sp : Int
def frz : Fr := ⟨false, 0, 0, 0, -1⟩
def lnz : Ln := ⟨false, 0, 0, 0, 0, false⟩
def tabz : Tab := ⟨[], []⟩
def caz : Ca := ⟨[], 0⟩
def tgz : Tg := ⟨0, 0, 0, []⟩
def maz : Ma := ⟨tabz, caz, tgz, 0⟩
def intE : Enc Int where
 sz := 1
 cs := fun a => [.int .i64 a]
 len := fun _ => rfl
 one := fun a u hu => by simp at hu; rw [hu]; rfl
 pos := by decide
def owE : Enc (Int × Int) where
 sz := 2
 cs := fun a => [.int .i64 a.1, .int .i64 a.2]
 len := fun _ => rfl
 one := fun a u hu => by simp at hu; rcases hu with rfl | rfl <;> rfl
 pos := by decide
def frE : Enc Fr where
 sz := 5
 cs := fun a => [.bool a.used, .int .i64 a.s, .int .i64 a.p, .int .i64 a.r, .int .i64 a.n]
 len := fun _ => rfl
 one := fun a u hu => by simp at hu; rcases hu with rfl | rfl | rfl | rfl | rfl <;> rfl
 pos := by decide
def lnE : Enc Ln where
 sz := 6
 cs := fun a => [.bool a.v, .int .i64 a.t, .int .i64 a.p, .int .i64 a.f, .int .i64 a.r, .bool a.w]
 len := fun _ => rfl
 one := fun a u hu => by simp at hu; rcases hu with rfl | rfl | rfl | rfl | rfl | rfl <;> rfl
 pos := by decide
def SlR {α : Type} (E : Enc α) (w : World) (v : Value) (l : List α) : Prop := ∃ A c, v = .slice A l.length c ∧ l.length ≤ c ∧ c ≤ maxLen ∧ Rs E w.heap.size w A l
def SlM {α : Type} (E : Enc α) (e : TypeId) (base : Nat) (w : World) (v : Value) (l : List α) : Prop := ∃ A c, v = .slice A l.length c ∧ l.length ≤ c ∧ c ≤ maxLen ∧ MineE E e base w A l
section
variable {α : Type} {E : Enc α} {e : TypeId} {base : Nat} {w w' : World} {v : Value} {l : List α}
theorem SlM.r (h : SlM E e base w v l) : SlR E w v l := let ⟨A, c, h1, h2, h3, h4⟩ := h; ⟨A, c, h1, h2, h3, h4.is⟩
theorem SlR.now (h : SlR E w v l) (hb : Below w.heap.size w w') : SlR E w' v l := let ⟨A, c, h1, h2, h3, h4⟩ := h; ⟨A, c, h1, h2, h3, h4.now (Nat.le_refl _) hb⟩
theorem SlM.now (h : SlM E e base w v l) (hb : Below w.heap.size w w') : SlM E e base w' v l := let ⟨A, c, h1, h2, h3, h4⟩ := h; ⟨A, c, h1, h2, h3, h4.below hb⟩
theorem SlR.nil_ (w : World) : SlR E w (.slice none 0 0) [] := ⟨none, 0, rfl, Nat.le_refl _, by simp [maxLen], rs_nil _⟩
theorem SlM.nil_ (w : World) : SlM E e base w (.slice none 0 0) [] := ⟨none, 0, rfl, Nat.le_refl _, by simp [maxLen], MineE.nil_ _⟩
theorem slm_own {n : Nat} (hn : n = l.length) (h : w.ownsRow base e E.sz v n (E.cells l)) : SlM E e base w v l := by
 obtain ⟨A, c, h1, h2, h3, h4⟩ := mine_own hn h
 exact ⟨A, c, h1, h2, h3, h4⟩
theorem SlM.mono {base' : Nat} (h : SlM E e base w v l) (hb : base' ≤ base) : SlM E e base' w v l := by
 obtain ⟨A, c, h1, h2, h3, h4, h5⟩ := h
 exact ⟨A, c, h1, h2, h3, h4, fun hl => let ⟨g, cs, e1, e2, e3⟩ := h5 hl; ⟨g, cs, e1, Nat.le_trans hb e2, e3⟩⟩
end
structure TaR (w : World) (vb vf : Value) (t : Tab) : Prop where
 b : SlR intE w vb t.bs
 f : SlR frE w vf t.fs
structure TaM (base : Nat) (w : World) (vb vf : Value) (t : Tab) : Prop where
 b : SlM intE 3 base w vb t.bs
 f : SlM frE 66 base w vf t.fs
theorem TaM.r {base : Nat} {w : World} {vb vf : Value} {t : Tab} (h : TaM base w vb vf t) : TaR w vb vf t := ⟨h.b.r, h.f.r⟩
theorem TaR.now {w w' : World} {vb vf : Value} {t : Tab} (h : TaR w vb vf t) (hb : Below w.heap.size w w') : TaR w' vb vf t := ⟨h.b.now hb, h.f.now hb⟩
theorem TaM.now {base : Nat} {w w' : World} {vb vf : Value} {t : Tab} (h : TaM base w vb vf t) (hb : Below w.heap.size w w') : TaM base w' vb vf t := ⟨h.b.now hb, h.f.now hb⟩
def frok (f : Fr) : Bool := if f.used = true then kval (f.s, f.p) && inR f.r 8 else decide (f = frz)
def dupf (fs : List Fr) (i : Nat) : Bool := match fs[i]? with
 | some f => !f.used || (fs.take i).all (fun g => !g.used || decide (¬ (g.s, g.p) = (f.s, f.p)))
 | none => true
def frs (fs : List Fr) : Nat → Bool
 | 0 => true
 | i + 1 => frs fs i && (match fs[i]? with | some f => frok f | none => false) && dupf fs i
def nus (fs : List Fr) (i : Nat) : Nat := (fs.take i).countP (·.used)
def hsh (s p : Int) (nb : Int) : Int := ((s * 256 + p) * 2654435761 % 4294967296) * nb / 4294967296
def chn (fs : List Fr) : Nat → Int → Option (List Nat)
  | 0, i => if i = -1 then some [] else none
  | k + 1, i => if i = -1 then some [] else if 0 ≤ i then
      match fs[i.toNat]? with
      | some f => if f.used = true then (chn fs k f.n).map (i.toNat :: ·) else none
      | none => none
    else none
def bch (t : Tab) (b : Nat) : Option (List Nat) := match t.bs[b]? with
 | some i => chn t.fs t.fs.length i
 | none => none
def hok (t : Tab) (b : Nat) (i : Nat) : Bool := match t.fs[i]? with
 | some f => decide (hsh f.s f.p t.bs.length = b)
 | none => false
def bok (t : Tab) (b : Nat) : Bool := match bch t b with
 | some ch => ch.all (hok t b)
 | none => false
def bln (t : Tab) (b : Nat) : Nat := match bch t b with
 | some ch => ch.length
 | none => 0
def bsum (t : Tab) : Nat → Nat
 | 0 => 0
 | b + 1 => bsum t b + bln t b
def boks (t : Tab) : Nat → Bool
 | 0 => true
 | b + 1 => boks t b && bok t b
def tsz (t : Tab) : Bool := decide (1 ≤ t.fs.length) && decide (t.fs.length ≤ 16) && decide (1 ≤ t.bs.length) && decide (t.bs.length ≤ 16)
def tv (t : Tab) : Bool := tsz t && frs t.fs t.fs.length && boks t t.bs.length && decide (bsum t t.bs.length = nus t.fs t.fs.length)
theorem chn_neg (fs : List Fr) (k : Nat) : chn fs k (-1) = some [] := by cases k <;> simp [chn]
theorem chn_out {fs : List Fr} (k : Nat) {i : Int} (h1 : i ≠ -1) (h : ¬ (0 ≤ i ∧ i < fs.length)) : chn fs k i = none := by
 cases k with
 | zero => simp [chn, h1]
 | succ k =>
  unfold chn
  rw [if_neg h1]
  split
  ·rename_i h0
   rw [List.getElem?_eq_none (by omega)]
  ·rfl
theorem chn_free {fs : List Fr} (k : Nat) {i : Nat} {f : Fr} (e : fs[i]? = some f) (h : f.used = false) : chn fs k i = none := by
 cases k with
 | zero => simp [chn]
 | succ k =>
  unfold chn
  rw [if_neg (by omega), if_pos (by omega), Int.toNat_natCast, e]
  simp [h]
theorem chn_step {fs : List Fr} (k : Nat) {i : Nat} {f : Fr} (e : fs[i]? = some f) (h : f.used = true) : chn fs (k + 1) i = (chn fs k f.n).map (i :: ·) := by
 conv => lhs; unfold chn
 rw [if_neg (by omega), if_pos (by omega), Int.toNat_natCast, e]
 simp [h]
theorem chn_none0 {fs : List Fr} {i : Int} (h : i ≠ -1) : chn fs 0 i = none := by simp [chn, h]
theorem chn_cons {fs : List Fr} {k : Nat} {i : Int} {ch : List Nat} (h : chn fs k i = some ch) (hi : i ≠ -1) :
  ∃ (j k' : Nat) (f : Fr) (r : List Nat), i = (j : Int) ∧ k = k' + 1 ∧ fs[j]? = some f ∧ f.used = true ∧ chn fs k' f.n = some r ∧ ch = j :: r := by
 cases k with
 | zero => rw [chn_none0 hi] at h; cases h
 | succ k =>
  unfold chn at h
  rw [if_neg hi] at h
  split at h
  ·rename_i h0
   cases e : fs[i.toNat]? with
   | none => rw [e] at h; cases h
   | some f =>
    rw [e] at h
    simp only at h
    split at h
    ·rename_i hu
     cases e2 : chn fs k f.n with
     | none => rw [e2] at h; cases h
     | some r =>
      rw [e2] at h
      injection h with h
      exact ⟨i.toNat, k, f, r, by omega, rfl, e, hu, e2, h.symm⟩
    ·cases h
  ·cases h
theorem chn_more {fs : List Fr} {k k' : Nat} (hk : k ≤ k') : ∀ {i : Int} {ch : List Nat}, chn fs k i = some ch → chn fs k' i = some ch := by
 induction k generalizing k' with
 | zero =>
  intro i ch h
  by_cases hi : i = -1
  ·subst hi; rw [chn_neg] at h ⊢; exact h
  ·rw [chn_none0 hi] at h; cases h
 | succ k ih =>
  intro i ch h
  by_cases hi : i = -1
  ·subst hi; rw [chn_neg] at h ⊢; exact h
  ·obtain ⟨j, k1, f, r, rfl, hk1, e, hu, h2, rfl⟩ := chn_cons h hi
   obtain ⟨k2, rfl⟩ : ∃ k2, k' = k2 + 1 := ⟨k' - 1, by omega⟩
   have : k1 = k := by omega
   subst this
   rw [chn_step k2 e hu, ih (by omega) h2]
   rfl
theorem chn_same {fs : List Fr} {k k' : Nat} {i : Int} {a b : List Nat} (h : chn fs k i = some a) (h' : chn fs k' i = some b) : a = b := by
 rcases Nat.le_total k k' with hk | hk
 ·have := chn_more hk h; rw [h'] at this; exact (Option.some.inj this).symm
 ·have := chn_more hk h'; rw [h] at this; exact Option.some.inj this
theorem chn_len {fs : List Fr} : ∀ {k : Nat} {i : Int} {ch : List Nat}, chn fs k i = some ch → ch.length ≤ k := by
 intro k
 induction k with
 | zero =>
  intro i ch h
  by_cases hi : i = -1
  ·subst hi; rw [chn_neg] at h; injection h with h; subst h; simp
  ·rw [chn_none0 hi] at h; cases h
 | succ k ih =>
  intro i ch h
  by_cases hi : i = -1
  ·subst hi; rw [chn_neg] at h; injection h with h; subst h; simp
  ·obtain ⟨j, k1, f, r, rfl, hk1, e, hu, h2, rfl⟩ := chn_cons h hi
   have : k1 = k := by omega
   subst this
   have := ih h2
   simp; omega
theorem chn_mem {fs : List Fr} : ∀ {k : Nat} {i : Int} {ch : List Nat}, chn fs k i = some ch → ∀ j ∈ ch, ∃ f, fs[j]? = some f ∧ f.used = true ∧ ∃ a r, ch = a ++ j :: r ∧ chn fs k j = some (j :: r) := by
 intro k
 induction k with
 | zero =>
  intro i ch h j hj
  by_cases hi : i = -1
  ·subst hi; rw [chn_neg] at h; injection h with h; subst h; cases hj
  ·rw [chn_none0 hi] at h; cases h
 | succ k ih =>
  intro i ch h j hj
  by_cases hi : i = -1
  ·subst hi; rw [chn_neg] at h; injection h with h; subst h; cases hj
  ·obtain ⟨j0, k1, f, r, rfl, hk1, e, hu, h2, rfl⟩ := chn_cons h hi
   have hk : k1 = k := by omega
   subst hk
   rcases List.mem_cons.1 hj with rfl | hj
   ·exact ⟨f, e, hu, [], r, rfl, h⟩
   ·obtain ⟨g, e1, hu1, a, r1, e2, h3⟩ := ih h2 j hj
    exact ⟨g, e1, hu1, j0 :: a, r1, by rw [e2]; rfl, chn_more (Nat.le_succ _) h3⟩
theorem chn_nodup {fs : List Fr} {k : Nat} {i : Int} {ch : List Nat} (h : chn fs k i = some ch) : ch.Nodup := by
 induction k generalizing i ch with
 | zero =>
  by_cases hi : i = -1
  ·subst hi; rw [chn_neg] at h; injection h with h; subst h; exact List.nodup_nil
  ·rw [chn_none0 hi] at h; cases h
 | succ k ih =>
  by_cases hi : i = -1
  ·subst hi; rw [chn_neg] at h; injection h with h; subst h; exact List.nodup_nil
  ·obtain ⟨j0, k1, f, r, rfl, hk1, e, hu, h2, rfl⟩ := chn_cons h hi
   have hk : k1 = k := by omega
   subst hk
   refine List.nodup_cons.2 ⟨fun hm => ?_, ih h2⟩
   obtain ⟨g, e1, hu1, a, r1, e2, h3⟩ := chn_mem h2 j0 hm
   have := chn_same h h3
   injection this with _ this
   rw [this] at e2
   have hl := congrArg List.length e2
   simp at hl
   omega
theorem len_sub {α : Type} [DecidableEq α] : ∀ {a b : List α}, a.Nodup → (∀ x ∈ a, x ∈ b) → a.length ≤ b.length := by
 intro a
 induction a with
 | nil => intro b _ _; simp
 | cons x a ih =>
  intro b hn hs
  have hx := hs x (by simp)
  have h := ih (b := b.erase x) (List.nodup_cons.1 hn).2 (fun y hy => by
   have hne : y ≠ x := by rintro rfl; exact (List.nodup_cons.1 hn).1 hy
   exact (List.mem_erase_of_ne hne).2 (hs y (by simp [hy])))
  rw [List.length_erase_of_mem hx] at h
  have := List.length_pos_of_mem hx
  simp; omega
theorem sub_of_len {α : Type} [DecidableEq α] {a b : List α} (hn : a.Nodup) (hs : ∀ x ∈ a, x ∈ b) (hl : b.length ≤ a.length) : ∀ x ∈ b, x ∈ a := by
 intro x hx
 apply Decidable.byContradiction
 intro hxa
 have h := len_sub (b := b.erase x) hn (fun y hy => by
  have hne : y ≠ x := by rintro rfl; exact hxa hy
  exact (List.mem_erase_of_ne hne).2 (hs y hy))
 rw [List.length_erase_of_mem hx] at h
 have := List.length_pos_of_mem hx
 omega
def usedAt (fs : List Fr) (i : Nat) : Bool := match fs[i]? with | some f => f.used | none => false
theorem nus_eq (fs : List Fr) : ∀ i, i ≤ fs.length → nus fs i = ((List.range i).filter (usedAt fs)).length := by
 intro i
 induction i with
 | zero => intro _; simp [nus]
 | succ i ih =>
  intro hi
  have ih := ih (by omega)
  unfold nus at ih ⊢
  rw [List.take_add_one, List.getElem?_eq_getElem (by omega), List.range_succ, List.filter_append, List.length_append, ← ih, List.countP_append]
  congr 1
  simp [usedAt, List.getElem?_eq_getElem (show i < fs.length by omega), List.filter_cons]
  split <;> simp_all
def uni (t : Tab) : Nat → List Nat
 | 0 => []
 | b + 1 => uni t b ++ (bch t b).getD []
theorem uni_len (t : Tab) : ∀ b, (uni t b).length = bsum t b := by
 intro b
 induction b with
 | zero => rfl
 | succ b ih =>
  unfold uni bsum bln
  rw [List.length_append, ih]
  cases bch t b <;> simp
theorem boks_at {t : Tab} : ∀ {b b' : Nat}, boks t b = true → b' < b → bok t b' = true := by
 intro b
 induction b with
 | zero => intro b' _ h; omega
 | succ b ih =>
  intro b' h hlt
  unfold boks at h
  rw [Bool.and_eq_true] at h
  rcases Nat.lt_or_ge b' b with h1 | h1
  ·exact ih h.1 h1
  ·obtain rfl : b' = b := by omega
   exact h.2
theorem bok_parts {t : Tab} {b : Nat} (h : bok t b = true) : ∃ ch, bch t b = some ch ∧ ∀ i ∈ ch, hok t b i = true := by
 unfold bok at h
 cases e : bch t b with
 | none => rw [e] at h; cases h
 | some ch => rw [e] at h; exact ⟨ch, rfl, List.all_eq_true.1 h⟩
theorem hok_parts {t : Tab} {b i : Nat} (h : hok t b i = true) : ∃ f, t.fs[i]? = some f ∧ hsh f.s f.p t.bs.length = b := by
 unfold hok at h
 cases e : t.fs[i]? with
 | none => rw [e] at h; cases h
 | some f => rw [e] at h; exact ⟨f, rfl, of_decide_eq_true h⟩
theorem bch_mem {t : Tab} {b : Nat} {ch : List Nat} (h : bch t b = some ch) : ∀ j ∈ ch, ∃ f, t.fs[j]? = some f ∧ f.used = true := by
 unfold bch at h
 cases e : t.bs[b]? with
 | none => rw [e] at h; cases h
 | some i =>
  rw [e] at h
  intro j hj
  obtain ⟨f, e1, hu, _⟩ := chn_mem h j hj
  exact ⟨f, e1, hu⟩
theorem bch_nodup {t : Tab} {b : Nat} {ch : List Nat} (h : bch t b = some ch) : ch.Nodup := by
 unfold bch at h
 cases e : t.bs[b]? with
 | none => rw [e] at h; cases h
 | some i => rw [e] at h; exact chn_nodup h
theorem uni_mem {t : Tab} : ∀ {b : Nat} {j : Nat}, j ∈ uni t b → ∃ b' ch, b' < b ∧ bch t b' = some ch ∧ j ∈ ch := by
 intro b
 induction b with
 | zero => intro j h; cases h
 | succ b ih =>
  intro j h
  unfold uni at h
  rcases List.mem_append.1 h with h | h
  ·obtain ⟨b', ch, h1, h2, h3⟩ := ih h
   exact ⟨b', ch, by omega, h2, h3⟩
  ·cases e : bch t b with
   | none => rw [e] at h; cases h
   | some ch => rw [e] at h; exact ⟨b, ch, by omega, e, h⟩
theorem uni_nodup {t : Tab} : ∀ {b : Nat}, boks t b = true → (uni t b).Nodup := by
 intro b
 induction b with
 | zero => intro _; exact List.nodup_nil
 | succ b ih =>
  intro h
  have h1 := boks_at (b' := b) h (by omega)
  unfold boks at h
  rw [Bool.and_eq_true] at h
  obtain ⟨ch, e, hc⟩ := bok_parts h1
  unfold uni
  rw [e, Option.getD_some, List.nodup_append]
  refine ⟨ih h.1, bch_nodup e, fun x hx y hy hxy => ?_⟩
  subst hxy
  obtain ⟨b', ch', hb', e', hx'⟩ := uni_mem hx
  obtain ⟨ch2, e2, hc2⟩ := bok_parts (boks_at h.1 hb')
  rw [e'] at e2
  injection e2 with e2
  subst e2
  obtain ⟨f, e3, h3⟩ := hok_parts (hc x hy)
  obtain ⟨f', e4, h4⟩ := hok_parts (hc2 x hx')
  rw [e3] at e4
  injection e4 with e4
  subst e4
  omega
theorem tv_parts {t : Tab} (h : tv t = true) : (1 ≤ t.fs.length ∧ t.fs.length ≤ 16 ∧ 1 ≤ t.bs.length ∧ t.bs.length ≤ 16) ∧ frs t.fs t.fs.length = true ∧ boks t t.bs.length = true ∧ bsum t t.bs.length = nus t.fs t.fs.length := by
 unfold tv tsz at h
 simp only [Bool.and_eq_true, decide_eq_true_eq] at h
 obtain ⟨⟨⟨⟨⟨⟨h1, h2⟩, h3⟩, h4⟩, h5⟩, h6⟩, h7⟩ := h
 exact ⟨⟨h1, h2, h3, h4⟩, h5, h6, h7⟩
theorem tv_in {t : Tab} (h : tv t = true) {i : Nat} {f : Fr} (e : t.fs[i]? = some f) (hu : f.used = true) :
  ∃ (b : Nat) (ch : List Nat), b < t.bs.length ∧ bch t b = some ch ∧ i ∈ ch ∧ hsh f.s f.p t.bs.length = b := by
 obtain ⟨_, _, h3, h4⟩ := tv_parts h
 obtain ⟨hi, _⟩ := List.getElem?_eq_some_iff.1 e
 have hsub := sub_of_len (a := uni t t.bs.length) (b := (List.range t.fs.length).filter (usedAt t.fs)) (uni_nodup h3) (fun x hx => by
  obtain ⟨b', ch, _, e1, h1⟩ := uni_mem hx
  obtain ⟨g, e2, hu2⟩ := bch_mem e1 x h1
  obtain ⟨hx, _⟩ := List.getElem?_eq_some_iff.1 e2
  rw [List.mem_filter, List.mem_range]
  exact ⟨hx, by unfold usedAt; rw [e2]; exact hu2⟩) (by rw [uni_len, h4, nus_eq _ _ (Nat.le_refl _)]; exact Nat.le_refl _)
 have hm := hsub i (by rw [List.mem_filter, List.mem_range]; exact ⟨hi, by unfold usedAt; rw [e]; exact hu⟩)
 obtain ⟨b, ch, hb, e1, h1⟩ := uni_mem hm
 obtain ⟨ch2, e2, hc⟩ := bok_parts (boks_at h3 hb)
 rw [e1] at e2
 injection e2 with e2
 subst e2
 obtain ⟨g, e3, h5⟩ := hok_parts (hc i h1)
 rw [e] at e3
 injection e3 with e3
 subst e3
 exact ⟨b, ch, hb, e1, h1, h5⟩
def fnd (fs : List Fr) (s p : Int) : Option Nat := fs.findIdx? (fun f => f.used && decide ((f.s, f.p) = (s, p)))
def fndI (fs : List Fr) (s p : Int) : Int := match fnd fs s p with | some i => i | none => -1
theorem frs_at {fs : List Fr} : ∀ {n i : Nat}, frs fs n = true → i < n → (∃ f, fs[i]? = some f ∧ frok f = true) ∧ dupf fs i = true := by
 intro n
 induction n with
 | zero => intro i _ h; omega
 | succ n ih =>
  intro i h hi
  unfold frs at h
  rw [Bool.and_eq_true, Bool.and_eq_true] at h
  rcases Nat.lt_or_ge i n with h1 | h1
  ·exact ih h.1.1 h1
  ·obtain rfl : i = n := by omega
   refine ⟨?_, h.2⟩
   have h2 := h.1.2
   cases e : fs[i]? with
   | none => rw [e] at h2; cases h2
   | some f => rw [e] at h2; exact ⟨f, rfl, h2⟩
theorem dup_ne {fs : List Fr} {i j : Nat} {f g : Fr} (h : dupf fs j = true) (hij : i < j) (ei : fs[i]? = some f) (ej : fs[j]? = some g) (hf : f.used = true) (hg : g.used = true) : ¬ (f.s, f.p) = (g.s, g.p) := by
 unfold dupf at h
 rw [ej] at h
 simp only [hg, Bool.not_true, Bool.false_or] at h
 have hm : f ∈ fs.take j := by
  obtain ⟨hi, rfl⟩ := List.getElem?_eq_some_iff.1 ei
  exact List.mem_of_getElem? (i := i) (by rw [List.getElem?_take, if_pos hij, ei])
 have := List.all_eq_true.1 h f hm
 rw [Bool.or_eq_true, decide_eq_true_eq] at this
 rcases this with h' | h'
 ·rw [hf] at h'; cases h'
 ·exact h'
theorem key_once {fs : List Fr} (h : frs fs fs.length = true) {i j : Nat} {f g : Fr} (ei : fs[i]? = some f) (ej : fs[j]? = some g) (hf : f.used = true) (hg : g.used = true) (hk : (f.s, f.p) = (g.s, g.p)) : i = j := by
 obtain ⟨hi, _⟩ := List.getElem?_eq_some_iff.1 ei
 obtain ⟨hj, _⟩ := List.getElem?_eq_some_iff.1 ej
 rcases Nat.lt_trichotomy i j with h1 | h1 | h1
 ·exact absurd hk (dup_ne (frs_at h hj).2 h1 ei ej hf hg)
 ·exact h1
 ·exact absurd hk.symm (dup_ne (frs_at h hi).2 h1 ej ei hg hf)
theorem fnd_some {fs : List Fr} {s p : Int} {i : Nat} (h : fnd fs s p = some i) : ∃ f, fs[i]? = some f ∧ f.used = true ∧ (f.s, f.p) = (s, p) := by
 unfold fnd at h
 rw [List.findIdx?_eq_some_iff_getElem] at h
 obtain ⟨hi, h1, _⟩ := h
 rw [Bool.and_eq_true, decide_eq_true_eq] at h1
 exact ⟨fs[i], List.getElem?_eq_getElem hi, h1.1, h1.2⟩
theorem fnd_none {fs : List Fr} {s p : Int} (h : fnd fs s p = none) {i : Nat} {f : Fr} (e : fs[i]? = some f) (hu : f.used = true) : ¬ (f.s, f.p) = (s, p) := by
 unfold fnd at h
 rw [List.findIdx?_eq_none_iff] at h
 have := h f (List.mem_of_getElem? e)
 simpa [hu] using this
theorem fnd_of {fs : List Fr} (h : frs fs fs.length = true) {s p : Int} {i : Nat} {f : Fr} (e : fs[i]? = some f) (hu : f.used = true) (hk : (f.s, f.p) = (s, p)) : fnd fs s p = some i := by
 cases hf : fnd fs s p with
 | none => exact absurd hk (fnd_none hf e hu)
 | some j =>
  obtain ⟨g, e2, hu2, hk2⟩ := fnd_some hf
  rw [key_once h e2 e hu2 hu (hk2.trans hk.symm)]
theorem bch_some {t : Tab} {b : Nat} {ch : List Nat} (h : bch t b = some ch) : ∃ i, t.bs[b]? = some i ∧ chn t.fs t.fs.length i = some ch := by
 unfold bch at h
 cases e : t.bs[b]? with
 | none => rw [e] at h; cases h
 | some i => rw [e] at h; exact ⟨i, rfl, h⟩
theorem bch_of {t : Tab} {b : Nat} {i : Int} (e : t.bs[b]? = some i) : bch t b = chn t.fs t.fs.length i := by
 unfold bch; rw [e]
theorem set_ne {α : Type} {l : List α} {i j : Nat} {a : α} (h : i ≠ j) : (l.set i a)[j]? = l[j]? := by rw [List.getElem?_set, if_neg h]
theorem set_eq {α : Type} {l : List α} {i : Nat} {a : α} (h : i < l.length) : (l.set i a)[i]? = some a := by rw [List.getElem?_set, if_pos rfl, if_pos h]
theorem frs_mono {fs : List Fr} {k : Nat} (h : frs fs k = false) : ∀ {m : Nat}, k ≤ m → frs fs m = false := by
  intro m
  induction m with
  | zero => intro hk; have : k = 0 := by omega
            subst this; exact h
  | succ m ih =>
    intro hk
    rcases Nat.lt_or_ge k (m + 1) with h1 | h1
    · unfold frs; rw [ih (by omega)]; rfl
    · obtain rfl : k = m + 1 := by omega
      exact h
theorem tv_frs {t : Tab} {k : Nat} (h : frs t.fs (k + 1) = false) (hk : k < t.fs.length) : tv t = false := by
 unfold tv; rw [frs_mono h (show k + 1 ≤ t.fs.length by omega)]; simp
theorem tv_fr {t : Tab} {k : Nat} {f : Fr} (e : t.fs[k]? = some f) (h : frok f = false) : tv t = false := by
 obtain ⟨hk, _⟩ := List.getElem?_eq_some_iff.1 e
 refine tv_frs (k := k) ?_ hk
 unfold frs; rw [e]; simp [h]
theorem tv_dup {t : Tab} {k r : Nat} {f g : Fr} (hr : r < k) (er : t.fs[r]? = some f) (ek : t.fs[k]? = some g) (hf : f.used = true) (hg : g.used = true) (hkk : (f.s, f.p) = (g.s, g.p)) : tv t = false := by
 cases h : tv t with
 | false => rfl
 | true =>
  obtain ⟨_, h2, _, _⟩ := tv_parts h
  have := key_once h2 er ek hf hg hkk
  omega
theorem tv_bok {t : Tab} {b : Nat} (h : bok t b = false) (hb : b < t.bs.length) : tv t = false := by
 cases e : tv t with
 | false => rfl
 | true =>
  obtain ⟨_, _, h3, _⟩ := tv_parts e
  rw [boks_at h3 hb] at h
  cases h
theorem tv_sz {t : Tab} (h : tsz t = false) : tv t = false := by unfold tv; rw [h]; rfl
theorem tv_end {t : Tab} (h1 : tsz t = true) (h2 : frs t.fs t.fs.length = true) (h3 : boks t t.bs.length = true) : tv t = decide (bsum t t.bs.length = nus t.fs t.fs.length) := by unfold tv; rw [h1, h2, h3]; rfl
theorem frs_step {fs : List Fr} {k : Nat} {f : Fr} (h : frs fs k = true) (e : fs[k]? = some f) (hf : frok f = true) (hd : f.used = true → ∀ (r : Nat) (g : Fr), r < k → fs[r]? = some g → g.used = true → ¬ (g.s, g.p) = (f.s, f.p)) : frs fs (k + 1) = true := by
 unfold frs
 rw [h, e]
 simp only [hf, Bool.true_and]
 unfold dupf
 rw [e]
 simp only
 cases hu : f.used with
 | false => rfl
 | true =>
  rw [Bool.not_true, Bool.false_or, List.all_eq_true]
  intro g hg
  obtain ⟨j, hj, he⟩ := List.getElem_of_mem hg
  rw [List.length_take] at hj
  have ej : fs[j]? = some g := by rw [List.getElem_take] at he; rw [List.getElem?_eq_getElem (by omega), he]
  cases hgu : g.used with
  | false => rfl
  | true =>
   rw [Bool.not_true, Bool.false_or, decide_eq_true_eq]
   exact hd hu j g (by omega) ej hgu
theorem nus_step {fs : List Fr} {k : Nat} {f : Fr} (e : fs[k]? = some f) : nus fs (k + 1) = nus fs k + if f.used = true then 1 else 0 := by
 unfold nus
 rw [List.take_add_one, e, Option.toList_some, List.countP_append, List.countP_singleton]
theorem nus_le (fs : List Fr) (k : Nat) : nus fs k ≤ k := by
 unfold nus
 have h := List.countP_le_length (p := fun x : Fr => x.used) (l := fs.take k)
 rw [List.length_take] at h
 omega
theorem bok_false {t : Tab} {b j : Nat} {ch : List Nat} {f : Fr} (e : bch t b = some ch) (hj : j ∈ ch) (ef : t.fs[j]? = some f) (hh : hsh f.s f.p t.bs.length ≠ b) : bok t b = false := by
 cases h : bok t b with
 | false => rfl
 | true =>
  obtain ⟨ch', e', hc⟩ := bok_parts h
  rw [e] at e'
  injection e' with e'
  subst e'
  obtain ⟨g, eg, h1⟩ := hok_parts (hc j hj)
  rw [ef] at eg
  injection eg with eg
  subst eg
  exact absurd h1 hh
theorem bok_none {t : Tab} {b : Nat} (e : bch t b = none) : bok t b = false := by unfold bok; rw [e]
theorem boks_step {t : Tab} {b : Nat} {ch : List Nat} (h : boks t b = true) (e : bch t b = some ch) (hc : ∀ (k j : Nat), ch[k]? = some j → ∃ f : Fr, t.fs[j]? = some f ∧ hsh f.s f.p t.bs.length = b) : boks t (b + 1) = true := by
 unfold boks bok
 rw [h, e]
 simp only [Bool.true_and]
 rw [List.all_eq_true]
 intro j hj
 obtain ⟨k, hk, he⟩ := List.getElem_of_mem hj
 obtain ⟨f, ef, hh⟩ := hc k j (by rw [List.getElem?_eq_getElem hk, he])
 unfold hok
 rw [ef]
 simp [hh]
theorem bsum_step {t : Tab} {b : Nat} {ch : List Nat} (e : bch t b = some ch) : bsum t (b + 1) = bsum t b + ch.length := by
 unfold bsum bln
 rw [e]
 cases b <;> rfl
end Go.Proofs.YtibpnlojlfcpmaaGreatDoor
