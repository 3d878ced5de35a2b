import Derived.Test.YtbegdjemnclfaaaDel
namespace Go.Proofs.Ytbegdjemnclfaaa
open Go.RowKit

/-! ### rows of elements of one make -/
/-- how one element lies in memory -/
structure Enc (α : Type) where
  sz : Nat
  cs : α → List Value
  len : ∀ a, (cs a).length = sz
  one : ∀ a, ∀ u ∈ cs a, u.oneCell' = true
  pos : 0 < sz
namespace Enc
variable {α : Type} (E : Enc α)
def cells (l : List α) : List Value := l.flatMap E.cs
theorem cells_length (l : List α) : (E.cells l).length = l.length * E.sz := by
  induction l with
  | nil => simp [cells]
  | cons x l ih =>
    simp only [cells, List.flatMap_cons, List.length_append, List.length_cons, E.len] at ih ⊢
    rw [ih, Nat.add_mul]; omega
theorem cells_append (l m : List α) : E.cells (l ++ m) = E.cells l ++ E.cells m := by simp [cells]
theorem cells_one (l : List α) : ∀ u ∈ E.cells l, u.oneCell' = true := by
  intro u hu
  obtain ⟨a, _, h⟩ := List.mem_flatMap.1 hu
  exact E.one a u h
theorem cells_cons (a : α) (l : List α) : E.cells (a :: l) = E.cs a ++ E.cells l := rfl
theorem cells_single (a : α) : E.cells [a] = E.cs a := by simp [cells]
theorem cells_get {l : List α} {k j : Nat} {a : α} {u : Value} (h : l[k]? = some a) (hj : (E.cs a)[j]? = some u) : (E.cells l)[k * E.sz + j]? = some u := by
  have hlt : j < E.sz := by rw [← E.len a]; exact (List.getElem?_eq_some_iff.1 hj).1
  induction l generalizing k with
  | nil => simp at h
  | cons x l ih =>
    rw [cells_cons]
    cases k with
    | zero =>
      simp at h
      subst h
      rw [Nat.zero_mul, Nat.zero_add, List.getElem?_append_left (by rw [E.len]; exact hlt)]
      exact hj
    | succ k =>
      have e : (k + 1) * E.sz + j = E.sz + (k * E.sz + j) := by rw [Nat.add_mul]; omega
      rw [List.getElem?_append_right (by rw [E.len, e]; omega), E.len, e, Nat.add_sub_cancel_left]
      exact ih (by simpa using h)
theorem cells_drop (l : List α) (i : Nat) : (E.cells l).drop (i * E.sz) = E.cells (l.drop i) := by
  induction i generalizing l with
  | zero => simp
  | succ i ih =>
    cases l with
    | nil => simp [cells]
    | cons x l =>
      have e : (i + 1) * E.sz = E.sz + i * E.sz := by rw [Nat.add_mul]; omega
      rw [List.drop_succ_cons, ← ih l, cells_cons, e, ← List.drop_drop, List.drop_left' (E.len x)]
theorem cells_take (l : List α) (i : Nat) : (E.cells l).take (i * E.sz) = E.cells (l.take i) := by
  induction i generalizing l with
  | zero => simp [cells]
  | succ i ih =>
    cases l with
    | nil => simp [cells]
    | cons x l =>
      have e : (i + 1) * E.sz = E.sz + i * E.sz := by rw [Nat.add_mul]; omega
      rw [List.take_succ_cons, cells_cons, cells_cons, ← ih l, e, List.take_append, E.len, List.take_of_length_le (by rw [E.len]; omega), Nat.add_sub_cancel_left]
end Enc
/-- a row that is read -/
abbrev Rs {α : Type} (E : Enc α) (B : Nat) (w : World) (A : Option Addr) (l : List α) : Prop := Rd B w E.sz A l.length (E.cells l)
section
variable {α : Type} {E : Enc α} {B : Nat} {w w' : World} {A : Option Addr} {l : List α}
theorem Rd.el (h : Rs E B w A l) {k : Nat} {a : α} (hk : l[k]? = some a) :
    ∃ b o, A = some ⟨b, o, none⟩ ∧ b < B ∧ ∀ j u, (E.cs a)[j]? = some u → w.cell? ⟨b, o + (k * E.sz + j), none⟩ = some u := by
  obtain ⟨hlt, _⟩ := List.getElem?_eq_some_iff.1 hk
  obtain ⟨b, o, e, hb, hc⟩ := h.at_ (by omega)
  exact ⟨b, o, e, hb, fun j u hj => hc _ _ (E.cells_get hk hj)⟩
theorem rs_nil (A : Option Addr) : Rs E B w A [] := ⟨by simp [Enc.cells], fun h => absurd h (by simp)⟩
/-- a row of the call's own, as it reads -/
theorem rs_own {base : Nat} {e : TypeId} {v : Value} {n : Nat} (hn : n = l.length) (h : w.ownsRow base e E.sz v n (E.cells l)) : ∃ A c, v = .slice A l.length c ∧ l.length ≤ c ∧ c ≤ maxLen ∧ Rs E w.heap.size w A l := by
  subst hn
  exact own_rd h
end
theorem run_append_el {α : Type} (E : Enc α) (t e : TypeId) (i : TypeInfo) (z : Value) (bytes : Nat) (ht : Try.prog.underlying t = some (.slice e)) (hi : Try.prog.info? e = some i) (hz : i.zero = some z)
    (hs : i.size = E.sz) (hby : i.bytes = bytes) (hzs : z.cells.size = E.sz) (hbb : bytes ≤ 1000)
    (base : Nat) (W : World) (v : Value) (n : Nat) (l : List α) (a : α) (hown : W.ownsRow base e E.sz v n (E.cells l)) (hn : l.length = n) (hn2 : n ≤ 1048576) (hb : base ≤ W.heap.size) :
    ∃ v' w', (Builtin.append_ #[t, t] t #[v, .slice (some ⟨W.heap.size, 0, none⟩) 1 1]).run Try.prog (W.alloc (.cells (E.cs a).toArray e)) = .ok v' w' ∧
      w'.ownsRow base e E.sz v' (n + 1) (E.cells (l ++ [a])) ∧ (W.alloc (.cells (E.cs a).toArray e)).grownBy w' v.ownBlock ∧ (v'.ownBlock = v.ownBlock ∨ v'.ownBlock = some (W.heap.size + 1)) := by
  have hr : Rd (W.alloc (.cells (E.cs a).toArray e)).heap.size (W.alloc (.cells (E.cs a).toArray e)) E.sz (some ⟨W.heap.size, 0, none⟩) 1 (E.cells [a]) :=
    ⟨by rw [E.cells_length]; rfl, fun _ => ⟨W.heap.size, 0, rfl, by simp, fun j u hu => by
      rw [Nat.zero_add, (Own.new_ W _ _).cell j]
      rw [E.cells_single] at hu
      simpa using hu⟩⟩
  have hm : n + 1 ≤ maxLen := by simp only [maxLen]; omega
  have hbytes : (n + 1) * bytes ≤ 140737488355328 := Nat.le_trans (Nat.mul_le_mul (show n + 1 ≤ 1048577 by omega) hbb) (by omega)
  obtain ⟨v', w', h1, h2, h3, h4⟩ := run_append_rd (P := Try.prog) (W.alloc (.cells (E.cs a).toArray e)) base t t e i z E.sz bytes ht hi hz hs hby hzs E.pos
    v n (E.cells l) (hown.alloc _) _ _ 1 1 _ hr (E.cells_one _) hm hbytes (Nat.le_trans hb (by simp))
  exact ⟨v', w', h1, by rw [E.cells_append]; exact h2, h3, by simpa using h4⟩
/-- a row of the call's own that may be written -/
structure MineE {α : Type} (E : Enc α) (e : TypeId) (B : Nat) (w : World) (A : Option Addr) (l : List α) : Prop where
  is : Rs E w.heap.size w A l
  own : 0 < l.length → ∃ g cs, A = some ⟨g, 0, none⟩ ∧ B ≤ g ∧ Own w g e cs ∧ l.length * E.sz ≤ cs.size
section
variable {α : Type} {E : Enc α} {e : TypeId} {B : Nat} {w w' : World} {A : Option Addr} {l : List α}
theorem MineE.nil_ (A : Option Addr) : MineE E e B w A [] := ⟨rs_nil A, fun h => absurd h (by simp)⟩
theorem mine_own {v : Value} {n : Nat} (hn : n = l.length) (h : w.ownsRow B e E.sz v n (E.cells l)) : ∃ A c, v = .slice A l.length c ∧ l.length ≤ c ∧ c ≤ maxLen ∧ MineE E e B w A l := by
  obtain ⟨A, c, rfl, h1, h2, h3⟩ := rs_own hn h
  refine ⟨A, c, rfl, h1, h2, h3, fun hl => ?_⟩
  rcases h.2 with ⟨h4, _⟩ | ⟨g, cap, cur, hv, hg, ho, hc, _, hs, _⟩
  · injection h4 with _ h4; omega
  · injection hv with hA _ hcc
    refine ⟨g, cur, hA, hg, ho, ?_⟩
    rw [hs]
    exact Nat.mul_le_mul_right _ (by omega)
theorem MineE.below (h : MineE E e B w A l) (hb : Below w.heap.size w w') : MineE E e B w' A l :=
  ⟨h.is.now (Nat.le_refl _) hb, fun hl => let ⟨g, cs, e, hg, ho, hs⟩ := h.own hl; ⟨g, cs, e, hg, ho.below hb, hs⟩⟩
end
theorem slice_max {P : Program} (w : World) (t e : TypeId) (i : TypeInfo) (A : Option Addr) (n c : Nat) (ht : P.underlying t = some (.slice e)) (hi : P.info? e = some i) (hn : n ≤ c) :
    (Instr.slice t (.slice A n c) none (some (.int .i64 (n : Int))) (some (.int .i64 (n : Int)))).run P w = .ok (.slice A n n) w := by
  have h1 : (0 ≤ (n : Int) ∧ (n : Int) ≤ (c : Int)) := ⟨by omega, by omega⟩
  simp [Instr.slice, run_underlying ht, Instr.sliceBounds, Instr.sliceBound, asIntOf, h1, sizeOf, typeInfo, hi]
  cases A <;> simp [Addr.add] <;> (intro hh; exfalso; omega)
end Go.Proofs.Ytbegdjemnclfaaa
