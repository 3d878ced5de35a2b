import Derived.WalkKit
import Derived.Lib.Hide
import Derived.Deep.QuietTactic
import Derived.BigQuiet
namespace Go.Proofs.Ytbegdjemnclfaaa
open Go.RowKit

/-! ### words for memory -/
/-- A slice of n elements of sz cells each: the cells are xs; they lie below block B. -/
structure Rd (B : Nat) (w : World) (sz : Nat) (A : Option Addr) (n : Nat) (xs : List Value) : Prop where
  len : xs.length = n * sz
  at_ : 0 < n → ∃ b o, A = some ⟨b, o, none⟩ ∧ b < B ∧ ∀ j u, xs[j]? = some u → w.cell? ⟨b, o + j, none⟩ = some u

section
variable {B B' : Nat} {w w' : World} {sz n : Nat} {A : Option Addr} {xs : List Value}
theorem Rd.keep (h : Rd B w sz A n xs) (hk : ∀ p : Addr, p.block < B → w'.cell? p = w.cell? p) : Rd B w' sz A n xs :=
  ⟨h.len, fun hn => let ⟨b, o, e, hb, hc⟩ := h.at_ hn; ⟨b, o, e, hb, fun j u hu => (hk _ hb).trans (hc j u hu)⟩⟩
theorem Rd.more (h : Rd B w sz A n xs) (hB : B ≤ B') : Rd B' w sz A n xs :=
  ⟨h.len, fun hn => let ⟨b, o, e, hb, hc⟩ := h.at_ hn; ⟨b, o, e, Nat.lt_of_lt_of_le hb hB, hc⟩⟩
theorem Rd.below (h : Rd B w sz A n xs) (hb : Below B w w') : Rd B w' sz A n xs := h.keep fun _ hp => hb.cell hp
/-- in the world of now, whatever was read -/
theorem Rd.now (h : Rd B w sz A n xs) (hB : B ≤ w.heap.size) (hb : Below B w w') : Rd w'.heap.size w' sz A n xs := (h.below hb).more (Nat.le_trans hB hb.size)
theorem Rd.nil_ : Rd B w sz A 0 [] := ⟨by simp, fun h => absurd h (by omega)⟩
theorem Rd.alloc (h : Rd w.heap.size w sz A n xs) (o : Obj) : Rd (w.alloc o).heap.size (w.alloc o) sz A n xs :=
  h.now (Nat.le_refl _) ((Below.refl _ _).alloc (Nat.le_refl _) o)
end

/-! ### what is kept -/
section
variable {a w w' : World}
theorem bR {w : World} : Below w.heap.size w w := Below.refl _ _
theorem bA (h : Below a.heap.size a w) {o : Obj} : Below a.heap.size a (w.alloc o) := h.alloc h.size o
theorem bT (h : Below a.heap.size a w) (k : Below w.heap.size w w') : Below a.heap.size a w' := h.trans (k.mono h.size)
theorem bD (h : Below a.heap.size a w) : Below a.heap.size a w.drew := h.drew
theorem bDN (h : Below a.heap.size a w) {n : Nat} : Below a.heap.size a (w.drewN n) := ⟨h.os, h.tape, h.output, h.size, h.block⟩
theorem bS (h : Below a.heap.size a w) {p : Addr} (hp : a.heap.size ≤ p.block) {u : Value} : Below a.heap.size a (w.setCell p u) := h.setCell hp u
theorem bG (h : Below a.heap.size a w) {row : Option Nat} (hg : w.grownBy w' row) (hr : ∀ k, row = some k → a.heap.size ≤ k) : Below a.heap.size a w' := h.grown hg h.size hr
end

/-! ### regions that draw their order, whose operations read and whose calls make memory of their own -/
/-- a world in which nothing that was there has turned -/
structure Ext (w : World) where
  val : World
  ok : Below w.heap.size w val
instance {w : World} : Nonempty (Ext w) := ⟨⟨w, bR⟩⟩
theorem wp_region_ext {P : Program} {id : Nat} {Q : Exit → Act → World → Prop} {a : Act} {w : World} {l : List Oper} (hm : P.follows .mixedOrders = true) (hB : Region.lexB .any l.toArray = true)
    (h : wpQuiet P l.toArray (fun w' => ∃ x : Ext w, w' = x.val) (fun a' => ∀ w', (∃ x : Ext w, w' = x.val) → Q .normal a' w') l a) : (Code.region id l.toArray true).wp P Q a w :=
  wp_region_quiet (C := fun w' => ∃ x : Ext w, w' = x.val) hm hB ⟨⟨w.drew, bD bR⟩, rfl⟩ (by simpa using h)
theorem ext_call {P : Program} {w : World} {f : FuncId} {args : Array Value} {v : Value} {x : Ext w} (h : Calls P f args x.val fun e w' => e = .returned v ∧ Below x.val.heap.size x.val w') :
    Calls P f args x.val fun e w'' => e = .returned v ∧ ∃ y : Ext w, w'' = y.val := h.mono fun _ w' ⟨he, hb⟩ => ⟨he, ⟨w', bT x.ok hb⟩, rfl⟩
theorem ext_same {P : Program} {w : World} {f : FuncId} {args : Array Value} {v : Value} {x : Ext w} (h : Calls P f args x.val fun e w' => e = .returned v ∧ x.val = w') :
    Calls P f args x.val fun e w'' => e = .returned v ∧ ∃ y : Ext w, w'' = y.val := h.mono fun _ _ ⟨he, hb⟩ => ⟨he, x, hb.symm⟩
theorem xcell {w : World} {p : Addr} {v : Value} (h : w.cell? p = some v) (hp : p.block < w.heap.size) : ∀ x : Ext w, x.val.cell? p = some v := fun x => (x.ok.cell hp).trans h

/-- a block of the call's own, known whole -/
def Own (w : World) (g : Nat) (t : TypeId) (cs : Array Value) : Prop := w.heap[g]? = some (.cells cs t (0, 0))
section
variable {a w w' : World} {g : Nat} {t : TypeId} {cs : Array Value}
theorem Own.lt (h : Own w g t cs) : g < w.heap.size := by
  rcases Nat.lt_or_ge g w.heap.size with hlt | hge
  · exact hlt
  · unfold Own at h; rw [Array.getElem?_eq_none hge] at h; cases h
theorem Own.cell (h : Own w g t cs) (i : Nat) : w.cell? ⟨g, i, none⟩ = cs[i]? := by
  unfold Own at h; simp [World.cell?, h]
theorem Own.cell_ (h : Own w g t cs) (i : Nat) {v : Value} (e : cs[i]? = some v) : w.cell? ⟨g, i, none⟩ = some v := (h.cell i).trans e
theorem Own.free (h : Own w g t cs) (i : Nat) : w.frozen? ⟨g, i, none⟩ = false := by
  unfold Own at h; simp [World.frozen?, h]
theorem Own.new_ (w : World) (t : TypeId) (cs : Array Value) : Own (w.alloc (.cells cs t)) w.heap.size t cs := heap_alloc_new w _
theorem Own.drewN (h : Own w g t cs) {n : Nat} : Own (w.drewN n) g t cs := h
theorem Own.drew (h : Own w g t cs) : Own w.drew g t cs := h
theorem Own.alloc (h : Own w g t cs) {o : Obj} : Own (w.alloc o) g t cs := (Below.heap_alloc w o g h.lt).trans h
theorem Own.far (h : Own w g t cs) {p : Addr} (hp : g ≠ p.block) {u : Value} : Own (w.setCell p u) g t cs := (Below.heap_setCell w p u g hp).trans h
theorem Own.below (h : Own w g t cs) (hb : Below w.heap.size w w') : Own w' g t cs := (hb.block g h.lt).trans h
theorem Own.set_ (h : Own w g t cs) (i : Nat) (u : Value) : Own (w.setCell ⟨g, i, none⟩ u) g t (cs.setIfInBounds i u) := by
  unfold Own at h ⊢
  simp [World.setCell, Array.getElem?_modify, h]
end

abbrev Key := Int × Int
def kcells (l : List Key) : List Value := l.flatMap fun k => [.int .i64 k.1, .int .i64 k.2]
theorem kcells_length (l : List Key) : (kcells l).length = l.length * 2 := by
  induction l with
  | nil => rfl
  | cons x l ih => simp only [kcells, List.flatMap_cons, List.length_append, List.length_cons, List.length_nil] at ih ⊢; omega
theorem kcells_append (l m : List Key) : kcells (l ++ m) = kcells l ++ kcells m := by simp [kcells]
theorem kcells_get (l : List Key) (k : Nat) (hk : k < l.length) : (kcells l)[k * 2]? = some (.int .i64 l[k].1) ∧ (kcells l)[k * 2 + 1]? = some (.int .i64 l[k].2) := by
  induction l generalizing k with
  | nil => simp at hk
  | cons x l ih =>
    cases k with
    | zero => simp [kcells]
    | succ k =>
      have := ih k (by simpa using hk)
      have e1 : (k + 1) * 2 = k * 2 + 1 + 1 := by omega
      rw [e1]
      exact this
theorem kcells_drop (l : List Key) (i : Nat) : (kcells l).drop (i * 2) = kcells (l.drop i) := by
  induction i generalizing l with
  | zero => simp
  | succ i ih =>
    cases l with
    | nil => simp [kcells]
    | cons x l =>
      have e : (i + 1) * 2 = i * 2 + 1 + 1 := by omega
      rw [e, List.drop_succ_cons, ← ih l]
      rfl
theorem kcells_take (l : List Key) (i : Nat) : (kcells l).take (i * 2) = kcells (l.take i) := by
  induction i generalizing l with
  | zero => simp [kcells]
  | succ i ih =>
    cases l with
    | nil => simp [kcells]
    | cons x l =>
      have e : (i + 1) * 2 = i * 2 + 1 + 1 := by omega
      have e2 : kcells ((x :: l).take (i + 1)) = .int .i64 x.1 :: .int .i64 x.2 :: kcells (l.take i) := rfl
      have e3 : kcells (x :: l) = .int .i64 x.1 :: .int .i64 x.2 :: kcells l := rfl
      rw [e, e2, e3, List.take_succ_cons, List.take_succ_cons, ← ih l]

/-- where x[lo:] begins: where no room is left behind it, the array's own address -/
def cutA (A : Option Addr) (cap lo sz : Nat) : Option Addr := if cap = lo then A else A.map (·.add (lo * sz))
theorem add_lit_ (b o k : Nat) : (⟨b, o, none⟩ : Addr).add k = ⟨b, o + k, none⟩ := by unfold Addr.add; split <;> simp_all
theorem Rd.cut {B : Nat} {w : World} {sz n : Nat} {A : Option Addr} {xs : List Value} (h : Rd B w sz A n xs) {c lo hi : Nat} (h1 : lo ≤ hi) (h2 : hi ≤ n) (h3 : n ≤ c) :
    Rd B w sz (cutA A c lo sz) (hi - lo) ((xs.take (hi * sz)).drop (lo * sz)) := by
  refine ⟨?_, fun hn => ?_⟩
  · rw [List.length_drop, List.length_take, h.len, Nat.min_eq_left (Nat.mul_le_mul_right _ h2), Nat.sub_mul]
  · obtain ⟨b, o, rfl, hb, hc⟩ := h.at_ (by omega)
    refine ⟨b, o + lo * sz, ?_, hb, fun j u hu => ?_⟩
    · unfold cutA
      rw [if_neg (by omega), Option.map_some, add_lit_]
    · rw [Nat.add_assoc]
      apply hc
      rw [List.getElem?_drop, List.getElem?_take] at hu
      split at hu
      · exact hu
      · cases hu
abbrev Ks (B : Nat) (w : World) (A : Option Addr) (l : List Key) : Prop := Rd B w 2 A l.length (kcells l)
theorem Rd.kcut {B : Nat} {w : World} {A : Option Addr} {l : List Key} (h : Ks B w A l) {c lo hi : Nat} (h1 : lo ≤ hi) (h2 : hi ≤ l.length) (h3 : l.length ≤ c) :
    Ks B w (cutA A c lo 2) ((l.take hi).drop lo) := by
  have := h.cut h1 h2 h3
  rw [kcells_take, kcells_drop] at this
  have e : ((l.take hi).drop lo).length = hi - lo := by simp; omega
  unfold Ks
  rw [e]
  exact this
theorem Rd.kfrom {B : Nat} {w : World} {A : Option Addr} {l : List Key} (h : Ks B w A l) {c lo : Nat} (h1 : lo ≤ l.length) (h3 : l.length ≤ c) :
    Ks B w (cutA A c lo 2) (l.drop lo) := by
  have := h.kcut (c := c) h1 (Nat.le_refl _) h3
  rwa [List.take_length] at this
theorem Rd.key {B : Nat} {w : World} {A : Option Addr} {l : List Key} (h : Ks B w A l) {k : Nat} (hk : k < l.length) :
    ∃ b o, A = some ⟨b, o, none⟩ ∧ b < B ∧ w.cell? ⟨b, o + k * 2, none⟩ = some (.int .i64 l[k].1) ∧ w.cell? ⟨b, o + k * 2 + 1, none⟩ = some (.int .i64 l[k].2) := by
  obtain ⟨b, o, e, hb, hc⟩ := h.at_ (by omega)
  have := kcells_get l k hk
  exact ⟨b, o, e, hb, hc _ _ this.1, hc _ _ this.2⟩

theorem Rd.key2 {B : Nat} {w : World} {A : Option Addr} {l : List Key} (h : Ks B w A l) {k : Nat} (hk : k < l.length) :
    ∃ b o x y, A = some ⟨b, o, none⟩ ∧ b < B ∧ w.cell? ⟨b, o + k * 2, none⟩ = some (.int .i64 x) ∧ w.cell? ⟨b, o + k * 2 + 1, none⟩ = some (.int .i64 y) ∧ l[k]? = some (x, y) := by
  obtain ⟨b, o, e, hb, h1, h2⟩ := h.key hk
  exact ⟨b, o, _, _, e, hb, h1, h2, List.getElem?_eq_getElem hk⟩

/-! ### slicing, under one name -/
section
variable {P : Program} (w : World) (t e : TypeId) (i : TypeInfo) (sz : Nat) (A : Option Addr) (n c : Nat)
theorem slice_lo (ht : P.underlying t = some (.slice e)) (hi : P.info? e = some i) (hz : i.size = sz) (lo : Int) (h0 : 0 ≤ lo) (h1 : lo ≤ n) :
    (Instr.slice t (.slice A n c) (some (.int .i64 lo)) none none).run P w = .ok (.slice (cutA A c lo.toNat sz) (n - lo.toNat) (c - lo.toNat)) w := by
  have hc : (0 ≤ lo ∧ lo ≤ (n : Int)) := ⟨h0, h1⟩
  simp [Instr.slice, run_underlying ht, Instr.sliceBounds, Instr.sliceBound, asIntOf, hc, sizeOf, typeInfo, hi, hz, cutA]
theorem slice_hi (ht : P.underlying t = some (.slice e)) (hi : P.info? e = some i) (h : Int) (h0 : 0 ≤ h) (h1 : h ≤ c) :
    (Instr.slice t (.slice A n c) none (some (.int .i64 h)) none).run P w = .ok (.slice (cutA A c 0 sz) (h.toNat - 0) (c - 0)) w := by
  have hc : (0 ≤ h ∧ h ≤ (c : Int)) := ⟨h0, h1⟩
  simp [Instr.slice, run_underlying ht, Instr.sliceBounds, Instr.sliceBound, asIntOf, hc, sizeOf, typeInfo, hi, cutA]
theorem slice_lohi (ht : P.underlying t = some (.slice e)) (hi : P.info? e = some i) (hz : i.size = sz) (lo h : Int) (h0 : 0 ≤ lo) (h2 : lo ≤ h) (h1 : h ≤ c) :
    (Instr.slice t (.slice A n c) (some (.int .i64 lo)) (some (.int .i64 h)) none).run P w = .ok (.slice (cutA A c lo.toNat sz) (h.toNat - lo.toNat) (c - lo.toNat)) w := by
  have hc : (0 ≤ h ∧ h ≤ (c : Int)) := ⟨by omega, h1⟩
  have hd : (0 ≤ lo ∧ lo ≤ (h.toNat : Int)) := ⟨h0, by omega⟩
  simp [Instr.slice, run_underlying ht, Instr.sliceBounds, Instr.sliceBound, asIntOf, hc, hd, sizeOf, typeInfo, hi, hz, cutA]
  intro hh
  exfalso
  omega
end
end Go.Proofs.Ytbegdjemnclfaaa
