/- A part of the proofs of this seat: Mem. -/
import Derived.WalkKit
import Derived.Lib.Hide
import Derived.Deep.QuietTactic
import Derived.BigQuiet
set_option linter.unusedVariables false
set_option linter.unusedSimpArgs false
set_option maxRecDepth 1000000
namespace Go.Proofs.YtibpnlojlfcpmaaGreatDoor
open Go.RowKit
theorem sA9 {α : Type _} (l : List α) (i : Nat) (a : α) : l.toArray.setIfInBounds i a = (l.set i a).toArray := by simp
theorem sB9 {α : Type _} {a b : α} {l : List α} : (a :: l).set 0 b = b :: l := rfl
theorem sC9 {α : Type _} {a b : α} {l : List α} {n : Nat} : (a :: l).set (n + 1) b = a :: l.set n b := rfl
theorem Hd {p : Prop} (h : p) : RowKit.Hid p := h
structure Rd (B : Nat) (w : World) (sz : Nat) (A : Option Addr) (n : Nat) (xs : List Value) : Prop where
 len : xs.length = n * sz
 at_ : 0 < n → ∃ b o, A = some ⟨b, o, none⟩ ∧ b < B ∧ ∀ j u, xs[j]? = some u → w.cell? ⟨b, o + j, none⟩ = some u
section
variable {B B' : Nat} {w w' : World} {sz n : Nat} {A : Option Addr} {xs : List Value}
theorem Rd.keep (h : Rd B w sz A n xs) (hk : ∀ p : Addr, p.block < B → w'.cell? p = w.cell? p) : Rd B w' sz A n xs :=
 ⟨h.len, fun hn => let ⟨b, o, e, hb, hc⟩ := h.at_ hn; ⟨b, o, e, hb, fun j u hu => (hk _ hb).trans (hc j u hu)⟩⟩
theorem Rd.more (h : Rd B w sz A n xs) (hB : B ≤ B') : Rd B' w sz A n xs :=
 ⟨h.len, fun hn => let ⟨b, o, e, hb, hc⟩ := h.at_ hn; ⟨b, o, e, Nat.lt_of_lt_of_le hb hB, hc⟩⟩
theorem Rd.below (h : Rd B w sz A n xs) (hb : Below B w w') : Rd B w' sz A n xs := h.keep fun _ hp => hb.cell hp
theorem Rd.now (h : Rd B w sz A n xs) (hB : B ≤ w.heap.size) (hb : Below B w w') : Rd w'.heap.size w' sz A n xs := (h.below hb).more (Nat.le_trans hB hb.size)
theorem Rd.nil_ : Rd B w sz A 0 [] := ⟨by simp, fun h => absurd h (by omega)⟩
theorem Rd.alloc (h : Rd w.heap.size w sz A n xs) (o : Obj) : Rd (w.alloc o).heap.size (w.alloc o) sz A n xs :=
 h.now (Nat.le_refl _) ((Below.refl _ _).alloc (Nat.le_refl _) o)
end
section
variable {a w w' : World}
theorem bR {w : World} : Below w.heap.size w w := Below.refl _ _
theorem bA (h : Below a.heap.size a w) {o : Obj} : Below a.heap.size a (w.alloc o) := h.alloc h.size o
theorem bT (h : Below a.heap.size a w) (k : Below w.heap.size w w') : Below a.heap.size a w' := h.trans (k.mono h.size)
theorem bD (h : Below a.heap.size a w) : Below a.heap.size a w.drew := h.drew
theorem bDN (h : Below a.heap.size a w) {n : Nat} : Below a.heap.size a (w.drewN n) := ⟨h.os, h.tape, h.output, h.size, h.block⟩
theorem bS (h : Below a.heap.size a w) {p : Addr} (hp : a.heap.size ≤ p.block) {u : Value} : Below a.heap.size a (w.setCell p u) := h.setCell hp u
theorem bG (h : Below a.heap.size a w) {row : Option Nat} (hg : w.grownBy w' row) (hr : ∀ k, row = some k → a.heap.size ≤ k) : Below a.heap.size a w' := h.grown hg h.size hr
end
structure Ext (w : World) where
 val : World
 ok : Below w.heap.size w val
instance {w : World} : Nonempty (Ext w) := ⟨⟨w, bR⟩⟩
theorem wp_region_ext {P : Program} {id : Nat} {Q : Exit → Act → World → Prop} {a : Act} {w : World} {l : List Oper} (hm : P.follows .mixedOrders = true) (hB : Region.lexB .any l.toArray = true)
  (h : wpQuiet P l.toArray (fun w' => ∃ x : Ext w, w' = x.val) (fun a' => ∀ w', (∃ x : Ext w, w' = x.val) → Q .normal a' w') l a) : (Code.region id l.toArray true).wp P Q a w :=
 wp_region_quiet (C := fun w' => ∃ x : Ext w, w' = x.val) hm hB ⟨⟨w.drew, bD bR⟩, rfl⟩ (by simpa using h)
theorem ext_call {P : Program} {w : World} {f : FuncId} {args : Array Value} {v : Value} {x : Ext w} (h : Calls P f args x.val fun e w' => e = .returned v ∧ Below x.val.heap.size x.val w') :
  Calls P f args x.val fun e w'' => e = .returned v ∧ ∃ y : Ext w, w'' = y.val := h.mono fun _ w' ⟨he, hb⟩ => ⟨he, ⟨w', bT x.ok hb⟩, rfl⟩
theorem ext_same {P : Program} {w : World} {f : FuncId} {args : Array Value} {v : Value} {x : Ext w} (h : Calls P f args x.val fun e w' => e = .returned v ∧ x.val = w') :
  Calls P f args x.val fun e w'' => e = .returned v ∧ ∃ y : Ext w, w'' = y.val := h.mono fun _ _ ⟨he, hb⟩ => ⟨he, x, hb.symm⟩
theorem xcell {w : World} {p : Addr} {v : Value} (h : w.cell? p = some v) (hp : p.block < w.heap.size) : ∀ x : Ext w, x.val.cell? p = some v := fun x => (x.ok.cell hp).trans h
def Own (w : World) (g : Nat) (t : TypeId) (cs : Array Value) : Prop := w.heap[g]? = some (.cells cs t (0, 0))
section
variable {a w w' : World} {g : Nat} {t : TypeId} {cs : Array Value}
theorem Own.lt (h : Own w g t cs) : g < w.heap.size := by
 rcases Nat.lt_or_ge g w.heap.size with hlt | hge
 ·exact hlt
 ·unfold Own at h; rw [Array.getElem?_eq_none hge] at h; cases h
theorem Own.cell (h : Own w g t cs) (i : Nat) : w.cell? ⟨g, i, none⟩ = cs[i]? := by
 unfold Own at h; simp [World.cell?, h]
theorem Own.cell_ (h : Own w g t cs) (i : Nat) {v : Value} (e : cs[i]? = some v) : w.cell? ⟨g, i, none⟩ = some v := (h.cell i).trans e
theorem Own.free (h : Own w g t cs) (i : Nat) : w.frozen? ⟨g, i, none⟩ = false := by
 unfold Own at h; simp [World.frozen?, h]
theorem Own.new_ (w : World) (t : TypeId) (cs : Array Value) : Own (w.alloc (.cells cs t)) w.heap.size t cs := heap_alloc_new w _
theorem Own.drewN (h : Own w g t cs) {n : Nat} : Own (w.drewN n) g t cs := h
theorem Own.drew (h : Own w g t cs) : Own w.drew g t cs := h
theorem Own.alloc (h : Own w g t cs) {o : Obj} : Own (w.alloc o) g t cs := (Below.heap_alloc w o g h.lt).trans h
theorem Own.far (h : Own w g t cs) {p : Addr} (hp : g ≠ p.block) {u : Value} : Own (w.setCell p u) g t cs := (Below.heap_setCell w p u g hp).trans h
theorem Own.below (h : Own w g t cs) (hb : Below w.heap.size w w') : Own w' g t cs := (hb.block g h.lt).trans h
theorem Own.set_ (h : Own w g t cs) (i : Nat) (u : Value) : Own (w.setCell ⟨g, i, none⟩ u) g t (cs.setIfInBounds i u) := by
 unfold Own at h ⊢
 simp [World.setCell, Array.getElem?_modify, h]
end
abbrev Key := Int × Int
def kcells (l : List Key) : List Value := l.flatMap fun k => [.int .i64 k.1, .int .i64 k.2]
theorem kcells_get (l : List Key) (k : Nat) (hk : k < l.length) : (kcells l)[k * 2]? = some (.int .i64 l[k].1) ∧ (kcells l)[k * 2 + 1]? = some (.int .i64 l[k].2) := by
 induction l generalizing k with
 | nil => simp at hk
 | cons x l ih =>
  cases k with
  | zero => simp [kcells]
  | succ k =>
   have := ih k (by simpa using hk)
   have e1 : (k + 1) * 2 = k * 2 + 1 + 1 := by omega
   rw [e1]
   exact this
def cutA (A : Option Addr) (cap lo sz : Nat) : Option Addr := if cap = lo then A else A.map (·.add (lo * sz))
theorem add_lit_ (b o k : Nat) : (⟨b, o, none⟩ : Addr).add k = ⟨b, o + k, none⟩ := by unfold Addr.add; split <;> simp_all
theorem Rd.cut {B : Nat} {w : World} {sz n : Nat} {A : Option Addr} {xs : List Value} (h : Rd B w sz A n xs) {c lo hi : Nat} (h1 : lo ≤ hi) (h2 : hi ≤ n) (h3 : n ≤ c) :
  Rd B w sz (cutA A c lo sz) (hi - lo) ((xs.take (hi * sz)).drop (lo * sz)) := by
 refine ⟨?_, fun hn => ?_⟩
 ·rw [List.length_drop, List.length_take, h.len, Nat.min_eq_left (Nat.mul_le_mul_right _ h2), Nat.sub_mul]
 ·obtain ⟨b, o, rfl, hb, hc⟩ := h.at_ (by omega)
  refine ⟨b, o + lo * sz, ?_, hb, fun j u hu => ?_⟩
  ·unfold cutA
   rw [if_neg (by omega), Option.map_some, add_lit_]
  ·rw [Nat.add_assoc]
   apply hc
   rw [List.getElem?_drop, List.getElem?_take] at hu
   split at hu
   ·exact hu
   ·cases hu
abbrev Ks (B : Nat) (w : World) (A : Option Addr) (l : List Key) : Prop := Rd B w 2 A l.length (kcells l)
theorem Rd.key {B : Nat} {w : World} {A : Option Addr} {l : List Key} (h : Ks B w A l) {k : Nat} (hk : k < l.length) :
  ∃ b o, A = some ⟨b, o, none⟩ ∧ b < B ∧ w.cell? ⟨b, o + k * 2, none⟩ = some (.int .i64 l[k].1) ∧ w.cell? ⟨b, o + k * 2 + 1, none⟩ = some (.int .i64 l[k].2) := by
 obtain ⟨b, o, e, hb, hc⟩ := h.at_ (by omega)
 have := kcells_get l k hk
 exact ⟨b, o, e, hb, hc _ _ this.1, hc _ _ this.2⟩
section
variable {P : Program} (w : World) (t e : TypeId) (i : TypeInfo) (sz : Nat) (A : Option Addr) (n c : Nat)
theorem slice_hi (ht : P.underlying t = some (.slice e)) (hi : P.info? e = some i) (h : Int) (h0 : 0 ≤ h) (h1 : h ≤ c) :
  (Instr.slice t (.slice A n c) none (some (.int .i64 h)) none).run P w = .ok (.slice (cutA A c 0 sz) (h.toNat - 0) (c - 0)) w := by
 have hc : (0 ≤ h ∧ h ≤ (c : Int)) := ⟨h0, h1⟩
 simp [Instr.slice, run_underlying ht, Instr.sliceBounds, Instr.sliceBound, asIntOf, hc, sizeOf, typeInfo, hi, cutA]
end
section
variable {w : World} {g : Nat} {t : TypeId} {a0 a1 a2 a3 a4 a5 a6 a7 a8 : Value}
theorem cells9 (h : Own w g t #[a0, a1, a2, a3, a4, a5, a6, a7, a8]) : w.cell? ⟨g, 0, none⟩ = some a0 ∧ w.cell? ⟨g, 1, none⟩ = some a1 ∧ w.cell? ⟨g, 2, none⟩ = some a2 ∧ w.cell? ⟨g, 3, none⟩ = some a3 ∧ w.cell? ⟨g, 4, none⟩ = some a4 ∧ w.cell? ⟨g, 5, none⟩ = some a5 ∧ w.cell? ⟨g, 6, none⟩ = some a6 ∧ w.cell? ⟨g, 7, none⟩ = some a7 ∧ w.cell? ⟨g, 8, none⟩ = some a8 :=
 ⟨h.cell_ 0 rfl, h.cell_ 1 rfl, h.cell_ 2 rfl, h.cell_ 3 rfl, h.cell_ 4 rfl, h.cell_ 5 rfl, h.cell_ 6 rfl, h.cell_ 7 rfl, h.cell_ 8 rfl⟩
theorem free9 {cs : Array Value} (h : Own w g t cs) : w.frozen? ⟨g, 0, none⟩ = false ∧ w.frozen? ⟨g, 1, none⟩ = false ∧ w.frozen? ⟨g, 2, none⟩ = false ∧ w.frozen? ⟨g, 3, none⟩ = false ∧ w.frozen? ⟨g, 4, none⟩ = false ∧ w.frozen? ⟨g, 5, none⟩ = false ∧ w.frozen? ⟨g, 6, none⟩ = false ∧ w.frozen? ⟨g, 7, none⟩ = false ∧ w.frozen? ⟨g, 8, none⟩ = false :=
 ⟨h.free 0, h.free 1, h.free 2, h.free 3, h.free 4, h.free 5, h.free 6, h.free 7, h.free 8⟩
theorem set9z (h : Own w g t #[a0, a1, a2, a3, a4, a5, a6, a7, a8]) : Own (((((((((w.setCell ⟨g, 0, none⟩ (.slice none 0 0)).setCell ⟨g, 1, none⟩ (.slice none 0 0)).setCell ⟨g, 2, none⟩ (.slice none 0 0)).setCell ⟨g, 3, none⟩ (.int .i64 0)).setCell ⟨g, 4, none⟩ (.int .i64 0)).setCell ⟨g, 5, none⟩ (.int .i64 0)).setCell ⟨g, 6, none⟩ (.int .i64 0)).setCell ⟨g, 7, none⟩ (.slice none 0 0)).setCell ⟨g, 8, none⟩ (.int .i64 0)) g t #[.slice none 0 0, .slice none 0 0, .slice none 0 0, .int .i64 0, .int .i64 0, .int .i64 0, .int .i64 0, .slice none 0 0, .int .i64 0] := by
 simpa using ((((((((h.set_ 0 (.slice none 0 0)).set_ 1 (.slice none 0 0)).set_ 2 (.slice none 0 0)).set_ 3 (.int .i64 0)).set_ 4 (.int .i64 0)).set_ 5 (.int .i64 0)).set_ 6 (.int .i64 0)).set_ 7 (.slice none 0 0)).set_ 8 (.int .i64 0)
theorem box1 (w : World) (c1 : Array Value) (t1 : TypeId) : ∃ W, w.alloc (.cells c1 t1) = W ∧ Own W w.heap.size t1 c1 ∧ Below w.heap.size w W ∧ W.heap.size = w.heap.size + 1 :=
 ⟨_, rfl, Own.new_ _ _ _, bA bR, by simp⟩
theorem box2 (w : World) (c1 : Array Value) (t1 : TypeId) (c2 : Array Value) (t2 : TypeId) : ∃ W, (w.alloc (.cells c1 t1)).alloc (.cells c2 t2) = W ∧ Own W w.heap.size t1 c1 ∧ Own W (w.heap.size + 1) t2 c2 ∧ Below w.heap.size w W ∧ W.heap.size = w.heap.size + 2 :=
 ⟨_, rfl, (Own.new_ _ _ _).alloc, by have h := Own.new_ (w.alloc (.cells c1 t1)) t2 c2; simpa using h, bA (bA bR), by simp⟩
end
end Go.Proofs.YtibpnlojlfcpmaaGreatDoor
