/- A part of the proofs of this seat: Mark, Mk, Mk2, RelA, Closed, Open, Free, LTbD, LTbE, Main, LT1D, LT1E. -/
import Derived.Test.YtnaagdmaggdbmaaGreatDoorRows
import Derived.JoinedOf
import Derived.KernelRfl
import Derived.ProofKit
import Derived.OpenShut
import Derived.ChangeOld
import Derived.Deep.SlicePairs
import Derived.Lib.SmallJoins
import Derived.ChangeSame
import Derived.ChangeVars
import Derived.LaidLaws
import Derived.Handed
import Derived.Test.YtnaagdmaggdbmaaGreatDoorCards
import Derived.Test.YtnaagdmaggdbmaaGreatDoorURel
import Derived.Test.YtnaagdmaggdbmaaGreatDoorUCaP
import Derived.Test.YtnaagdmaggdbmaaGreatDoorUMa
import Derived.Test.YtnaagdmaggdbmaaGreatDoorUMvS
import Derived.Test.YtnaagdmaggdbmaaGreatDoorUPrI
import Derived.Test.YtnaagdmaggdbmaaGreatDoorUIp
import Derived.Test.YtnaagdmaggdbmaaGreatDoorULT1
set_option linter.unusedVariables false
set_option linter.unusedSimpArgs false
namespace Go.Proofs.YtnaagdmaggdbmaaGreatDoor
open Go.RowKit
set_option maxRecDepth 1000000
structure EOwn {α : Type} (E : Enc α) (e : TypeId) (w : World) (g : Nat) (l : List α) : Prop where
 own : ∃ cs, Own w g e cs ∧ cs.size = l.length * E.sz ∧ ∀ j, j < l.length * E.sz → cs[j]? = (E.cells l)[j]?
end Go.Proofs.YtnaagdmaggdbmaaGreatDoor
namespace Go.Proofs.YtnaagdmaggdbmaaGreatDoor
open Go.RowKit
set_option maxRecDepth 1000000
structure Tch (lo hi : Nat) (w w' : World) : Prop where
 os : w'.os = w.os
 tape : w'.tape = w.tape
 output : w'.output = w.output
 size : w.heap.size ≤ w'.heap.size
 block : ∀ k : Nat, k < w.heap.size → ¬ (lo ≤ k ∧ k < hi) → w'.heap[k]? = w.heap[k]?
section
variable {lo hi : Nat} {w w' w'' a : World}
theorem Tch.trans (h : Tch lo hi w w') (k : Tch lo hi w' w'') : Tch lo hi w w'' :=
 ⟨k.os.trans h.os, k.tape.trans h.tape, k.output.trans h.output, Nat.le_trans h.size k.size, fun j hj hn => (k.block j (Nat.lt_of_lt_of_le hj h.size) hn).trans (h.block j hj hn)⟩
theorem Tch.grown {r : Option Nat} (h : w.grownBy w' r) (hr : ∀ k, r = some k → lo ≤ k ∧ k < hi) : Tch lo hi w w' :=
 ⟨h.os, h.tape, h.output, h.size, fun j hj hn => h.block j hj (fun e => hn (hr j e.symm))⟩
theorem Tch.of_below (h : Below w.heap.size w w') : Tch lo hi w w' := ⟨h.os, h.tape, h.output, h.size, fun j hj _ => h.block j hj⟩
theorem Tch.below (h : Tch lo hi w w') (hb : Below a.heap.size a w) (hl : a.heap.size ≤ lo) : Below a.heap.size a w' :=
 ⟨h.os.trans hb.os, h.tape.trans hb.tape, h.output.trans hb.output, Nat.le_trans hb.size h.size, fun j hj => (h.block j (Nat.lt_of_lt_of_le hj hb.size) (by omega)).trans (hb.block j hj)⟩
end
def rowOf (n : Nat) (A : Option Addr) : Option Nat := if n = 0 then none else A.map (·.block)
theorem rowOf_some {n g : Nat} {o : Nat} (h : n ≠ 0) : rowOf n (some ⟨g, o, none⟩) = some g := by unfold rowOf; rw [if_neg h]; rfl
section
variable {w0 w w' : World} {g : Nat} {t : TypeId} {cs : Array Value}
end
theorem MineE.row {α : Type} {E : Enc α} {e : TypeId} {B : Nat} {w : World} {A : Option Addr} {l : List α} (h : MineE E e B w A l) : ∀ k, rowOf l.length A = some k → B ≤ k ∧ k < w.heap.size := by
 intro k hk
 unfold rowOf at hk
 split at hk
 ·cases hk
 ·obtain ⟨g, cs, rfl, hb, ho, _⟩ := h.own (by omega)
  have := ho.lt
  simp at hk
  omega
def mkE (b : Nat → Bool) (sz : Nat) (k0 : Int) (i : Nat) : Value := if b (i % sz) = true then .bool ((k0 + (i : Int)) % 3 == 0) else .int .i64 (k0 + (i : Int))
structure Mk (f : Nat → Value) (sz : Nat) (e : TypeId) (w : World) (A : Option Addr) (n : Nat) : Prop where
 own : 0 < n → ∃ g cs, A = some ⟨g, 0, none⟩ ∧ Own w g e cs ∧ n * sz ≤ cs.size ∧ ∀ i, i < n * sz → cs[i]? = some (f i)
theorem Mk.now {f : Nat → Value} {sz : Nat} {e : TypeId} {w w' : World} {A : Option Addr} {n : Nat} (h : Mk f sz e w A n) (hb : Below w.heap.size w w') : Mk f sz e w' A n :=
 ⟨fun hn => let ⟨g, cs, e, ho, hs, hc⟩ := h.own hn; ⟨g, cs, e, ho.below hb, hs, hc⟩⟩
theorem Mk.other {f : Nat → Value} {sz : Nat} {e e' : TypeId} {w w' : World} {A A' : Option Addr} {n n' : Nat} (h : Mk f sz e w A n) (hg : w.grownBy w' (rowOf n' A')) (ho : 0 < n' → ∃ g cs, A' = some ⟨g, 0, none⟩ ∧ Own w g e' cs) (hne : e ≠ e') : Mk f sz e w' A n := by
 refine ⟨fun hn => ?_⟩
 obtain ⟨g, cs, e1, o1, hs, hc⟩ := h.own hn
 refine ⟨g, cs, e1, (hg.block g o1.lt (fun hk => ?_)).trans o1, hs, hc⟩
 by_cases h0 : n' = 0
 ·rw [h0] at hk; cases hk
 ·obtain ⟨g', cs', rfl, o2⟩ := ho (by omega)
  rw [rowOf_some h0] at hk
  injection hk with hk
  subst hk
  have h3 := o1.symm.trans o2
  injection h3 with h3
  injection h3 with _ h3
  exact hne h3
def bInt : Nat → Bool := (fun d => false)
def bFrame : Nat → Bool := (fun d => d == 0)
def bLine : Nat → Bool := (fun d => d == 0 || d == 5)
def bOwn : Nat → Bool := (fun d => false)
end Go.Proofs.YtnaagdmaggdbmaaGreatDoor
namespace Go.Proofs.YtnaagdmaggdbmaaGreatDoor
open Go.RowKit
set_option maxRecDepth 1000000
section
variable {p : TypeId → Prop} {w w' w'' : World} {e e' : TypeId} {A : Option Addr} {n : Nat}
theorem Mk.oth {f : Nat → Value} {sz : Nat} (h : Mk f sz e w A n) (hg : Oth p w w') (hne : ¬ p e) : Mk f sz e w' A n :=
 ⟨fun hn => let ⟨g, cs, e1, o1, hs, hc⟩ := h.own hn; ⟨g, cs, e1, hg.2 g _ cs o1 hne, hs, hc⟩⟩
end
structure MkM (k0 : Int) (w : World) (A1 A2 A3 A4 : Option Addr) (n1 n2 n3 n4 : Nat) : Prop where
 b : Mk (mkE bInt 1 k0) 1 3 w A1 n1
 f : Mk (mkE bFrame 5 (k0 + (n1 : Int))) 5 48 w A2 n2
 l : Mk (mkE bLine 6 (k0 + (n1 : Int) + 5 * (n2 : Int))) 6 106 w A3 n3
 o : Mk (mkE bOwn 2 (k0 + (n1 : Int) + 5 * (n2 : Int) + 6 * (n3 : Int))) 2 155 w A4 n4
theorem MkM.now {k0 : Int} {w w' : World} {A1 A2 A3 A4 : Option Addr} {n1 n2 n3 n4 : Nat} (h : MkM k0 w A1 A2 A3 A4 n1 n2 n3 n4) (hb : Below w.heap.size w w') : MkM k0 w' A1 A2 A3 A4 n1 n2 n3 n4 := ⟨h.b.now hb, h.f.now hb, h.l.now hb, h.o.now hb⟩
end Go.Proofs.YtnaagdmaggdbmaaGreatDoor
namespace Go.Proofs.YtnaagdmaggdbmaaGreatDoor
open Go.RowKit
set_option maxRecDepth 1000000
theorem EOwn.rs {α : Type} {E : Enc α} {e : TypeId} {w : World} {g : Nat} {l : List α} (h : EOwn E e w g l) : Rs E w.heap.size w (some ⟨g, 0, none⟩) l := by
 obtain ⟨cs, h1, h2, h3⟩ := h.own
 refine ⟨E.cells_length l, fun _ => ⟨g, 0, rfl, h1.lt, fun j u hu => ?_⟩⟩
 obtain ⟨hj, _⟩ := List.getElem?_eq_some_iff.1 hu
 rw [E.cells_length] at hj
 rw [Nat.zero_add, h1.cell, h3 j hj, hu]
theorem EOwn.oth {α : Type} {E : Enc α} {e : TypeId} {w w' : World} {g : Nat} {l : List α} {p : TypeId → Prop} (h : EOwn E e w g l) (ho : Oth p w w') (hp : ¬ p e) : EOwn E e w' g l :=
 let ⟨⟨cs, h1, h2, h3⟩⟩ := h; ⟨⟨cs, ho.2 g _ cs h1 hp, h2, h3⟩⟩
inductive RK where
 | eq (u : Value)
 | ma (m : Ma)
 | sl (fs : List Int)
 | tup (m : Ma) (o : Bool)
 | box
 | boxed (m : Ma)
def RK.at_ (b si j : Nat) : RK → Value → World → Prop
 | .eq u0, u, _ => u = u0
 | .ma m, u, v => ∃ e1 e2 e3 e4, u = .agg #[e1, e2, e3, .int .i64 m.c.hand, .int .i64 m.g.count, .int .i64 m.g.next, .int .i64 m.g.round, e4, .int .i64 m.sp] ∧ MaM b v e1 e2 e3 e4 m
 | .sl fs, u, v => ∃ g, u = .slice (some ⟨g, 0, none⟩) fs.length fs.length ∧ EOwn intE 3 v g fs
 | .tup m o, u, v => ∃ e1 e2 e3 e4, u = .tuple #[.agg #[e1, e2, e3, .int .i64 m.c.hand, .int .i64 m.g.count, .int .i64 m.g.next, .int .i64 m.g.round, e4, .int .i64 m.sp], .bool o] ∧ MaM b v e1 e2 e3 e4 m
 | .box, u, v => ∃ g a0 a1 a2 a3 a4 a5 a6 a7 a8, u = .pointer (some ⟨g, 0, none⟩) ∧ b ≤ g ∧ Own v g 34 #[a0, a1, a2, a3, a4, a5, a6, a7, a8]
 | .boxed m, u, v => j = si ∧ ∃ g e1 e2 e3 e4, u = .pointer (some ⟨g, 0, none⟩) ∧ b ≤ g ∧ Own v g 34 #[e1, e2, e3, .int .i64 m.c.hand, .int .i64 m.g.count, .int .i64 m.g.next, .int .i64 m.g.round, e4, .int .i64 m.sp] ∧ MaM b v e1 e2 e3 e4 m
def tA (si i : Nat) (v v' : World) : Prop := if i = si then Oth (fun e => e = 34) v v' ∧ (∀ g a0 a1 a2 a3 a4 a5 a6 a7 a8, Own v g 34 #[a0, a1, a2, a3, a4, a5, a6, a7, a8] → ∃ b0 b1 b2 b3 b4 b5 b6 b7 b8, Own v' g 34 #[b0, b1, b2, b3, b4, b5, b6, b7, b8]) else Below v.heap.size v v'
theorem tA.oth {si i : Nat} {v v' : World} (h : tA si i v v') : Oth (fun e => e = 34) v v' := by
 unfold tA at h
 split at h
 ·exact h.1
 ·exact Oth.of_below h
end Go.Proofs.YtnaagdmaggdbmaaGreatDoor
namespace Go.Proofs.YtnaagdmaggdbmaaGreatDoor
theorem chars_of {s : String} {l : List Char} (h : s = String.ofList l) : s.toList = l := by rw [h, String.toList_ofList]
theorem head_cons {α : Type} {l : List α} {a : α} (h : l.head? = some a) : ∃ r, l = a :: r := by
 cases l with
 | nil => cases h
 | cons x r => exact ⟨r, by injection h with h; rw [h]⟩
theorem strip_cut (rest : List (List Char)) : stripLifts liftWords ("cut".toList :: rest) = ([], "cut".toList :: rest) := by
 simp only [liftWords, stripLifts]
 repeat (rw [if_neg (by decide)])
theorem mayEnter_of {P : Program} {rest : List (List Char)} (hW : behindMainWord (wordsSigns P.initOrder.toList) = "cut".toList :: rest)
  (l1 : P.laysLater = false) (l2 : P.bearsReflect = false) (l3 : P.doorFits [] = true) : P.mayEnter = true := by
 unfold Program.mayEnter
 rw [hW]
 simp only [strip_cut, l1, l2]
 rw [l3]
 have e1 : ("cut".toList == "gc".toList) = false := by decide
 have e2 : ("cut".toList == "spec".toList) = false := by decide
 have e3 : ("cut".toList == "carried".toList) = false := by decide
 have e4 : (("cut".toList :: rest).head? == some "cut".toList) = true := by rw [List.head?_cons]; decide
 rw [e1, e2, e3, e4]
 rfl
theorem lifts_of {P : Program} {r : List (List Char)} (hr : behindMainWord (wordsSigns P.initOrder.toList) = "cut".toList :: r) : P.liftsFinal = false := by
 have e4 : (("cut".toList :: r).head? == some "cut".toList) = true := by rw [List.head?_cons]; decide
 have e5 : (("cut".toList :: r).head? == some "carried".toList) = false := by rw [List.head?_cons]; decide
 unfold Program.liftsFinal Program.headLifts
 rw [hr]
 simp only [strip_cut, e4, e5]
 rfl
theorem make_of {P : Program} {r : List (List Char)} (hr : behindMainWord (wordsSigns P.initOrder.toList) = "cut".toList :: r) : P.make = some .cut := by
 have e1 : ("cut".toList == "gc".toList) = false := by decide
 have e2 : ("cut".toList == "spec".toList) = false := by decide
 have e3 : ("cut".toList == "cut".toList) = true := by decide
 unfold Program.make
 rw [hr]
 simp only [e1, e2, e3, Bool.or_self, Bool.true_or, Bool.false_eq_true, if_false, if_true]
set_option maxRecDepth 100000 in
theorem cut_head : ∃ r, behindMainWord (wordsSigns Tryz.prog.initOrder.toList) = "cut".toList :: r := by
 have h := chars_of (s := Tryz.prog.initOrder) rfl
 have hh : (behindMainWord (wordsSigns Tryz.prog.initOrder.toList)).head? = some "cut".toList := by
  rw [h]
  refine Eq.trans ?_ (Eq.refl _)
  kernel_rfl
 exact head_cons hh
theorem may_enter : Tryz.prog.mayEnter = true := by
 obtain ⟨r, hr⟩ := cut_head
 exact mayEnter_of hr (by kernel_rfl) (by kernel_rfl) (by kernel_rfl)
theorem lifts_final : Tryz.prog.liftsFinal = false := by
 obtain ⟨r, hr⟩ := cut_head
 exact lifts_of hr
theorem make_cut : Tryz.prog.make = some .cut := by
 obtain ⟨r, hr⟩ := cut_head
 exact make_of hr
end Go.Proofs.YtnaagdmaggdbmaaGreatDoor
namespace Go.Proofs.YtnaagdmaggdbmaaGreatDoor
open Go.ChangeShapes Go.WideShapes Go.ChangeAt Go.RowKit Go.Joins
set_option maxRecDepth 1000000
theorem own_ : ownKnob Tryz.prog.godebug = none := by kernel_rfl
theorem laidOut : laidOutB Tryz.prog = true := by kernel_rfl
theorem ce_int : Program.cellsOf Tryz.prog 3 = 1 := by kernel_rfl
theorem ce_bool : Program.cellsOf Tryz.prog 4 = 1 := by kernel_rfl
section
variable {H : Type} {enc : TypeId × Value → H} {w : World} {base : Nat} {spare : Nat → Bool} {held : Bool}
instance : Inhabited Fr := ⟨frz⟩
instance : Inhabited Ln := ⟨lnz⟩
end
end Go.Proofs.YtnaagdmaggdbmaaGreatDoor
namespace Go.Proofs.YtnaagdmaggdbmaaGreatDoor
open Go.ChangeShapes Go.WideShapes Go.ChangeAt Go.RowKit Go.Joins
set_option maxRecDepth 1000000
theorem free_named : Tryz.prog.globalNamed "loop.example/invertedpages/impl.free" = some 0 := by kernel_rfl
theorem free_type : (Tryz.prog.globals[0]?).map (·.type) = some 48 := by kernel_rfl
theorem ce_keyI : Program.cellsOf Tryz.prog 36 = 2 := by kernel_rfl
theorem ce_frameI : Program.cellsOf Tryz.prog 48 = 5 := by kernel_rfl
def freeCells : Array Value := #[.bool false, .int .i64 0, .int .i64 0, .int .i64 0, .int .i64 (-1)]
section
variable {H : Type} {enc : TypeId × Value → H} {w : World} {base : Nat} {spare : Nat → Bool} {held : Bool}
theorem fldx {fs : Array Field} {t : TypeId} {fuel : Nat} {cs : List Value} {x : DataW H × List MemPlace} (ht : Tryz.prog.underlying t = some (.struct fs)) (h : DataW.trod enc Tryz.prog w base spare held fuel t cs = some x) :
  cs.length = Program.cellsOf Tryz.prog t ∧ ∃ (n : Nat) (xs : List (DataW H × List MemPlace)), xs.length = fs.size ∧ x.1 = .agg (xs.map (·.1)) ∧ ∀ (i : Nat) (f : Field), fs[i]? = some f → ∀ (ty off k : Nat), f.type = ty → f.offset = off → Program.cellsOf Tryz.prog ty = k → DataW.trod enc Tryz.prog w base spare held n ty ((cs.drop off).take k) = xs[i]? := by
 obtain ⟨xs, n, _, rfl, hl, hxl, hf⟩ := DataW.trod_struct ht h
 refine ⟨hl, n, xs, hxl, rfl, fun i f hi ty off k e1 e2 e3 => ?_⟩
 subst e1 e2 e3
 exact hf i f hi
theorem keyd_of {fuel : Nat} {cs : List Value} {x : DataW H × List MemPlace} {a b : Int} (h : DataW.trod enc Tryz.prog w base spare held fuel 36 cs = some x) (hx : x.1 = .agg [.lit (.int .i64 a), .lit (.int .i64 b)]) : cs = [.int .i64 a, .int .i64 b] := by
 obtain ⟨hl, n, xs, hxl, he, hf⟩ := fldx Tryz.underlying36 h
 rw [ce_keyI] at hl
 match cs, hl, xs, hxl with
 | [c0, c1], _, [x0, x1], _ =>
  have h0 := hf 0 _ rfl 3 0 1 rfl rfl ce_int
  have h1 := hf 1 _ rfl 3 1 1 rfl rfl ce_int
  obtain ⟨a0, e0, f0, _⟩ := DataW.trod_int (cs := [c0]) (x := x0) Tryz.underlying3 h0
  obtain ⟨a1, e1, f1, _⟩ := DataW.trod_int (cs := [c1]) (x := x1) Tryz.underlying3 h1
  rw [he] at hx
  subst f0 f1
  simp at hx e0 e1
  obtain ⟨rfl, rfl⟩ := hx
  rw [e0, e1]
theorem free_of {fuel : Nat} {cs : List Value} {x : DataW H × List MemPlace} (h : DataW.trod enc Tryz.prog w base spare held fuel 48 cs = some x) (hx : x.1 = Rows.laid_loop_example_invertedpages_impl_free) : cs = freeCells.toList := by
 obtain ⟨hl, n, xs, hxl, he, hf⟩ := fldx Tryz.underlying48 h
 rw [ce_frameI] at hl
 match cs, hl, xs, hxl with
 | [c0, c1, c2, c3, c4], _, [x0, x1, x2, x3], _ =>
  have h0 := hf 0 _ rfl 4 0 1 rfl rfl ce_bool
  have h1 := hf 1 _ rfl 36 1 2 rfl rfl ce_keyI
  have h2 := hf 2 _ rfl 3 3 1 rfl rfl ce_int
  have h3 := hf 3 _ rfl 3 4 1 rfl rfl ce_int
  obtain ⟨a0, e0, f0⟩ := DataW.trod_bool (cs := [c0]) (x := x0) Tryz.underlying4 h0
  obtain ⟨a2, e2, f2, _⟩ := DataW.trod_int (cs := [c3]) (x := x2) Tryz.underlying3 h2
  obtain ⟨a3, e3, f3, _⟩ := DataW.trod_int (cs := [c4]) (x := x3) Tryz.underlying3 h3
  rw [he] at hx
  subst f0 f2 f3
  simp [Rows.laid_loop_example_invertedpages_impl_free] at hx e0 e2 e3
  obtain ⟨rfl, hk, rfl, rfl⟩ := hx
  have hk2 := keyd_of (cs := [c1, c2]) (x := x1) h1 hk
  simp at hk2
  obtain ⟨rfl, rfl⟩ := hk2
  rw [e0, e2, e3]; rfl
end
theorem free_of_laid {W : World} (h : laidMet Tryz.prog [("loop.example/invertedpages/impl.free", Rows.laid_loop_example_invertedpages_impl_free)] W) : W.var? Tryz.prog "loop.example/invertedpages/impl.free" = some freeCells ∧ Free W := by
 obtain ⟨ps, ⟨g, t, cs, fuel, p, q, hg, ht, hvar, hd, _, _⟩, _⟩ := h
 obtain rfl := Option.some.inj (free_named.symm.trans hg)
 obtain rfl := Option.some.inj (free_type.symm.trans ht)
 obtain ⟨l⟩ := cs
 have hc := free_of hd rfl
 simp only at hc
 subst hc
 have e : ∀ i, W.cell? ⟨0, i, none⟩ = freeCells[i]? := fun i => World.var?_cell hg hvar i
 refine ⟨hvar, World.block_lt_of_cell? W _ (e 0), e 0, e 1, e 2, e 3, e 4⟩
noncomputable def laidWorld (os : Os) : World :=
 { World.holding Tryz.prog os ⟨#[], #[], []⟩ with heap := (World.holding Tryz.prog os ⟨#[], #[], []⟩).heap.modify 0 fun
   | .cells _ t frozen => .cells freeCells t frozen
   | o => o }
theorem laid_met (os : Os) (args : Array Value) : laidMet Tryz.prog [("loop.example/invertedpages/impl.free", Rows.laid_loop_example_invertedpages_impl_free)] ((laidWorld os).forCall (fun _ _ => 0) ⟨#[], args, []⟩).memory :=
 laidMet_of_run (ps := [.cell 0 0, .cell 0 1, .cell 0 2, .cell 0 3, .cell 0 4]) 8 (by kernel_rfl) (by kernel_rfl) (by kernel_rfl)
end Go.Proofs.YtnaagdmaggdbmaaGreatDoor
namespace Go.Proofs.YtnaagdmaggdbmaaGreatDoor.lTouchBytes
open Go.ChangeShapes Go.WideShapes Go.ChangeAt Go.RowKit Go.Joins
set_option maxRecDepth 1000000
set_option maxRecDepth 100000 in
theorem closed : joinedFacts Tryz.prog 10 Tryz.f10 Rows.fnTouchBytesSpec Rows.fnTouchBytesRow = true := by
 unfold joinedFacts
 rw [may_enter, lifts_final, make_cut]
 refine Eq.trans ?_ (Eq.refl _)
 kernel_rfl
end Go.Proofs.YtnaagdmaggdbmaaGreatDoor.lTouchBytes
namespace Go.Proofs.YtnaagdmaggdbmaaGreatDoor.lTouchBytes
open Go.ChangeShapes Go.WideShapes Go.ChangeAt Go.RowKit Go.Joins
set_option linter.unusedVariables false
set_option maxRecDepth 1000000
set_option maxRecDepth 100000 in
theorem lifted (os : Os) (started : os.Started) (H : Type) (enc : TypeId × Value → H) :
  ReturnsInHanded {} Tryz.checked os 10 .any (fun w args => (Rows.fnTouchBytesSpec.pre enc Tryz.prog Tryz.f10 Rows.fnTouchBytesRow.domain false w args ∧ laidMet Tryz.prog [("loop.example/invertedpages/impl.free", Rows.laid_loop_example_invertedpages_impl_free)] w) ∧ sizedMet enc Tryz.prog Tryz.f10 (OpenSpec.ofChange Rows.fnTouchBytesSpec) false w args)
   (Rows.fnTouchBytesSpec.post enc Tryz.prog Tryz.f10 false true false false) := by
 refine returnsInHanded_of_change_and (C := Tryz.checked) (X := fun w _ => laidMet Tryz.prog [("loop.example/invertedpages/impl.free", Rows.laid_loop_example_invertedpages_impl_free)] w) (fun _ _ _ hh h => h.of_heap hh) own_ started (by kernel_rfl) Tryz.func10
  (ChangeSpec.witness_at (enc := enc) (C := Tryz.checked) (os := os) (X := fun w _ => laidMet Tryz.prog [("loop.example/invertedpages/impl.free", Rows.laid_loop_example_invertedpages_impl_free)] w) false (laidWorld os) #[.slice none 0 0] 8 rfl (by kernel_rfl) (by kernel_rfl) (by kernel_rfl) (by kernel_rfl) (by kernel_rfl) (laid_met os _)) ?_
 intro W base args ds gs before hval0 hW hcnd _ hL _
 have hval : ∀ (j : Nat) t v, Tryz.f10.params[j]? = some t → args[j]? = some v → Value.okWide Tryz.prog W .any base t v := hval0
 have hW' := hW
 obtain ⟨p, q, hA0, hV0, rfl, hfz, hnd⟩ := hW
 have hA : DataW.TrodAll enc Tryz.prog W 0 (fun _ => true) true Tryz.f10.params.toList args.toList ds p := hA0
 have hV : DataW.TrodVars enc Tryz.prog W (fun _ => true) ["loop.example/invertedpages/impl.free"] gs q := hV0
 rw [Tryz.params10] at hA hval
 obtain ⟨v0, vs0, d0, ds0, p0, q0, hargs, rfl, rfl, h0, r0⟩ := trodAll_cons hA
 obtain ⟨rfl, rfl, rfl⟩ := trodAll_nil r0
 obtain rfl : args = #[v0] := by cases args; simp_all
 obtain ⟨hvar0, hfree⟩ := free_of_laid hL
 obtain ⟨g, t, cs, fuel, d, p', rfl, hg, ht, hvar, hd, rfl⟩ := trodVars_one hV
 obtain rfl := Option.some.inj (free_named.symm.trans hg)
 obtain rfl := Option.some.inj (free_type.symm.trans ht)
 obtain rfl : cs = freeCells := Option.some.inj (hvar.symm.trans hvar0)
 have k0 := h0
 have lt0 : ∀ x ∈ p0, x.block < W.heap.size := by obtain ⟨m, hm⟩ := k0; exact DataW.trod_lt m _ _ _ hm
 have kd : DataW.Trod enc Tryz.prog W 0 (fun _ => true) true 48 (.agg freeCells) d p' := ⟨fuel, hd⟩
 have ltd : ∀ x ∈ p', x.block < W.heap.size := DataW.trod_lt fuel _ _ _ hd
 obtain ⟨a0, len0, cap0, rfl⟩ := okWide_slice Tryz.underlying22 (hval 0 22 v0 rfl rfl)
 obtain ⟨z0, w0⟩ : ∃ zs, IsRow .u8 W a0 len0 cap0 zs := by
  obtain ⟨fuel, hf⟩ := h0
  rcases open_ints Tryz.underlying22 Tryz.underlying5 (by kernel_rfl) hf with ⟨hcs, _⟩ | ⟨x, l, c, zs, hcs, _, hl, hm, hz, _, hcell, hwz⟩
  ·simp [Value.cells] at hcs
   obtain ⟨rfl, rfl, rfl⟩ := hcs
   exact ⟨[], .inl ⟨rfl, rfl, rfl, rfl⟩⟩
  ·simp [Value.cells] at hcs
   obtain ⟨rfl, rfl, rfl⟩ := hcs
   exact ⟨zs, .inr ⟨_, rfl, hl, hm, by simpa using hz, hcell, hwz⟩⟩
 clear hA0 hV0 hval0
 refine (walk a0 len0 cap0 z0 W w0 hfree).mono fun e W' ⟨he, bel⟩ => ?_
 subst he
 have hvar' := var_stays hg hvar bel (Nat.le_refl _)
 obtain ⟨fuel', hd'⟩ := Below.trod laidOut (by kernel_rfl) (of_decide_eq_true (by kernel_rfl)) kd bel ltd
 exact ⟨_, rfl, _, _, _, [], _, _, hW', trodAll_mk1 (shut_bool Tryz.underlying4 _), (trodAll_cons_mk (Below.trod laidOut (by kernel_rfl) (of_decide_eq_true (by kernel_rfl)) k0 bel lt0) trodAll_mk0), ⟨0, 48, freeCells, fuel', _, _, hg, ht, hvar', hd', rfl, rfl⟩, bel.frame _, fun h => by cases h⟩
theorem over : Rows.fnTouchBytesRow.holds Tryz.pinned (OpenSpec.ofChange Rows.fnTouchBytesSpec) :=
 OpenClaim.holds_of_wide 10 Tryz.f10 rfl rfl rfl rfl rfl rfl rfl ⟨rfl, rfl, rfl, rfl, rfl⟩ rfl rfl rfl rfl rfl (by kernel_rfl) Tryz.func10 closed
  (of_decide_eq_true (by kernel_rfl)) (by unfold Func.isWrapper; rw [if_neg (of_decide_eq_false (by kernel_rfl))]; exact ⟨rfl, rfl⟩)
  (fun os started H enc _ => lifted os started H enc)
end Go.Proofs.YtnaagdmaggdbmaaGreatDoor.lTouchBytes
namespace Go.Proofs.YtnaagdmaggdbmaaGreatDoor
set_option maxRecDepth 100000
theorem main_is : Tryz.prog.mainIs = some (true, ("b52c73bd0f57e1e1fda4b36c52bbd12a9fda5143d317739edc23f03956921a65" : String).toList) := by
 have h := chars_of (s := Tryz.prog.initOrder) rfl
 unfold Program.mainIs
 rw [h]
 refine Eq.trans ?_ (Eq.refl _)
 kernel_rfl
end Go.Proofs.YtnaagdmaggdbmaaGreatDoor
namespace Go.Proofs.YtnaagdmaggdbmaaGreatDoor.lTouchOne
open Go.ChangeShapes Go.WideShapes Go.ChangeAt Go.RowKit Go.Joins
set_option maxRecDepth 1000000
set_option maxRecDepth 100000 in
theorem closed : joinedFacts Tryz.prog 11 Tryz.f11 Rows.fnTouchOneSpec Rows.fnTouchOneRow = true := by
 unfold joinedFacts
 rw [may_enter, lifts_final, make_cut]
 refine Eq.trans ?_ (Eq.refl _)
 kernel_rfl
end Go.Proofs.YtnaagdmaggdbmaaGreatDoor.lTouchOne
namespace Go.Proofs.YtnaagdmaggdbmaaGreatDoor.lTouchOne
open Go.ChangeShapes Go.WideShapes Go.ChangeAt Go.RowKit Go.Joins
set_option linter.unusedVariables false
set_option maxRecDepth 1000000
set_option maxRecDepth 100000 in
theorem lifted (os : Os) (started : os.Started) (H : Type) (enc : TypeId × Value → H) :
  ReturnsInHanded {} Tryz.checked os 11 .any (fun w args => (Rows.fnTouchOneSpec.pre enc Tryz.prog Tryz.f11 Rows.fnTouchOneRow.domain false w args ∧ laidMet Tryz.prog [("loop.example/invertedpages/impl.free", Rows.laid_loop_example_invertedpages_impl_free)] w) ∧ sizedMet enc Tryz.prog Tryz.f11 (OpenSpec.ofChange Rows.fnTouchOneSpec) false w args)
   (Rows.fnTouchOneSpec.post enc Tryz.prog Tryz.f11 false true false false) := by
 refine returnsInHanded_of_change_and (C := Tryz.checked) (X := fun w _ => laidMet Tryz.prog [("loop.example/invertedpages/impl.free", Rows.laid_loop_example_invertedpages_impl_free)] w) (fun _ _ _ hh h => h.of_heap hh) own_ started (by kernel_rfl) Tryz.func11
  (ChangeSpec.witness_at (enc := enc) (C := Tryz.checked) (os := os) (X := fun w _ => laidMet Tryz.prog [("loop.example/invertedpages/impl.free", Rows.laid_loop_example_invertedpages_impl_free)] w) false (laidWorld os) #[.slice none 0 0] 8 rfl (by kernel_rfl) (by kernel_rfl) (by kernel_rfl) (by kernel_rfl) (by kernel_rfl) (laid_met os _)) ?_
 intro W base args ds gs before hval0 hW hcnd _ hL _
 have hval : ∀ (j : Nat) t v, Tryz.f11.params[j]? = some t → args[j]? = some v → Value.okWide Tryz.prog W .any base t v := hval0
 have hW' := hW
 obtain ⟨p, q, hA0, hV0, rfl, hfz, hnd⟩ := hW
 have hA : DataW.TrodAll enc Tryz.prog W 0 (fun _ => true) true Tryz.f11.params.toList args.toList ds p := hA0
 have hV : DataW.TrodVars enc Tryz.prog W (fun _ => true) ["loop.example/invertedpages/impl.free"] gs q := hV0
 rw [Tryz.params11] at hA hval
 obtain ⟨v0, vs0, d0, ds0, p0, q0, hargs, rfl, rfl, h0, r0⟩ := trodAll_cons hA
 obtain ⟨rfl, rfl, rfl⟩ := trodAll_nil r0
 obtain rfl : args = #[v0] := by cases args; simp_all
 obtain ⟨hvar0, hfree⟩ := free_of_laid hL
 obtain ⟨g, t, cs, fuel, d, p', rfl, hg, ht, hvar, hd, rfl⟩ := trodVars_one hV
 obtain rfl := Option.some.inj (free_named.symm.trans hg)
 obtain rfl := Option.some.inj (free_type.symm.trans ht)
 obtain rfl : cs = freeCells := Option.some.inj (hvar.symm.trans hvar0)
 have k0 := h0
 have lt0 : ∀ x ∈ p0, x.block < W.heap.size := by obtain ⟨m, hm⟩ := k0; exact DataW.trod_lt m _ _ _ hm
 have kd : DataW.Trod enc Tryz.prog W 0 (fun _ => true) true 48 (.agg freeCells) d p' := ⟨fuel, hd⟩
 have ltd : ∀ x ∈ p', x.block < W.heap.size := DataW.trod_lt fuel _ _ _ hd
 obtain ⟨a0, len0, cap0, rfl⟩ := okWide_slice Tryz.underlying22 (hval 0 22 v0 rfl rfl)
 obtain ⟨z0, w0⟩ : ∃ zs, IsRow .u8 W a0 len0 cap0 zs := by
  obtain ⟨fuel, hf⟩ := h0
  rcases open_ints Tryz.underlying22 Tryz.underlying5 (by kernel_rfl) hf with ⟨hcs, _⟩ | ⟨x, l, c, zs, hcs, _, hl, hm, hz, _, hcell, hwz⟩
  ·simp [Value.cells] at hcs
   obtain ⟨rfl, rfl, rfl⟩ := hcs
   exact ⟨[], .inl ⟨rfl, rfl, rfl, rfl⟩⟩
  ·simp [Value.cells] at hcs
   obtain ⟨rfl, rfl, rfl⟩ := hcs
   exact ⟨zs, .inr ⟨_, rfl, hl, hm, by simpa using hz, hcell, hwz⟩⟩
 clear hA0 hV0 hval0
 refine (walk a0 len0 cap0 z0 W w0 hfree).mono fun e W' ⟨he, bel⟩ => ?_
 subst he
 have hvar' := var_stays hg hvar bel (Nat.le_refl _)
 obtain ⟨fuel', hd'⟩ := Below.trod laidOut (by kernel_rfl) (of_decide_eq_true (by kernel_rfl)) kd bel ltd
 exact ⟨_, rfl, _, _, _, [], _, _, hW', trodAll_mk1 (shut_bool Tryz.underlying4 _), (trodAll_cons_mk (Below.trod laidOut (by kernel_rfl) (of_decide_eq_true (by kernel_rfl)) k0 bel lt0) trodAll_mk0), ⟨0, 48, freeCells, fuel', _, _, hg, ht, hvar', hd', rfl, rfl⟩, bel.frame _, fun h => by cases h⟩
theorem over : Rows.fnTouchOneRow.holds Tryz.pinned (OpenSpec.ofChange Rows.fnTouchOneSpec) :=
 OpenClaim.holds_of_wide 11 Tryz.f11 rfl rfl rfl rfl rfl rfl rfl ⟨rfl, rfl, rfl, rfl, rfl⟩ rfl rfl rfl rfl rfl (by kernel_rfl) Tryz.func11 closed
  (of_decide_eq_true (by kernel_rfl)) (by unfold Func.isWrapper; rw [if_neg (of_decide_eq_false (by kernel_rfl))]; exact ⟨rfl, rfl⟩)
  (fun os started H enc _ => lifted os started H enc)
end Go.Proofs.YtnaagdmaggdbmaaGreatDoor.lTouchOne
