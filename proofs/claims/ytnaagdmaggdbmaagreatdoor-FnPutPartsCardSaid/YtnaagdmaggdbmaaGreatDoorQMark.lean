/- A part of the proofs of this seat: Mark, Mk, Mk2, Rg2, RelA, Closed, Open, Main. -/
import Derived.Test.YtnaagdmaggdbmaaGreatDoorRows
import Derived.JoinedOf
import Derived.KernelRfl
import Derived.ProofKit
import Derived.OpenShut
import Derived.ChangeOld
import Derived.Deep.SlicePairs
import Derived.Lib.SmallJoins
import Derived.Test.YtnaagdmaggdbmaaGreatDoorCards
import Derived.Test.YtnaagdmaggdbmaaGreatDoorQRow
import Derived.Test.YtnaagdmaggdbmaaGreatDoorQCaP
import Derived.Test.YtnaagdmaggdbmaaGreatDoorQMapI
import Derived.Test.YtnaagdmaggdbmaaGreatDoorQMvS
import Derived.Test.YtnaagdmaggdbmaaGreatDoorQRgI
set_option linter.unusedVariables false
set_option linter.unusedSimpArgs false
namespace Go.Proofs.YtnaagdmaggdbmaaGreatDoor
open Go.RowKit
set_option maxRecDepth 1000000
structure EOwn {α : Type} (E : Enc α) (e : TypeId) (w : World) (g : Nat) (l : List α) : Prop where
 own : ∃ cs, Own w g e cs ∧ cs.size = l.length * E.sz ∧ ∀ j, j < l.length * E.sz → cs[j]? = (E.cells l)[j]?
end Go.Proofs.YtnaagdmaggdbmaaGreatDoor
namespace Go.Proofs.YtnaagdmaggdbmaaGreatDoor
open Go.RowKit
set_option maxRecDepth 1000000
structure Tch (lo hi : Nat) (w w' : World) : Prop where
 os : w'.os = w.os
 tape : w'.tape = w.tape
 output : w'.output = w.output
 size : w.heap.size ≤ w'.heap.size
 block : ∀ k : Nat, k < w.heap.size → ¬ (lo ≤ k ∧ k < hi) → w'.heap[k]? = w.heap[k]?
section
variable {lo hi : Nat} {w w' w'' a : World}
theorem Tch.trans (h : Tch lo hi w w') (k : Tch lo hi w' w'') : Tch lo hi w w'' :=
 ⟨k.os.trans h.os, k.tape.trans h.tape, k.output.trans h.output, Nat.le_trans h.size k.size, fun j hj hn => (k.block j (Nat.lt_of_lt_of_le hj h.size) hn).trans (h.block j hj hn)⟩
theorem Tch.grown {r : Option Nat} (h : w.grownBy w' r) (hr : ∀ k, r = some k → lo ≤ k ∧ k < hi) : Tch lo hi w w' :=
 ⟨h.os, h.tape, h.output, h.size, fun j hj hn => h.block j hj (fun e => hn (hr j e.symm))⟩
theorem Tch.of_below (h : Below w.heap.size w w') : Tch lo hi w w' := ⟨h.os, h.tape, h.output, h.size, fun j hj _ => h.block j hj⟩
theorem Tch.below (h : Tch lo hi w w') (hb : Below a.heap.size a w) (hl : a.heap.size ≤ lo) : Below a.heap.size a w' :=
 ⟨h.os.trans hb.os, h.tape.trans hb.tape, h.output.trans hb.output, Nat.le_trans hb.size h.size, fun j hj => (h.block j (Nat.lt_of_lt_of_le hj hb.size) (by omega)).trans (hb.block j hj)⟩
end
def rowOf (n : Nat) (A : Option Addr) : Option Nat := if n = 0 then none else A.map (·.block)
theorem rowOf_some {n g : Nat} {o : Nat} (h : n ≠ 0) : rowOf n (some ⟨g, o, none⟩) = some g := by unfold rowOf; rw [if_neg h]; rfl
section
variable {w0 w w' : World} {g : Nat} {t : TypeId} {cs : Array Value}
end
theorem MineE.row {α : Type} {E : Enc α} {e : TypeId} {B : Nat} {w : World} {A : Option Addr} {l : List α} (h : MineE E e B w A l) : ∀ k, rowOf l.length A = some k → B ≤ k ∧ k < w.heap.size := by
 intro k hk
 unfold rowOf at hk
 split at hk
 ·cases hk
 ·obtain ⟨g, cs, rfl, hb, ho, _⟩ := h.own (by omega)
  have := ho.lt
  simp at hk
  omega
def mkE (b : Nat → Bool) (sz : Nat) (k0 : Int) (i : Nat) : Value := if b (i % sz) = true then .bool ((k0 + (i : Int)) % 3 == 0) else .int .i64 (k0 + (i : Int))
structure Mk (f : Nat → Value) (sz : Nat) (e : TypeId) (w : World) (A : Option Addr) (n : Nat) : Prop where
 own : 0 < n → ∃ g cs, A = some ⟨g, 0, none⟩ ∧ Own w g e cs ∧ n * sz ≤ cs.size ∧ ∀ i, i < n * sz → cs[i]? = some (f i)
theorem Mk.now {f : Nat → Value} {sz : Nat} {e : TypeId} {w w' : World} {A : Option Addr} {n : Nat} (h : Mk f sz e w A n) (hb : Below w.heap.size w w') : Mk f sz e w' A n :=
 ⟨fun hn => let ⟨g, cs, e, ho, hs, hc⟩ := h.own hn; ⟨g, cs, e, ho.below hb, hs, hc⟩⟩
theorem Mk.other {f : Nat → Value} {sz : Nat} {e e' : TypeId} {w w' : World} {A A' : Option Addr} {n n' : Nat} (h : Mk f sz e w A n) (hg : w.grownBy w' (rowOf n' A')) (ho : 0 < n' → ∃ g cs, A' = some ⟨g, 0, none⟩ ∧ Own w g e' cs) (hne : e ≠ e') : Mk f sz e w' A n := by
 refine ⟨fun hn => ?_⟩
 obtain ⟨g, cs, e1, o1, hs, hc⟩ := h.own hn
 refine ⟨g, cs, e1, (hg.block g o1.lt (fun hk => ?_)).trans o1, hs, hc⟩
 by_cases h0 : n' = 0
 ·rw [h0] at hk; cases hk
 ·obtain ⟨g', cs', rfl, o2⟩ := ho (by omega)
  rw [rowOf_some h0] at hk
  injection hk with hk
  subst hk
  have h3 := o1.symm.trans o2
  injection h3 with h3
  injection h3 with _ h3
  exact hne h3
def bInt : Nat → Bool := (fun d => false)
def bFrame : Nat → Bool := (fun d => d == 0)
def bLine : Nat → Bool := (fun d => d == 0 || d == 5)
def bOwn : Nat → Bool := (fun d => false)
end Go.Proofs.YtnaagdmaggdbmaaGreatDoor
namespace Go.Proofs.YtnaagdmaggdbmaaGreatDoor
open Go.RowKit
set_option maxRecDepth 1000000
section
variable {p : TypeId → Prop} {w w' w'' : World} {e e' : TypeId} {A : Option Addr} {n : Nat}
theorem Mk.oth {f : Nat → Value} {sz : Nat} (h : Mk f sz e w A n) (hg : Oth p w w') (hne : ¬ p e) : Mk f sz e w' A n :=
 ⟨fun hn => let ⟨g, cs, e1, o1, hs, hc⟩ := h.own hn; ⟨g, cs, e1, hg.2 g _ cs o1 hne, hs, hc⟩⟩
end
structure MkM (k0 : Int) (w : World) (A1 A2 A3 A4 : Option Addr) (n1 n2 n3 n4 : Nat) : Prop where
 b : Mk (mkE bInt 1 k0) 1 3 w A1 n1
 f : Mk (mkE bFrame 5 (k0 + (n1 : Int))) 5 48 w A2 n2
 l : Mk (mkE bLine 6 (k0 + (n1 : Int) + 5 * (n2 : Int))) 6 106 w A3 n3
 o : Mk (mkE bOwn 2 (k0 + (n1 : Int) + 5 * (n2 : Int) + 6 * (n3 : Int))) 2 155 w A4 n4
theorem MkM.now {k0 : Int} {w w' : World} {A1 A2 A3 A4 : Option Addr} {n1 n2 n3 n4 : Nat} (h : MkM k0 w A1 A2 A3 A4 n1 n2 n3 n4) (hb : Below w.heap.size w w') : MkM k0 w' A1 A2 A3 A4 n1 n2 n3 n4 := ⟨h.b.now hb, h.f.now hb, h.l.now hb, h.o.now hb⟩
end Go.Proofs.YtnaagdmaggdbmaaGreatDoor
namespace Go.Proofs.YtnaagdmaggdbmaaGreatDoor
open Go.RowKit
set_option maxRecDepth 1000000
set_option maxHeartbeats 2000000 in
theorem PutRange_any (vb vf vl vo : Value) (m : Ma) (s p r : Int) (A : Option Addr) (c : Nat) (fs : List Int) (w : World) (hM : MaR w vb vf vl vo m) (hfree : Free w) (hR : Rs intE w.heap.size w A fs) (hl : fs.length ≤ 1048576) :
  Calls Tryz.prog 14 #[.agg #[vb, vf, vl, .int .i64 m.c.hand, .int .i64 m.g.count, .int .i64 m.g.next, .int .i64 m.g.round, vo, .int .i64 m.sp], .agg #[.int .i64 s, .int .i64 p], .slice A fs.length c, .int .i64 r] w (Post2 fun v w' => ∃ v1 v2 v3 v4, v = .tuple #[.agg #[v1, v2, v3, .int .i64 (prgV m s p fs r).c.hand, .int .i64 (prgV m s p fs r).g.count, .int .i64 (prgV m s p fs r).g.next, .int .i64 (prgV m s p fs r).g.round, v4, .int .i64 (prgV m s p fs r).sp], .bool (prgO m s p fs r).isSome] ∧ MaM w.heap.size w' v1 v2 v3 v4 (prgV m s p fs r) ∧ Below w.heap.size w w') := by
 have hfr := ((ownAt (W := ((w.alloc (.cells #[vb, vf, vl, .int .i64 m.c.hand, .int .i64 m.g.count, .int .i64 m.g.next, .int .i64 m.g.round, vo, .int .i64 m.sp] 34)).alloc (.cells #[.int .i64 s, .int .i64 p] 36))) (g := w.heap.size + 1 + 1) (t := 23) (cs := #[.slice A fs.length c]) (by simp)).alloc (o := (.cells #[.int .i64 r] 3))).alloc (o := (.cells #[.slice none 0 0, .slice none 0 0, .slice none 0 0, .int .i64 0, .int .i64 0, .int .i64 0, .int .i64 0, .slice none 0 0, .int .i64 0] 34))
 have hri := (ownAt (W := (((w.alloc (.cells #[vb, vf, vl, .int .i64 m.c.hand, .int .i64 m.g.count, .int .i64 m.g.next, .int .i64 m.g.round, vo, .int .i64 m.sp] 34)).alloc (.cells #[.int .i64 s, .int .i64 p] 36)).alloc (.cells #[.slice A fs.length c] 23))) (g := w.heap.size + 1 + 1 + 1) (t := 3) (cs := #[.int .i64 r]) (by simp)).alloc (o := (.cells #[.slice none 0 0, .slice none 0 0, .slice none 0 0, .int .i64 0, .int .i64 0, .int .i64 0, .int .i64 0, .slice none 0 0, .int .i64 0] 34))
 have hro := ownAt (W := ((((w.alloc (.cells #[vb, vf, vl, .int .i64 m.c.hand, .int .i64 m.g.count, .int .i64 m.g.next, .int .i64 m.g.round, vo, .int .i64 m.sp] 34)).alloc (.cells #[.int .i64 s, .int .i64 p] 36)).alloc (.cells #[.slice A fs.length c] 23)).alloc (.cells #[.int .i64 r] 3))) (g := w.heap.size + 1 + 1 + 1 + 1) (t := 34) (cs := #[.slice none 0 0, .slice none 0 0, .slice none 0 0, .int .i64 0, .int .i64 0, .int .i64 0, .int .i64 0, .slice none 0 0, .int .i64 0]) (by simp)
 have hb0 : Below w.heap.size w (((((w.alloc (.cells #[vb, vf, vl, .int .i64 m.c.hand, .int .i64 m.g.count, .int .i64 m.g.next, .int .i64 m.g.round, vo, .int .i64 m.sp] 34)).alloc (.cells #[.int .i64 s, .int .i64 p] 36)).alloc (.cells #[.slice A fs.length c] 23)).alloc (.cells #[.int .i64 r] 3)).alloc (.cells #[.slice none 0 0, .slice none 0 0, .slice none 0 0, .int .i64 0, .int .i64 0, .int .i64 0, .int .i64 0, .slice none 0 0, .int .i64 0] 34)) := bA (bA (bA (bA (bA bR))))
 have hs0 : (((((w.alloc (.cells #[vb, vf, vl, .int .i64 m.c.hand, .int .i64 m.g.count, .int .i64 m.g.next, .int .i64 m.g.round, vo, .int .i64 m.sp] 34)).alloc (.cells #[.int .i64 s, .int .i64 p] 36)).alloc (.cells #[.slice A fs.length c] 23)).alloc (.cells #[.int .i64 r] 3)).alloc (.cells #[.slice none 0 0, .slice none 0 0, .slice none 0 0, .int .i64 0, .int .i64 0, .int .i64 0, .int .i64 0, .slice none 0 0, .int .i64 0] 34)).heap.size = w.heap.size + 5 := by simp
 generalize hW : (((((w.alloc (.cells #[vb, vf, vl, .int .i64 m.c.hand, .int .i64 m.g.count, .int .i64 m.g.next, .int .i64 m.g.round, vo, .int .i64 m.sp] 34)).alloc (.cells #[.int .i64 s, .int .i64 p] 36)).alloc (.cells #[.slice A fs.length c] 23)).alloc (.cells #[.int .i64 r] 3)).alloc (.cells #[.slice none 0 0, .slice none 0 0, .slice none 0 0, .int .i64 0, .int .i64 0, .int .i64 0, .int .i64 0, .slice none 0 0, .int .i64 0] 34)) = W0 at hfr hri hro hb0 hs0
 have HR0 := Lib.hid hro
 have HB0 := Lib.hid hb0
 have HC := Lib.hid (putRanged_any vb vf vl vo m s p r (w.heap.size + 1 + 1) (w.heap.size + 1 + 1 + 1) A c fs W0 (hM.now hb0) (hfree.now hb0) hfr.lt hri.lt (hfr.cell_ 0 rfl) (hri.cell_ 0 rfl) (hR.now (Nat.le_refl _) hb0) hl)
 have f0 := hfr.cell_ 0 (v := .slice A fs.length c) rfl
 clear hro hb0 hfr hri hM hfree hR
 subst hW
 go_enter Tryz.func14, Tryz.ntmps14
 go_wp2_with fail
 refine HC.out.mono ?_
 rintro e w1 ⟨_, rfl, e1, e2, e3, e4, rfl, hM1, hb1⟩
 have HB1 := Lib.hid (bT HB0.out hb1)
 have HR1 := Lib.hid (HR0.out.below hb1)
 have HM1 := Lib.hid (hM1.mono (B' := w.heap.size + 5) (Nat.le_of_eq hs0.symm))
 have r0x := HR1.out.cell_ 0 (v := .slice none 0 0) rfl
 have r1x := HR1.out.cell_ 1 (v := .slice none 0 0) rfl
 have r2x := HR1.out.cell_ 2 (v := .slice none 0 0) rfl
 have r3x := HR1.out.cell_ 3 (v := .int .i64 0) rfl
 have r4x := HR1.out.cell_ 4 (v := .int .i64 0) rfl
 have r5x := HR1.out.cell_ 5 (v := .int .i64 0) rfl
 have r6x := HR1.out.cell_ 6 (v := .int .i64 0) rfl
 have r7x := HR1.out.cell_ 7 (v := .slice none 0 0) rfl
 have r8x := HR1.out.cell_ 8 (v := .int .i64 0) rfl
 have z0x := HR1.out.free 0
 have z1x := HR1.out.free 1
 have z2x := HR1.out.free 2
 have z3x := HR1.out.free 3
 have z4x := HR1.out.free 4
 have z5x := HR1.out.free 5
 have z6x := HR1.out.free 6
 have z7x := HR1.out.free 7
 have z8x := HR1.out.free 8
 obtain ⟨E1, n1, rfl, _⟩ := HM1.out.t.b
 obtain ⟨E2, n2, rfl, _⟩ := HM1.out.t.f
 obtain ⟨E3, n3, rfl, _⟩ := HM1.out.l
 obtain ⟨E4, n4, rfl, _⟩ := HM1.out.o
 clear hM1 hb1 f0
 go_wp2
 have o3 := HR1.out.set9 (.slice E1 (prgV m s p fs r).t.bs.length n1) (.slice E2 (prgV m s p fs r).t.fs.length n2) (.slice E3 (prgV m s p fs r).c.ls.length n3) (.int .i64 (prgV m s p fs r).c.hand) (.int .i64 (prgV m s p fs r).g.count) (.int .i64 (prgV m s p fs r).g.next) (.int .i64 (prgV m s p fs r).g.round) (.slice E4 (prgV m s p fs r).g.os.length n4) (.int .i64 (prgV m s p fs r).sp)
 have p0t := o3.cell_ 0 (v := .slice E1 (prgV m s p fs r).t.bs.length n1) rfl
 have p1t := o3.cell_ 1 (v := .slice E2 (prgV m s p fs r).t.fs.length n2) rfl
 have p2t := o3.cell_ 2 (v := .slice E3 (prgV m s p fs r).c.ls.length n3) rfl
 have p3t := o3.cell_ 3 (v := .int .i64 (prgV m s p fs r).c.hand) rfl
 have p4t := o3.cell_ 4 (v := .int .i64 (prgV m s p fs r).g.count) rfl
 have p5t := o3.cell_ 5 (v := .int .i64 (prgV m s p fs r).g.next) rfl
 have p6t := o3.cell_ 6 (v := .int .i64 (prgV m s p fs r).g.round) rfl
 have p7t := o3.cell_ 7 (v := .slice E4 (prgV m s p fs r).g.os.length n4) rfl
 have p8t := o3.cell_ 8 (v := .int .i64 (prgV m s p fs r).sp) rfl
 refine bodyPost_ret (v := .tuple #[.agg #[.slice E1 (prgV m s p fs r).t.bs.length n1, .slice E2 (prgV m s p fs r).t.fs.length n2, .slice E3 (prgV m s p fs r).c.ls.length n3, .int .i64 (prgV m s p fs r).c.hand, .int .i64 (prgV m s p fs r).g.count, .int .i64 (prgV m s p fs r).g.next, .int .i64 (prgV m s p fs r).g.round, .slice E4 (prgV m s p fs r).g.os.length n4, .int .i64 (prgV m s p fs r).sp], .bool (prgO m s p fs r).isSome]) (by simp [results, Tryz.results14, go_sem, p0t, p1t, p2t, p3t, p4t, p5t, p6t, p7t, p8t]) rfl ⟨_, rfl, _, _, _, _, rfl, ?_, ?_⟩
 ·exact (HM1.out.far9 HR1.out _ _ _ _ _ _ _ _ _).mono (by omega)
 ·repeat (refine bS ?_ (by simp <;> omega))
  exact HB1.out
end Go.Proofs.YtnaagdmaggdbmaaGreatDoor
namespace Go.Proofs.YtnaagdmaggdbmaaGreatDoor
open Go.RowKit
set_option maxRecDepth 1000000
theorem EOwn.oth {α : Type} {E : Enc α} {e : TypeId} {w w' : World} {g : Nat} {l : List α} {p : TypeId → Prop} (h : EOwn E e w g l) (ho : Oth p w w') (hp : ¬ p e) : EOwn E e w' g l :=
 let ⟨⟨cs, h1, h2, h3⟩⟩ := h; ⟨⟨cs, ho.2 g _ cs h1 hp, h2, h3⟩⟩
inductive RK where
 | eq (u : Value)
 | ma (m : Ma)
 | sl (fs : List Int)
 | tup (m : Ma) (o : Bool)
 | box
 | boxed (m : Ma)
def RK.at_ (b si j : Nat) : RK → Value → World → Prop
 | .eq u0, u, _ => u = u0
 | .ma m, u, v => ∃ e1 e2 e3 e4, u = .agg #[e1, e2, e3, .int .i64 m.c.hand, .int .i64 m.g.count, .int .i64 m.g.next, .int .i64 m.g.round, e4, .int .i64 m.sp] ∧ MaM b v e1 e2 e3 e4 m
 | .sl fs, u, v => ∃ g, u = .slice (some ⟨g, 0, none⟩) fs.length fs.length ∧ EOwn intE 3 v g fs
 | .tup m o, u, v => ∃ e1 e2 e3 e4, u = .tuple #[.agg #[e1, e2, e3, .int .i64 m.c.hand, .int .i64 m.g.count, .int .i64 m.g.next, .int .i64 m.g.round, e4, .int .i64 m.sp], .bool o] ∧ MaM b v e1 e2 e3 e4 m
 | .box, u, v => ∃ g a0 a1 a2 a3 a4 a5 a6 a7 a8, u = .pointer (some ⟨g, 0, none⟩) ∧ b ≤ g ∧ Own v g 34 #[a0, a1, a2, a3, a4, a5, a6, a7, a8]
 | .boxed m, u, v => j = si ∧ ∃ g e1 e2 e3 e4, u = .pointer (some ⟨g, 0, none⟩) ∧ b ≤ g ∧ Own v g 34 #[e1, e2, e3, .int .i64 m.c.hand, .int .i64 m.g.count, .int .i64 m.g.next, .int .i64 m.g.round, e4, .int .i64 m.sp] ∧ MaM b v e1 e2 e3 e4 m
def tA (si i : Nat) (v v' : World) : Prop := if i = si then Oth (fun e => e = 34) v v' ∧ (∀ g a0 a1 a2 a3 a4 a5 a6 a7 a8, Own v g 34 #[a0, a1, a2, a3, a4, a5, a6, a7, a8] → ∃ b0 b1 b2 b3 b4 b5 b6 b7 b8, Own v' g 34 #[b0, b1, b2, b3, b4, b5, b6, b7, b8]) else Below v.heap.size v v'
theorem tA.oth {si i : Nat} {v v' : World} (h : tA si i v v') : Oth (fun e => e = 34) v v' := by
 unfold tA at h
 split at h
 ·exact h.1
 ·exact Oth.of_below h
theorem MaM.othM {b : Nat} {w w' : World} {v1 v2 v3 v4 : Value} {m : Ma} (h : MaM b w v1 v2 v3 v4 m) (ho : Oth (fun e => e = 34) w w') : MaM b w' v1 v2 v3 v4 m := h.oth ho (by decide) (by decide) (by decide) (by decide)
end Go.Proofs.YtnaagdmaggdbmaaGreatDoor
namespace Go.Proofs.YtnaagdmaggdbmaaGreatDoor
theorem chars_of {s : String} {l : List Char} (h : s = String.ofList l) : s.toList = l := by rw [h, String.toList_ofList]
theorem head_cons {α : Type} {l : List α} {a : α} (h : l.head? = some a) : ∃ r, l = a :: r := by
 cases l with
 | nil => cases h
 | cons x r => exact ⟨r, by injection h with h; rw [h]⟩
theorem strip_cut (rest : List (List Char)) : stripLifts liftWords ("cut".toList :: rest) = ([], "cut".toList :: rest) := by
 simp only [liftWords, stripLifts]
 repeat (rw [if_neg (by decide)])
theorem mayEnter_of {P : Program} {rest : List (List Char)} (hW : behindMainWord (wordsSigns P.initOrder.toList) = "cut".toList :: rest)
  (l1 : P.laysLater = false) (l2 : P.bearsReflect = false) (l3 : P.doorFits [] = true) : P.mayEnter = true := by
 unfold Program.mayEnter
 rw [hW]
 simp only [strip_cut, l1, l2]
 rw [l3]
 have e1 : ("cut".toList == "gc".toList) = false := by decide
 have e2 : ("cut".toList == "spec".toList) = false := by decide
 have e3 : ("cut".toList == "carried".toList) = false := by decide
 have e4 : (("cut".toList :: rest).head? == some "cut".toList) = true := by rw [List.head?_cons]; decide
 rw [e1, e2, e3, e4]
 rfl
theorem lifts_of {P : Program} {r : List (List Char)} (hr : behindMainWord (wordsSigns P.initOrder.toList) = "cut".toList :: r) : P.liftsFinal = false := by
 have e4 : (("cut".toList :: r).head? == some "cut".toList) = true := by rw [List.head?_cons]; decide
 have e5 : (("cut".toList :: r).head? == some "carried".toList) = false := by rw [List.head?_cons]; decide
 unfold Program.liftsFinal Program.headLifts
 rw [hr]
 simp only [strip_cut, e4, e5]
 rfl
theorem make_of {P : Program} {r : List (List Char)} (hr : behindMainWord (wordsSigns P.initOrder.toList) = "cut".toList :: r) : P.make = some .cut := by
 have e1 : ("cut".toList == "gc".toList) = false := by decide
 have e2 : ("cut".toList == "spec".toList) = false := by decide
 have e3 : ("cut".toList == "cut".toList) = true := by decide
 unfold Program.make
 rw [hr]
 simp only [e1, e2, e3, Bool.or_self, Bool.true_or, Bool.false_eq_true, if_false, if_true]
set_option maxRecDepth 100000 in
theorem cut_head : ∃ r, behindMainWord (wordsSigns Tryz.prog.initOrder.toList) = "cut".toList :: r := by
 have h := chars_of (s := Tryz.prog.initOrder) rfl
 have hh : (behindMainWord (wordsSigns Tryz.prog.initOrder.toList)).head? = some "cut".toList := by
  rw [h]
  refine Eq.trans ?_ (Eq.refl _)
  kernel_rfl
 exact head_cons hh
theorem may_enter : Tryz.prog.mayEnter = true := by
 obtain ⟨r, hr⟩ := cut_head
 exact mayEnter_of hr (by kernel_rfl) (by kernel_rfl) (by kernel_rfl)
theorem lifts_final : Tryz.prog.liftsFinal = false := by
 obtain ⟨r, hr⟩ := cut_head
 exact lifts_of hr
theorem make_cut : Tryz.prog.make = some .cut := by
 obtain ⟨r, hr⟩ := cut_head
 exact make_of hr
end Go.Proofs.YtnaagdmaggdbmaaGreatDoor
namespace Go.Proofs.YtnaagdmaggdbmaaGreatDoor
open Go.ChangeShapes Go.WideShapes Go.ChangeAt Go.RowKit Go.Joins
set_option maxRecDepth 1000000
theorem own_ : ownKnob Tryz.prog.godebug = none := by kernel_rfl
theorem laidOut : laidOutB Tryz.prog = true := by kernel_rfl
theorem ce_int : Program.cellsOf Tryz.prog 3 = 1 := by kernel_rfl
theorem ce_bool : Program.cellsOf Tryz.prog 4 = 1 := by kernel_rfl
section
variable {H : Type} {enc : TypeId × Value → H} {w : World} {base : Nat} {spare : Nat → Bool} {held : Bool}
instance : Inhabited Fr := ⟨frz⟩
instance : Inhabited Ln := ⟨lnz⟩
end
end Go.Proofs.YtnaagdmaggdbmaaGreatDoor
namespace Go.Proofs.YtnaagdmaggdbmaaGreatDoor
set_option maxRecDepth 100000
theorem main_is : Tryz.prog.mainIs = some (true, ("b52c73bd0f57e1e1fda4b36c52bbd12a9fda5143d317739edc23f03956921a65" : String).toList) := by
 have h := chars_of (s := Tryz.prog.initOrder) rfl
 unfold Program.mainIs
 rw [h]
 refine Eq.trans ?_ (Eq.refl _)
 kernel_rfl
end Go.Proofs.YtnaagdmaggdbmaaGreatDoor
