/- A part of the proofs of this seat: Aprt, Free, GdS, LXvD, Main, MeF, MeQ, Mk3, TkS. -/
import Derived.ChangeSame
import Derived.ChangeVars
import Derived.LaidLaws
import Derived.Handed
import Derived.Test.YtfbnokjdkhcgoaaGreatDoorCards
import Derived.Test.YtfbnokjdkhcgoaaGreatDoorVMeP
import Derived.Test.YtfbnokjdkhcgoaaGreatDoorVUnmS
set_option linter.unusedVariables false
set_option linter.unusedSimpArgs false
set_option maxRecDepth 1000000
namespace Go.Proofs.YtfbnokjdkhcgoaaGreatDoor
open Go.ChangeShapes Go.WideShapes Go.ChangeAt Go.RowKit Go.Joins
theorem free_named : Tryz.prog.globalNamed "loop.example/invertedpages/impl.free" = some 0 := by kernel_rfl
theorem free_type : (Tryz.prog.globals[0]?).map (·.type) = some 80 := by kernel_rfl
theorem ce_keyI : Program.cellsOf Tryz.prog 54 = 2 := by kernel_rfl
theorem ce_frameI : Program.cellsOf Tryz.prog 80 = 5 := by kernel_rfl
def freeCells : Array Value := #[.bool false, .int .i64 0, .int .i64 0, .int .i64 0, .int .i64 (-1)]
section
variable {H : Type} {enc : TypeId × Value → H} {w : World} {base : Nat} {spare : Nat → Bool} {held : Bool}
theorem fldx {fs : Array Field} {t : TypeId} {fuel : Nat} {cs : List Value} {x : DataW H × List MemPlace} (ht : Tryz.prog.underlying t = some (.struct fs)) (h : DataW.trod enc Tryz.prog w base spare held fuel t cs = some x) :
  cs.length = Program.cellsOf Tryz.prog t ∧ ∃ (n : Nat) (xs : List (DataW H × List MemPlace)), xs.length = fs.size ∧ x.1 = .agg (xs.map (·.1)) ∧ ∀ (i : Nat) (f : Field), fs[i]? = some f → ∀ (ty off k : Nat), f.type = ty → f.offset = off → Program.cellsOf Tryz.prog ty = k → DataW.trod enc Tryz.prog w base spare held n ty ((cs.drop off).take k) = xs[i]? := by
 obtain ⟨xs, n, _, rfl, hl, hxl, hf⟩ := DataW.trod_struct ht h
 refine ⟨hl, n, xs, hxl, rfl, fun i f hi ty off k e1 e2 e3 => ?_⟩
 subst e1 e2 e3
 exact hf i f hi
theorem keyd_of {fuel : Nat} {cs : List Value} {x : DataW H × List MemPlace} {a b : Int} (h : DataW.trod enc Tryz.prog w base spare held fuel 54 cs = some x) (hx : x.1 = .agg [.lit (.int .i64 a), .lit (.int .i64 b)]) : cs = [.int .i64 a, .int .i64 b] := by
 obtain ⟨hl, n, xs, hxl, he, hf⟩ := fldx Tryz.underlying54 h
 rw [ce_keyI] at hl
 match cs, hl, xs, hxl with
 | [c0, c1], _, [x0, x1], _ =>
  have h0 := hf 0 _ rfl 3 0 1 rfl rfl ce_int
  have h1 := hf 1 _ rfl 3 1 1 rfl rfl ce_int
  obtain ⟨a0, e0, f0, _⟩ := DataW.trod_int (cs := [c0]) (x := x0) Tryz.underlying3 h0
  obtain ⟨a1, e1, f1, _⟩ := DataW.trod_int (cs := [c1]) (x := x1) Tryz.underlying3 h1
  rw [he] at hx
  subst f0 f1
  simp at hx e0 e1
  obtain ⟨rfl, rfl⟩ := hx
  rw [e0, e1]
theorem free_of {fuel : Nat} {cs : List Value} {x : DataW H × List MemPlace} (h : DataW.trod enc Tryz.prog w base spare held fuel 80 cs = some x) (hx : x.1 = Rows.laid_loop_example_invertedpages_impl_free) : cs = freeCells.toList := by
 obtain ⟨hl, n, xs, hxl, he, hf⟩ := fldx Tryz.underlying80 h
 rw [ce_frameI] at hl
 match cs, hl, xs, hxl with
 | [c0, c1, c2, c3, c4], _, [x0, x1, x2, x3], _ =>
  have h0 := hf 0 _ rfl 4 0 1 rfl rfl ce_bool
  have h1 := hf 1 _ rfl 54 1 2 rfl rfl ce_keyI
  have h2 := hf 2 _ rfl 3 3 1 rfl rfl ce_int
  have h3 := hf 3 _ rfl 3 4 1 rfl rfl ce_int
  obtain ⟨a0, e0, f0⟩ := DataW.trod_bool (cs := [c0]) (x := x0) Tryz.underlying4 h0
  obtain ⟨a2, e2, f2, _⟩ := DataW.trod_int (cs := [c3]) (x := x2) Tryz.underlying3 h2
  obtain ⟨a3, e3, f3, _⟩ := DataW.trod_int (cs := [c4]) (x := x3) Tryz.underlying3 h3
  rw [he] at hx
  subst f0 f2 f3
  simp [Rows.laid_loop_example_invertedpages_impl_free] at hx e0 e2 e3
  obtain ⟨rfl, hk, rfl, rfl⟩ := hx
  have hk2 := keyd_of (cs := [c1, c2]) (x := x1) h1 hk
  simp at hk2
  obtain ⟨rfl, rfl⟩ := hk2
  rw [e0, e2, e3]; rfl
end
theorem free_of_laid {W : World} (h : laidMet Tryz.prog [("loop.example/invertedpages/impl.free", Rows.laid_loop_example_invertedpages_impl_free)] W) : W.var? Tryz.prog "loop.example/invertedpages/impl.free" = some freeCells ∧ Free W := by
 obtain ⟨ps, ⟨g, t, cs, fuel, p, q, hg, ht, hvar, hd, _, _⟩, _⟩ := h
 obtain rfl := Option.some.inj (free_named.symm.trans hg)
 obtain rfl := Option.some.inj (free_type.symm.trans ht)
 obtain ⟨l⟩ := cs
 have hc := free_of hd rfl
 simp only at hc
 subst hc
 have e : ∀ i, W.cell? ⟨0, i, none⟩ = freeCells[i]? := fun i => World.var?_cell hg hvar i
 refine ⟨hvar, World.block_lt_of_cell? W _ (e 0), e 0, e 1, e 2, e 3, e 4⟩
noncomputable def laidWorld (os : Os) : World :=
 { World.holding Tryz.prog os ⟨#[], #[], []⟩ with heap := (World.holding Tryz.prog os ⟨#[], #[], []⟩).heap.modify 0 fun
   | .cells _ t frozen => .cells freeCells t frozen
   | o => o }
theorem laid_met (os : Os) (args : Array Value) : laidMet Tryz.prog [("loop.example/invertedpages/impl.free", Rows.laid_loop_example_invertedpages_impl_free)] ((laidWorld os).forCall (fun _ _ => 0) ⟨#[], args, []⟩).memory :=
 laidMet_of_run (ps := [.cell 0 0, .cell 0 1, .cell 0 2, .cell 0 3, .cell 0 4]) 8 (by kernel_rfl) (by kernel_rfl) (by kernel_rfl)
end Go.Proofs.YtfbnokjdkhcgoaaGreatDoor
namespace Go.Proofs.YtfbnokjdkhcgoaaGreatDoor.lExactUsePages
open Go.ChangeShapes Go.WideShapes Go.ChangeAt Go.RowKit Go.Joins
set_option maxRecDepth 100000 in
theorem closed : joinedFacts Tryz.prog 7 Tryz.f7 Rows.fnExactUsePagesSpec Rows.fnExactUsePagesRow = true := by
 unfold joinedFacts
 rw [may_enter, lifts_final, make_cut]
 refine Eq.trans ?_ (Eq.refl _)
 kernel_rfl
end Go.Proofs.YtfbnokjdkhcgoaaGreatDoor.lExactUsePages
namespace Go.Proofs.YtfbnokjdkhcgoaaGreatDoor
open Go.RowKit
def Apart (c1 pl : Value) : Prop := ∀ (a : Addr) (n c : Nat), c1 = .slice (some a) n c → 0 < n → pl.ownBlock ≠ some a.block
theorem apart_none {c1 : Value} {n c : Nat} : Apart c1 (.slice none n c) := fun _ _ _ _ _ h => by cases h
theorem apart_new {B : Nat} {w : World} {v1 v2 v3 v4 pl : Value} {m : Ma} (h : MaM B w v1 v2 v3 v4 m) (hr : ∀ k, pl.ownBlock = some k → k < B) : Apart v1 pl := by
 intro a n c e hn hp
 obtain ⟨A, c', e', _, _, hm⟩ := h.t.b
 rw [e'] at e
 injection e with e1 e2 e3
 obtain ⟨g', cs, e4, hb, _⟩ := hm.own (by omega)
 rw [e1] at e4
 injection e4 with e4
 subst e4
 have := hr _ hp
 simp only at this
 omega
theorem apart_far {B : Nat} {w : World} {v1 v2 v3 v4 pl : Value} {m : Ma} (h : MaM B w v1 v2 v3 v4 m) (hr : ∀ k, pl.ownBlock = some k → w.heap.size ≤ k) : Apart v1 pl := by
 intro a n c e hn hp
 obtain ⟨A, c', e', _, _, hm⟩ := h.t.b
 rw [e'] at e
 injection e with e1 e2 e3
 obtain ⟨g', cs, e4, _, ho, _⟩ := hm.own (by omega)
 rw [e1] at e4
 injection e4 with e4
 subst e4
 have h1 := ho.lt
 have h2 := hr _ hp
 simp only at h2
 omega
theorem MineE.ownk {α : Type} {E : Enc α} {e : TypeId} {B : Nat} {w w' : World} {A : Option Addr} {l : List α} (h : MineE E e B w A l) (hs : w.heap.size ≤ w'.heap.size) (hk : ∀ g cs, Own w g e cs → rowOf l.length A = some g → Own w' g e cs) : MineE E e B w' A l := by
 refine ⟨⟨h.is.len, fun hn => ?_⟩, fun hl => ?_⟩
 ·obtain ⟨g, cs, rfl, hbg, ho, _⟩ := h.own hn
  obtain ⟨b, o, e, hb, hc⟩ := h.is.at_ hn
  injection e with e
  injection e with e1 e2
  subst e1 e2
  have ho2 := hk _ _ ho (rowOf_some (by omega))
  refine ⟨g, 0, rfl, by omega, fun j u hu => ?_⟩
  have hh := hc j u hu
  rw [ho.cell] at hh
  rw [ho2.cell]
  exact hh
 ·obtain ⟨g, cs, e, hbg, ho, hs⟩ := h.own hl
  exact ⟨g, cs, e, hbg, hk _ _ ho (by rw [e]; exact rowOf_some (by omega)), hs⟩
theorem Mk.apart {f : Nat → Value} {sz : Nat} {e : TypeId} {w w' : World} {A : Option Addr} {n : Nat} {r : Option Nat} (h : Mk f sz e w A n) (hg : w.grownBy w' r) (hne : ∀ g, rowOf n A = some g → r ≠ some g) : Mk f sz e w' A n :=
 ⟨fun hn => let ⟨g, cs, e1, o1, hs, hc⟩ := h.own hn; ⟨g, cs, e1, own_other o1 hg (fun e2 => hne g (by rw [e1]; exact rowOf_some (by omega)) e2.symm), hs, hc⟩⟩
theorem MkM.beside {k0 : Int} {w w' : World} {A1 A2 A3 A4 A' : Option Addr} {n1 n2 n3 n4 n' : Nat} (h : MkM k0 w A1 A2 A3 A4 n1 n2 n3 n4) (hg : w.grownBy w' (rowOf n' A')) (ho : 0 < n' → ∃ g cs, A' = some ⟨g, 0, none⟩ ∧ Own w g 3 cs) (hne : ∀ g, rowOf n1 A1 = some g → rowOf n' A' ≠ some g) : MkM k0 w' A1 A2 A3 A4 n1 n2 n3 n4 :=
 ⟨h.b.apart hg hne, h.f.other hg ho (by decide), h.l.other hg ho (by decide), h.o.other hg ho (by decide)⟩
theorem apart_rows {A1 A : Option Addr} {n1 c1 n c : Nat} (h : Apart (.slice A1 n1 c1) (.slice A n c)) : ∀ g, rowOf n1 A1 = some g → rowOf n A ≠ some g := by
 intro g h1 h2
 unfold rowOf at h1 h2
 split at h1
 ·cases h1
 split at h2
 ·cases h2
 obtain ⟨a1, rfl⟩ : ∃ a, A1 = some a := by cases A1 with | none => cases h1 | some a => exact ⟨a, rfl⟩
 obtain ⟨a2, rfl⟩ : ∃ a, A = some a := by cases A with | none => cases h2 | some a => exact ⟨a, rfl⟩
 have e1 : a1.block = g := by injection h1
 have e2 : a2.block = g := by injection h2
 exact h a1 n1 c1 rfl (by omega) (by show some a2.block = some a1.block; rw [e1, e2])
set_option maxHeartbeats 2000000 in
theorem markTable_i (B : Nat) (A1 A2 : Option Addr) (c1 c2 : Nat) (t : Tab) (w : World) (k0 : Int) (h1 : MineE intE 3 B w A1 t.bs) (h2 : MineE frE 80 B w A2 t.fs) (hi : Nat) (hr1 : ∀ k, rowOf t.bs.length A1 = some k → k < hi) (hr2 : ∀ k, rowOf t.fs.length A2 = some k → k < hi) (hk0 : 0 ≤ k0) (hk1 : k0 ≤ 536870912) (hl1 : t.bs.length ≤ 1048576) (hl2 : t.fs.length ≤ 1048576) :
  Calls Tryz.prog 115 #[.agg #[.slice A1 t.bs.length c1, .slice A2 t.fs.length c2], .int .i64 k0] w fun r w' => r = .returned (.int .i64 (k0 + (t.bs.length : Int) + 5 * (t.fs.length : Int))) ∧ Mk (mkE bInt 1 k0) 1 3 w' A1 t.bs.length ∧ Mk (mkE bFrame 5 (k0 + (t.bs.length : Int))) 5 80 w' A2 t.fs.length
   ∧ Tch B hi w w' ∧ Oth (fun e => e = 3 ∨ e = 80) w w' ∧ (∀ g cs, Own w g 3 cs → rowOf t.bs.length A1 ≠ some g → Own w' g 3 cs) := by
 have hx := Own.new_ w 26 #[.slice A1 t.bs.length c1, .slice A2 t.fs.length c2]
 have hb0 : Below w.heap.size w (w.alloc (.cells #[.slice A1 t.bs.length c1, .slice A2 t.fs.length c2] 26)) := bA bR
 generalize hW0 : w.alloc (.cells #[.slice A1 t.bs.length c1, .slice A2 t.fs.length c2] 26) = W0 at hx hb0
 have x0 := hx.cell_ 0 (v := .slice A1 t.bs.length c1) rfl
 have HX := Hd hx
 have HB0 := Hd hb0
 have H1 := Hd h1
 have H2 := Hd h2
 clear hx hb0 h1 h2
 go_enter Tryz.func115, Tryz.ntmps115
 go_wp2_with fail
 refine (markIntS_any B A1 c1 t.bs.length t.bs _ k0 (H1.out.below HB0.out) rfl hk0 (by omega) hl1).mono ?_
 rintro e W1 ⟨rfl, hm1, hg1, ho1⟩
 have ot1 := oth_of hg1 ho1
 have x1 := (ot1.2 _ _ _ HX.out (by decide)).cell_ 1 (v := .slice A2 t.fs.length c2) rfl
 have HK1 : Hid (∀ g cs, Own w g 3 cs → rowOf t.bs.length A1 ≠ some g → Own W1 g 3 cs) := Hd (fun g cs o hne => own_other (o.below HB0.out) hg1 (fun e => hne e.symm))
 have HM1 := Hd hm1
 have HO1 := Hd ot1
 have HT1 := Hd ((Tch.of_below HB0.out).trans (Tch.grown hg1 (fun k hk => ⟨(H1.out.row k hk).1, hr1 k hk⟩)))
 clear hm1 hg1 ho1 ot1 x0
 go_wp2_with fail
 refine (markFrameS_any B A2 c2 t.fs.length t.fs _ (k0 + (t.bs.length : Int)) ((H2.out.below HB0.out).oth HO1.out (by decide)) rfl (by omega) (by omega) hl2).mono ?_
 rintro e W2 ⟨rfl, hm2, hg2, ho2⟩
 have HM2 := Hd hm2
 have HT2 := Hd (HT1.out.trans (Tch.grown hg2 (fun k hk => ⟨(H2.out.row k hk).1, hr2 k hk⟩)))
 have ot2 := oth_of hg2 ho2
 have HM3 := Hd (HM1.out.oth ot2 (by decide))
 have HK2 : Hid (∀ g cs, Own w g 3 cs → rowOf t.bs.length A1 ≠ some g → Own W2 g 3 cs) := Hd (fun g cs o hne => ot2.2 _ _ _ (HK1.out g cs o hne) (by decide))
 have HO2 := Hd ((HO1.out.trans ot2).far HB0.out)
 clear hm2 hg2 ho2 ot2
 go_wp2
 go_ret
 exact ⟨rfl, HM3.out, HM2.out, HT2.out, HO2.out, HK2.out⟩
set_option maxHeartbeats 2000000 in
theorem markMachine_i (B : Nat) (A1 A2 A3 A4 : Option Addr) (c1 c2 c3 c4 : Nat) (m : Ma) (w : World) (k0 : Int) (h1 : MineE intE 3 B w A1 m.t.bs) (h2 : MineE frE 80 B w A2 m.t.fs) (h3 : MineE lnE 50 B w A3 m.c.ls) (h4 : MineE owE 186 B w A4 m.g.os)
  (hi : Nat) (hr1 : ∀ k, rowOf m.t.bs.length A1 = some k → k < hi) (hr2 : ∀ k, rowOf m.t.fs.length A2 = some k → k < hi) (hr3 : ∀ k, rowOf m.c.ls.length A3 = some k → k < hi) (hr4 : ∀ k, rowOf m.g.os.length A4 = some k → k < hi) (hk0 : 0 ≤ k0) (hk1 : k0 ≤ 536870912) (hl1 : m.t.bs.length ≤ 1048576) (hl2 : m.t.fs.length ≤ 1048576) (hl3 : m.c.ls.length ≤ 1048576) (hl4 : m.g.os.length ≤ 1048576) :
  Calls Tryz.prog 66 #[.agg #[.slice A1 m.t.bs.length c1, .slice A2 m.t.fs.length c2, .slice A3 m.c.ls.length c3, .int .i64 m.c.hand, .int .i64 m.g.count, .int .i64 m.g.next, .int .i64 m.g.round, .slice A4 m.g.os.length c4, .int .i64 m.sp], .int .i64 k0] w
   fun r w' => r = .returned (.int .i64 (k0 + (m.t.bs.length : Int) + 5 * (m.t.fs.length : Int) + 6 * (m.c.ls.length : Int) + 2 * (m.g.os.length : Int))) ∧ MkM k0 w' A1 A2 A3 A4 m.t.bs.length m.t.fs.length m.c.ls.length m.g.os.length ∧ Tch B hi w w' ∧ Oth (fun e => ((e = 3 ∨ e = 80) ∨ e = 50) ∨ e = 186) w w' ∧ (∀ g cs, Own w g 3 cs → rowOf m.t.bs.length A1 ≠ some g → Own w' g 3 cs) := by
 have hx := Own.new_ w 34 #[.slice A1 m.t.bs.length c1, .slice A2 m.t.fs.length c2, .slice A3 m.c.ls.length c3, .int .i64 m.c.hand, .int .i64 m.g.count, .int .i64 m.g.next, .int .i64 m.g.round, .slice A4 m.g.os.length c4, .int .i64 m.sp]
 have hb0 : Below w.heap.size w (w.alloc (.cells #[.slice A1 m.t.bs.length c1, .slice A2 m.t.fs.length c2, .slice A3 m.c.ls.length c3, .int .i64 m.c.hand, .int .i64 m.g.count, .int .i64 m.g.next, .int .i64 m.g.round, .slice A4 m.g.os.length c4, .int .i64 m.sp] 34)) := bA bR
 generalize hW0 : w.alloc (.cells #[.slice A1 m.t.bs.length c1, .slice A2 m.t.fs.length c2, .slice A3 m.c.ls.length c3, .int .i64 m.c.hand, .int .i64 m.g.count, .int .i64 m.g.next, .int .i64 m.g.round, .slice A4 m.g.os.length c4, .int .i64 m.sp] 34) = W0 at hx hb0
 have x0 := hx.cell_ 0 (v := .slice A1 m.t.bs.length c1) rfl
 have x1 := hx.cell_ 1 (v := .slice A2 m.t.fs.length c2) rfl
 have HX := Hd hx
 have HB0 := Hd hb0
 clear hx hb0
 have H1 := Hd h1
 have H2 := Hd h2
 have H3 := Hd h3
 have H4 := Hd h4
 clear h1 h2 h3 h4
 go_enter Tryz.func66, Tryz.ntmps66
 go_wp2_with fail
 refine (markTable_i B A1 A2 c1 c2 m.t _ k0 (H1.out.below HB0.out) (H2.out.below HB0.out) hi hr1 hr2 hk0 hk1 hl1 hl2).mono ?_
 rintro e W1 ⟨rfl, hm1, hm2, ht1, ho1, hk1'⟩
 have HK1 := Hd hk1'
 clear hk1'
 have x2 := (ho1.2 _ _ _ HX.out (by decide)).cell_ 2 (v := .slice A3 m.c.ls.length c3) rfl
 have x3 := (ho1.2 _ _ _ HX.out (by decide)).cell_ 3 (v := .int .i64 m.c.hand) rfl
 have HX1 := Hd (ho1.2 _ _ _ HX.out (by decide))
 have HM1 := Hd hm1
 have HM2 := Hd hm2
 have HT1 := Hd ht1
 have HL1 := Hd ((H3.out.below HB0.out).oth ho1 (by decide))
 have HW1 := Hd ((H4.out.below HB0.out).oth ho1 (by decide))
 have HO1 := Hd ho1
 clear hm1 hm2 ht1 ho1 x0 x1
 go_wp2_with fail
 refine (markCache_any B A3 c3 m.c.hand 0 0 m.c.ls _ (k0 + (m.t.bs.length : Int) + 5 * (m.t.fs.length : Int)) HL1.out hi hr3 (by omega) (by omega) hl3).mono ?_
 rintro e W2 ⟨rfl, hm3, ht2, ho2⟩
 have HX2 := ho2.2 _ _ _ HX1.out (by decide)
 have x4 := HX2.cell_ 4 (v := .int .i64 m.g.count) rfl
 have x5 := HX2.cell_ 5 (v := .int .i64 m.g.next) rfl
 have x6 := HX2.cell_ 6 (v := .int .i64 m.g.round) rfl
 have x7 := HX2.cell_ 7 (v := .slice A4 m.g.os.length c4) rfl
 have HN1 := Hd (HM1.out.oth ho2 (by decide))
 have HN2 := Hd (HM2.out.oth ho2 (by decide))
 have HN3 := Hd hm3
 have HT2 := Hd ht2
 have HW2 := Hd (HW1.out.oth ho2 (by decide))
 have HO2 := Hd (HO1.out.trans ho2)
 have HK2 : Hid (∀ g cs, Own w g 3 cs → rowOf m.t.bs.length A1 ≠ some g → Own W2 g 3 cs) := Hd (fun g cs o hne => ho2.2 _ _ _ (HK1.out g cs (o.below HB0.out) hne) (by decide))
 clear hm3 ht2 ho2 x2 x3 HX2
 go_wp2_with fail
 refine (markTags_any B A4 c4 m.g.count m.g.next m.g.round m.g.os _ (k0 + (m.t.bs.length : Int) + 5 * (m.t.fs.length : Int) + 6 * (m.c.ls.length : Int)) HW2.out hi hr4 (by omega) (by omega) hl4).mono ?_
 rintro e W3 ⟨rfl, hm4, ht3, ho3⟩
 have HE := Hd (MkM.mk (HN1.out.oth ho3 (by decide)) (HN2.out.oth ho3 (by decide)) (HN3.out.oth ho3 (by decide)) hm4)
 have HT3 := Hd ht3
 have HO3 := Hd ((HO2.out.trans ho3).far HB0.out)
 have HK3 : Hid (∀ g cs, Own w g 3 cs → rowOf m.t.bs.length A1 ≠ some g → Own W3 g 3 cs) := Hd (fun g cs o hne => ho3.2 _ _ _ (HK2.out g cs o hne) (by decide))
 clear hm4 ht3 ho3
 go_wp2
 go_ret
 exact ⟨rfl, HE.out, ((Tch.of_below HB0.out).trans HT1.out).trans (HT2.out.trans HT3.out), HO3.out, HK3.out⟩
theorem fOK_page {t : Tab} {s p : Int} (h : fOK t s p = true) : inR p 256 = true := by
 unfold fOK kval at h
 simp only [Bool.and_eq_true] at h
 exact h.1.2.2
set_option maxHeartbeats 4000000 in
theorem sTakePage_any (vb vf vl vo : Value) (m : Ma) (s p  : Int) (w : World) (hM : MaR w vb vf vl vo m) :
  Calls Tryz.prog 96 #[.agg #[vb, vf, vl, .int .i64 m.c.hand, .int .i64 m.g.count, .int .i64 m.g.next, .int .i64 m.g.round, vo, .int .i64 m.sp], .agg #[.int .i64 s, .int .i64 p]] w (Post2 fun v w' => ∃ v1 v2 v3 v4, v = .tuple #[.agg #[v1, v2, v3, .int .i64 (takV m s p).c.hand, .int .i64 (takV m s p).g.count, .int .i64 (takV m s p).g.next, .int .i64 (takV m s p).g.round, v4, .int .i64 (takV m s p).sp], .bool (takO m s p)] ∧ MaM w.heap.size w' v1 v2 v3 v4 (takV m s p) ∧ Below w.heap.size w w') := by
 obtain ⟨W0, hW, hbx, hbk, hbo, hb0, hs0⟩ := box3 w #[vb, vf, vl, .int .i64 m.c.hand, .int .i64 m.g.count, .int .i64 m.g.next, .int .i64 m.g.round, vo, .int .i64 m.sp] 34 #[.int .i64 s, .int .i64 p] 54 #[.slice none 0 0, .slice none 0 0, .slice none 0 0, .int .i64 0, .int .i64 0, .int .i64 0, .int .i64 0, .slice none 0 0, .int .i64 0] 34
 have HX0 := Hd hbx
 have HK0 := Hd hbk
 have HR0 := Hd hbo
 have HB0 := Hd hb0
 have HS0 : Hid (w.heap.size + 3 ≤ W0.heap.size) := Nat.le_of_eq hs0.symm
 clear hbx hbk hbo hb0
 have HM := Hd hM
 clear hM
 obtain ⟨m00, m10, m20, m30, m40, m50, m60, m70, m80⟩ := cells9 HX0.out
 go_enter Tryz.func96, Tryz.ntmps96
 go_wp2_with fail
 refine (sMachineValid_any vb vf vl vo m _ (HM.out.now HB0.out)).mono ?_
 rintro e w1 ⟨rfl, hb1⟩
 have HX1 := Hd (HX0.out.below hb1)
 have HK1 := Hd (HK0.out.below hb1)
 have HR1 := Hd (HR0.out.below hb1)
 have HB1 := Hd (bT HB0.out hb1)
 have HS1 := Hd (Nat.le_trans HS0.out hb1.size)
 clear hb1
 clear m00 m10 m20 m30 m40 m50 m60 m70 m80
 cases h1 : mav m with
 | false =>
  have HA : Hid (takO m s p = false) := by show _ = _; unfold takO; rw [h1]; rfl
  have HV := Hd (takO_false HA.out)
  obtain ⟨r0x, r1x, r2x, r3x, r4x, r5x, r6x, r7x, r8x⟩ := cells9 HR1.out
  obtain ⟨z0x, z1x, z2x, z3x, z4x, z5x, z6x, z7x, z8x⟩ := free9 HR1.out
  go_wp2
  obtain ⟨t0, t1, t2, t3, t4, t5, t6, t7, t8⟩ := cells9 (set9z HR1.out)
  refine bodyPost_ret (v := .tuple #[.agg #[.slice none 0 0, .slice none 0 0, .slice none 0 0, .int .i64 0, .int .i64 0, .int .i64 0, .int .i64 0, .slice none 0 0, .int .i64 0], .bool false]) (by simp [results, Tryz.results96, go_sem, t0, t1, t2, t3, t4, t5, t6, t7, t8]) rfl ⟨_, rfl, _, _, _, _, by rw [HA.out, HV.out]; rfl, by rw [HV.out]; exact mam_z, ?_⟩
  repeat (refine bS ?_ (by simp <;> omega))
  exact HB1.out
 | true =>
  obtain ⟨m01, m11, m21, m31, m41, m51, m61, m71, m81⟩ := cells9 HX1.out
  have k01 := HK1.out.cell_ 0 (v := .int .i64 s) rfl
  have k11 := HK1.out.cell_ 1 (v := .int .i64 p) rfl
  go_wp2_with fail
  refine (sUnmapPage_any vb vf m.t s p _ (HM.out.t.now HB1.out)).mono ?_
  rintro e w2 ⟨_, rfl, v1, v2, rfl, hT2, hb2⟩
  obtain ⟨A1, c1, rfl, _⟩ := hT2.b
  obtain ⟨A2, c2, rfl, _⟩ := hT2.f
  have hs1 := HS1.out
  have HX2 := Hd (HX1.out.below hb2)
  have HK2 := Hd (HK1.out.below hb2)
  have HR2 := Hd (HR1.out.below hb2)
  have HB2 := Hd (bT HB1.out hb2)
  have HS2 := Hd (Nat.le_trans HS1.out hb2.size)
  clear hb2
  clear m01 m11 m21 m31 m41 m51 m61 m71 m81
  clear k01 k11
  have ho5 := Own.new_ w2 26 #[.slice A1 (unmV m.t s p).bs.length c1, .slice A2 (unmV m.t s p).fs.length c2]
  have hb5 : Below w2.heap.size w2 (w2.alloc (.cells #[.slice A1 (unmV m.t s p).bs.length c1, .slice A2 (unmV m.t s p).fs.length c2] 26)) := bA bR
  generalize hW5 : w2.alloc (.cells #[.slice A1 (unmV m.t s p).bs.length c1, .slice A2 (unmV m.t s p).fs.length c2] 26) = w5 at ho5 hb5
  have HT5 := Hd ((hT2.now hb5).mono hs1)
  have HY5 := Hd ho5
  clear hT2 ho5
  have HX5 := Hd (HX2.out.below hb5)
  have HK5 := Hd (HK2.out.below hb5)
  have HR5 := Hd (HR2.out.below hb5)
  have HB5 := Hd (bT HB2.out hb5)
  have HS5 := Hd (Nat.le_trans HS2.out hb5.size)
  clear hb5
  cases h3 : fOK m.t s p with
  | false =>
   have HA : Hid (takO m s p = false) := by show _ = _; unfold takO; rw [h3, Bool.and_false]
   have HV := Hd (takO_false HA.out)
   obtain ⟨r0x, r1x, r2x, r3x, r4x, r5x, r6x, r7x, r8x⟩ := cells9 HR5.out
   obtain ⟨z0x, z1x, z2x, z3x, z4x, z5x, z6x, z7x, z8x⟩ := free9 HR5.out
   go_wp2
   obtain ⟨t0, t1, t2, t3, t4, t5, t6, t7, t8⟩ := cells9 (set9z HR5.out)
   refine bodyPost_ret (v := .tuple #[.agg #[.slice none 0 0, .slice none 0 0, .slice none 0 0, .int .i64 0, .int .i64 0, .int .i64 0, .int .i64 0, .slice none 0 0, .int .i64 0], .bool false]) (by simp [results, Tryz.results96, go_sem, t0, t1, t2, t3, t4, t5, t6, t7, t8]) rfl ⟨_, rfl, _, _, _, _, by rw [HA.out, HV.out]; rfl, by rw [HV.out]; exact mam_z, ?_⟩
   repeat (refine bS ?_ (by simp <;> omega))
   exact HB5.out
  | true =>
   have HA : Hid (takO m s p = true) := by show _ = _; unfold takO; rw [h1, h3]; rfl
   have HV : Hid (takV m s p = drpM m (unmV m.t s p) s p) := by show _ = _; unfold takV; rw [HA.out]; rfl
   obtain ⟨m05, m15, m25, m35, m45, m55, m65, m75, m85⟩ := cells9 HX5.out
   have k05 := HK5.out.cell_ 0 (v := .int .i64 s) rfl
   have k15 := HK5.out.cell_ 1 (v := .int .i64 p) rfl
   have hs5 := HS5.out
   go_wp2_with fail
   refine (l6Forget_any vb vf vl vo m s p _ (HM.out.now HB5.out) h1 (fOK_page h3)).mono ?_
   rintro e w3 ⟨_, rfl, q1, q2, q3, q4, rfl, hM3, hb3⟩
   have HT3 := Hd (HT5.out.now hb3)
   have hy3 := HY5.out.below hb3
   have u0 := hy3.cell_ 0 (v := .slice A1 (unmV m.t s p).bs.length c1) rfl
   have u1 := hy3.cell_ 1 (v := .slice A2 (unmV m.t s p).fs.length c2) rfl
   have hly := hy3.lt
   have HX3 := Hd (HX5.out.below hb3)
   have HK3 := Hd (HK5.out.below hb3)
   have HR3 := Hd (HR5.out.below hb3)
   have HB3 := Hd (bT HB5.out hb3)
   have HS3 := Hd (Nat.le_trans HS5.out hb3.size)
   clear hb3
   clear m05 m15 m25 m35 m45 m55 m65 m75 m85
   clear k05 k15
   obtain ⟨r0x, r1x, r2x, r3x, r4x, r5x, r6x, r7x, r8x⟩ := cells9 HR3.out
   obtain ⟨z0x, z1x, z2x, z3x, z4x, z5x, z6x, z7x, z8x⟩ := free9 HR3.out
   have HM3 := Hd (hM3.mono hs5)
   obtain ⟨B1, d1, rfl, _⟩ := hM3.t.b
   obtain ⟨B2, d2, rfl, _⟩ := hM3.t.f
   obtain ⟨B3, d3, rfl, _⟩ := hM3.l
   obtain ⟨B4, d4, rfl, _⟩ := hM3.o
   clear hM3
   have hl3 := HR3.out.lt
   go_wp2
   have o3 := (HR3.out.set9 (.slice A1 (unmV m.t s p).bs.length c1) (.slice A2 (unmV m.t s p).fs.length c2) (.slice B3 (drpM m m.t s p).c.ls.length d3) (.int .i64 (drpM m m.t s p).c.hand) (.int .i64 (drpM m m.t s p).g.count) (.int .i64 (drpM m m.t s p).g.next) (.int .i64 (drpM m m.t s p).g.round) (.slice B4 (drpM m m.t s p).g.os.length d4) (.int .i64 (drpM m m.t s p).sp)).alloc (o := .cells #[.slice A1 (unmV m.t s p).bs.length c1, .slice A2 (unmV m.t s p).fs.length c2, .slice B3 (drpM m m.t s p).c.ls.length d3, .int .i64 (drpM m m.t s p).c.hand, .int .i64 (drpM m m.t s p).g.count, .int .i64 (drpM m m.t s p).g.next, .int .i64 (drpM m m.t s p).g.round, .slice B4 (drpM m m.t s p).g.os.length d4, .int .i64 (drpM m m.t s p).sp] 34)
   obtain ⟨p0t, p1t, p2t, p3t, p4t, p5t, p6t, p7t, p8t⟩ := cells9 o3
   have hmm : MaM (w.heap.size + 3) w3 (.slice A1 (unmV m.t s p).bs.length c1) (.slice A2 (unmV m.t s p).fs.length c2) (.slice B3 (drpM m m.t s p).c.ls.length d3) (.slice B4 (drpM m m.t s p).g.os.length d4) (drpM m (unmV m.t s p) s p) := ⟨HT3.out, HM3.out.l, HM3.out.o⟩
   refine bodyPost_ret (v := .tuple #[.agg #[.slice A1 (unmV m.t s p).bs.length c1, .slice A2 (unmV m.t s p).fs.length c2, .slice B3 (drpM m m.t s p).c.ls.length d3, .int .i64 (drpM m m.t s p).c.hand, .int .i64 (drpM m m.t s p).g.count, .int .i64 (drpM m m.t s p).g.next, .int .i64 (drpM m m.t s p).g.round, .slice B4 (drpM m m.t s p).g.os.length d4, .int .i64 (drpM m m.t s p).sp], .bool true]) (by simp [results, Tryz.results96, go_sem, p0t, p1t, p2t, p3t, p4t, p5t, p6t, p7t, p8t]) rfl ⟨_, rfl, _, _, _, _, by rw [HA.out, HV.out]; rfl, ?_, ?_⟩
   ·rw [HV.out]
    exact ((hmm.far9 HR3.out _ _ _ _ _ _ _ _ _).now (bA bR)).mono (by omega)
   ·refine bA ?_
    repeat (refine bS ?_ (by simp <;> omega))
    exact HB3.out
theorem mev_use {M : Me} {p n r : Int} (h : useO M p n r = true) : mav (useV M p n r).m = true := by
 obtain ⟨h1, h2, h3, h4, N, e⟩ := useO_parts h
 have V := mev_MEV.1 h1
 obtain ⟨_, hV, _⟩ := useO_some h1 h2 h3 h4 e
 rw [hV]
 exact mav_tch (useN_tch V e h2 h3).1
theorem MV.sp16 {m : Ma} (M : MV m) : inR m.sp 16 = true := by
 obtain ⟨k, o, hk, eo, ho⟩ := ownI_lt M.o
 obtain ⟨_, ht⟩ := tgv_parts M.g
 obtain ⟨o', eo', h1, _⟩ := tok_at ht (List.getElem?_eq_some_iff.1 eo).1
 rw [eo] at eo'
 injection eo' with eo'
 rw [← ho, eo']
 exact h1
end Go.Proofs.YtfbnokjdkhcgoaaGreatDoor
namespace Go.Proofs.YtfbnokjdkhcgoaaGreatDoor
set_option maxRecDepth 100000
theorem main_is : Tryz.prog.mainIs = some (true, ("e3cae85953a1e8594c5d088c2f5802389a863d70d580150e0c190df728174340" : String).toList) := by
 have h := chars_of (s := Tryz.prog.initOrder) rfl
 unfold Program.mainIs
 rw [h]
 refine Eq.trans ?_ (Eq.refl _)
 kernel_rfl
end Go.Proofs.YtfbnokjdkhcgoaaGreatDoor
