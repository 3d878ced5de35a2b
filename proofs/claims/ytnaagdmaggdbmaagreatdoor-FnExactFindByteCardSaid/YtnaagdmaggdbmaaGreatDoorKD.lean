/- A part of the proofs of this seat: Mk2, Rel, PrI, Pr1, RgI, Rg2, RelA, RelB. -/
import Derived.Test.YtnaagdmaggdbmaaGreatDoorKC
import Derived.Orders
set_option linter.unusedVariables false
set_option linter.unusedSimpArgs false
namespace Go.Proofs.YtnaagdmaggdbmaaGreatDoor
open Go.RowKit
set_option maxRecDepth 1000000
/-- blocks whose type is not among these stay -/
def Oth (p : TypeId → Prop) (w w' : World) : Prop := w.heap.size ≤ w'.heap.size ∧ ∀ (g : Nat) (e : TypeId) (cs : Array Value), Own w g e cs → ¬ p e → Own w' g e cs
section
variable {p : TypeId → Prop} {w w' w'' : World} {e e' : TypeId} {A : Option Addr} {n : Nat}
theorem Oth.trans {q : TypeId → Prop} (h : Oth p w w') (k : Oth q w' w'') : Oth (fun e => p e ∨ q e) w w'' :=
  ⟨Nat.le_trans h.1 k.1, fun g e cs o hn => k.2 g e cs (h.2 g e cs o (fun x => hn (.inl x))) (fun x => hn (.inr x))⟩
theorem Oth.of_below (h : Below w.heap.size w w') : Oth p w w' := ⟨h.size, fun _ _ _ o _ => o.below h⟩
theorem Oth.far (h : Oth p w' w'') (hb : Below w.heap.size w w') : Oth p w w'' := ⟨Nat.le_trans hb.size h.1, fun g e cs o hn => h.2 g e cs (o.below hb) hn⟩
theorem oth_of (hg : w.grownBy w' (rowOf n A)) (ho : 0 < n → ∃ g cs, A = some ⟨g, 0, none⟩ ∧ Own w g e cs) : Oth (fun x => x = e) w w' := by
  refine ⟨hg.size, fun g e' cs o1 hne => (hg.block g o1.lt (fun hk => ?_)).trans o1⟩
  by_cases h0 : n = 0
  · rw [h0] at hk; cases hk
  · obtain ⟨g', cs', rfl, o2⟩ := ho (by omega)
    rw [rowOf_some h0] at hk
    injection hk with hk
    subst hk
    have h3 := o1.symm.trans o2
    injection h3 with h3
    injection h3 with _ h3
    exact hne h3
theorem Mk.oth {f : Nat → Value} {sz : Nat} (h : Mk f sz e w A n) (hg : Oth p w w') (hne : ¬ p e) : Mk f sz e w' A n :=
  ⟨fun hn => let ⟨g, cs, e1, o1, hs, hc⟩ := h.own hn; ⟨g, cs, e1, hg.2 g _ cs o1 hne, hs, hc⟩⟩
theorem MineE.oth {α : Type} {E : Enc α} {B : Nat} {l : List α} (h : MineE E e B w A l) (hg : Oth p w w') (hne : ¬ p e) : MineE E e B w' A l := by
  refine ⟨⟨h.is.len, fun hn => ?_⟩, fun hl => ?_⟩
  · obtain ⟨g, cs, rfl, hbg, ho, _⟩ := h.own hn
    obtain ⟨b, o, e, hb, hc⟩ := h.is.at_ hn
    injection e with e
    injection e with e1 e2
    subst e1 e2
    have := hg.1
    refine ⟨g, 0, rfl, by omega, fun j u hu => ?_⟩
    have hh := hc j u hu
    rw [ho.cell] at hh
    rw [(hg.2 g _ cs ho hne).cell]
    exact hh
  · obtain ⟨g, cs, e, hbg, ho, hs⟩ := h.own hl
    exact ⟨g, cs, e, hbg, hg.2 g _ cs ho hne, hs⟩
theorem tch_of {α : Type} {E : Enc α} {B : Nat} {l : List α} (h : MineE E e B w A l) {n : Nat} (hn : n = l.length) {v v' : World} (hg : v.grownBy v' (rowOf n A)) : Tch B w.heap.size v v' := Tch.grown hg (fun k hk => h.row k (hn ▸ hk))
end
set_option maxHeartbeats 2000000 in
theorem markTable_any (B : Nat) (A1 A2 : Option Addr) (c1 c2 : Nat) (t : Tab) (w : World) (k0 : Int) (h1 : MineE intE 3 B w A1 t.bs) (h2 : MineE frE 48 B w A2 t.fs) (hi : Nat) (hr1 : ∀ k, rowOf t.bs.length A1 = some k → k < hi) (hr2 : ∀ k, rowOf t.fs.length A2 = some k → k < hi) (hk0 : 0 ≤ k0) (hk1 : k0 ≤ 536870912) (hl1 : t.bs.length ≤ 1048576) (hl2 : t.fs.length ≤ 1048576) :
    Calls Tryz.prog 88 #[.agg #[.slice A1 t.bs.length c1, .slice A2 t.fs.length c2], .int .i64 k0] w fun r w' => r = .returned (.int .i64 (k0 + (t.bs.length : Int) + 5 * (t.fs.length : Int))) ∧ Mk (mkE bInt 1 k0) 1 3 w' A1 t.bs.length ∧ Mk (mkE bFrame 5 (k0 + (t.bs.length : Int))) 5 48 w' A2 t.fs.length
      ∧ Tch B hi w w' ∧ Oth (fun e => e = 3 ∨ e = 48) w w' := by
  have hx := Own.new_ w 26 #[.slice A1 t.bs.length c1, .slice A2 t.fs.length c2]
  have hb0 : Below w.heap.size w (w.alloc (.cells #[.slice A1 t.bs.length c1, .slice A2 t.fs.length c2] 26)) := bA bR
  generalize hW0 : w.alloc (.cells #[.slice A1 t.bs.length c1, .slice A2 t.fs.length c2] 26) = W0 at hx hb0
  have x0 := hx.cell_ 0 (v := .slice A1 t.bs.length c1) rfl
  have HX := Lib.hid hx
  have HB0 := Lib.hid hb0
  have H1 := Lib.hid h1
  have H2 := Lib.hid h2
  clear hx hb0 h1 h2
  go_enter Tryz.func88, Tryz.ntmps88
  go_wp2_with fail
  refine (markIntS_any B A1 c1 t.bs.length t.bs _ k0 (H1.out.below HB0.out) rfl hk0 (by omega) hl1).mono ?_
  rintro e W1 ⟨rfl, hm1, hg1, ho1⟩
  have ot1 := oth_of hg1 ho1
  have x1 := (ot1.2 _ _ _ HX.out (by decide)).cell_ 1 (v := .slice A2 t.fs.length c2) rfl
  have HM1 := Lib.hid hm1
  have HO1 := Lib.hid ot1
  have HT1 := Lib.hid ((Tch.of_below HB0.out).trans (Tch.grown hg1 (fun k hk => ⟨(H1.out.row k hk).1, hr1 k hk⟩)))
  clear hm1 hg1 ho1 ot1 x0
  go_wp2_with fail
  refine (markFrameS_any B A2 c2 t.fs.length t.fs _ (k0 + (t.bs.length : Int)) ((H2.out.below HB0.out).oth HO1.out (by decide)) rfl (by omega) (by omega) hl2).mono ?_
  rintro e W2 ⟨rfl, hm2, hg2, ho2⟩
  have HM2 := Lib.hid hm2
  have HT2 := Lib.hid (HT1.out.trans (Tch.grown hg2 (fun k hk => ⟨(H2.out.row k hk).1, hr2 k hk⟩)))
  have ot2 := oth_of hg2 ho2
  have HM3 := Lib.hid (HM1.out.oth ot2 (by decide))
  have HO2 := Lib.hid ((HO1.out.trans ot2).far HB0.out)
  clear hm2 hg2 ho2 ot2
  go_wp2
  go_ret
  exact ⟨rfl, HM3.out, HM2.out, HT2.out, HO2.out⟩
set_option maxHeartbeats 2000000 in
theorem markCache_any (B : Nat) (A1 : Option Addr) (c1 : Nat) (x y z : Int) (l : List (Ln)) (w : World) (k0 : Int) (h1 : MineE lnE 106 B w A1 l) (hi : Nat) (hr : ∀ k, rowOf l.length A1 = some k → k < hi) (hk0 : 0 ≤ k0) (hk1 : k0 ≤ 1073741824) (hl1 : l.length ≤ 1048576) :
    Calls Tryz.prog 89 #[.agg #[.slice A1 l.length c1, .int .i64 x], .int .i64 k0] w fun r w' => r = .returned (.int .i64 (k0 + 6 * (l.length : Int))) ∧ Mk (mkE bLine 6 k0) 6 106 w' A1 l.length
      ∧ Tch B hi w w' ∧ Oth (fun e => e = 106) w w' := by
  have H1 := Lib.hid h1
  clear h1
  go_enter Tryz.func89, Tryz.ntmps89
  go_wp2_with fail
  refine (markLineS_any B A1 c1 l.length l _ k0 (H1.out.below (bA bR)) rfl hk0 (by omega) hl1).mono ?_
  rintro e W1 ⟨rfl, hm1, hg1, ho1⟩
  have HO1 := Lib.hid ((oth_of hg1 ho1).far (bA bR))
  have HT1 := Lib.hid ((Tch.of_below (bA bR)).trans (Tch.grown hg1 (fun k hk => ⟨(H1.out.row k hk).1, hr k hk⟩)))
  have HM1 := Lib.hid hm1
  clear hm1 hg1 ho1
  go_wp2
  go_ret
  exact ⟨rfl, HM1.out, HT1.out, HO1.out⟩
set_option maxHeartbeats 2000000 in
theorem heldCache_any (A1 : Option Addr) (c1 n : Nat) (x y z : Int) (w : World) (k0 : Int) (h1 : Mk (mkE bLine 6 k0) 6 106 w A1 n) (hk0 : 0 ≤ k0) (hk1 : k0 ≤ 1073741824) (hl1 : n ≤ 1048576) :
    Calls Tryz.prog 92 #[.agg #[.slice A1 n c1, .int .i64 x], .int .i64 k0] w fun r w' => r = .returned (.int .i64 (k0 + 6 * (n : Int))) ∧ Below w.heap.size w w' := by
  have H1 := Lib.hid h1
  have hq : ¬ k0 + 6 * (n : Int) < 0 := by omega
  clear h1
  go_enter Tryz.func92, Tryz.ntmps92
  go_wp2_with fail
  refine (heldLineS_any A1 n c1 _ k0 (H1.out.now (bA bR)) hk0 (by omega) hl1).mono ?_
  rintro e W1 ⟨rfl, hb1⟩
  have HB1 := Lib.hid (bT (bA bR) hb1)
  clear hb1
  go_wp2
  go_ret
  exact ⟨rfl, HB1.out⟩
set_option maxHeartbeats 2000000 in
theorem markTags_any (B : Nat) (A1 : Option Addr) (c1 : Nat) (x y z : Int) (l : List (Int × Int)) (w : World) (k0 : Int) (h1 : MineE owE 155 B w A1 l) (hi : Nat) (hr : ∀ k, rowOf l.length A1 = some k → k < hi) (hk0 : 0 ≤ k0) (hk1 : k0 ≤ 1073741824) (hl1 : l.length ≤ 1048576) :
    Calls Tryz.prog 90 #[.agg #[.int .i64 x, .int .i64 y, .int .i64 z, .slice A1 l.length c1], .int .i64 k0] w fun r w' => r = .returned (.int .i64 (k0 + 2 * (l.length : Int))) ∧ Mk (mkE bOwn 2 k0) 2 155 w' A1 l.length
      ∧ Tch B hi w w' ∧ Oth (fun e => e = 155) w w' := by
  have H1 := Lib.hid h1
  clear h1
  go_enter Tryz.func90, Tryz.ntmps90
  go_wp2_with fail
  refine (markOwnS_any B A1 c1 l.length l _ k0 (H1.out.below (bA bR)) rfl hk0 (by omega) hl1).mono ?_
  rintro e W1 ⟨rfl, hm1, hg1, ho1⟩
  have HO1 := Lib.hid ((oth_of hg1 ho1).far (bA bR))
  have HT1 := Lib.hid ((Tch.of_below (bA bR)).trans (Tch.grown hg1 (fun k hk => ⟨(H1.out.row k hk).1, hr k hk⟩)))
  have HM1 := Lib.hid hm1
  clear hm1 hg1 ho1
  go_wp2
  go_ret
  exact ⟨rfl, HM1.out, HT1.out, HO1.out⟩
set_option maxHeartbeats 2000000 in
theorem heldTags_any (A1 : Option Addr) (c1 n : Nat) (x y z : Int) (w : World) (k0 : Int) (h1 : Mk (mkE bOwn 2 k0) 2 155 w A1 n) (hk0 : 0 ≤ k0) (hk1 : k0 ≤ 1073741824) (hl1 : n ≤ 1048576) :
    Calls Tryz.prog 93 #[.agg #[.int .i64 x, .int .i64 y, .int .i64 z, .slice A1 n c1], .int .i64 k0] w fun r w' => r = .returned (.int .i64 (k0 + 2 * (n : Int))) ∧ Below w.heap.size w w' := by
  have H1 := Lib.hid h1
  have hq : ¬ k0 + 2 * (n : Int) < 0 := by omega
  clear h1
  go_enter Tryz.func93, Tryz.ntmps93
  go_wp2_with fail
  refine (heldOwnS_any A1 n c1 _ k0 (H1.out.now (bA bR)) hk0 (by omega) hl1).mono ?_
  rintro e W1 ⟨rfl, hb1⟩
  have HB1 := Lib.hid (bT (bA bR) hb1)
  clear hb1
  go_wp2
  go_ret
  exact ⟨rfl, HB1.out⟩
set_option maxHeartbeats 2000000 in
theorem heldTable_any (A1 A2 : Option Addr) (c1 c2 n1 n2 : Nat) (w : World) (k0 : Int) (h1 : Mk (mkE bInt 1 k0) 1 3 w A1 n1) (h2 : Mk (mkE bFrame 5 (k0 + (n1 : Int))) 5 48 w A2 n2) (hk0 : 0 ≤ k0) (hk1 : k0 ≤ 536870912) (hl1 : n1 ≤ 1048576) (hl2 : n2 ≤ 1048576) :
    Calls Tryz.prog 91 #[.agg #[.slice A1 n1 c1, .slice A2 n2 c2], .int .i64 k0] w fun r w' => r = .returned (.int .i64 (k0 + (n1 : Int) + 5 * (n2 : Int))) ∧ Below w.heap.size w w' := by
  have hq1 : ¬ k0 + (n1 : Int) < 0 := by omega
  have hq2 : ¬ k0 + (n1 : Int) + 5 * (n2 : Int) < 0 := by omega
  have hx := Own.new_ w 26 #[.slice A1 n1 c1, .slice A2 n2 c2]
  have hb0 : Below w.heap.size w (w.alloc (.cells #[.slice A1 n1 c1, .slice A2 n2 c2] 26)) := bA bR
  generalize hW0 : w.alloc (.cells #[.slice A1 n1 c1, .slice A2 n2 c2] 26) = W0 at hx hb0
  have x0 := hx.cell_ 0 (v := .slice A1 n1 c1) rfl
  have HX := Lib.hid hx
  have HB0 := Lib.hid hb0
  have H1 := Lib.hid h1
  have H2 := Lib.hid h2
  clear hx hb0 h1 h2
  go_enter Tryz.func91, Tryz.ntmps91
  go_wp2_with fail
  refine (heldIntS_any A1 n1 c1 _ k0 (H1.out.now HB0.out) hk0 (by omega) hl1).mono ?_
  rintro e W1 ⟨rfl, hb1⟩
  have x1 := (HX.out.below hb1).cell_ 1 (v := .slice A2 n2 c2) rfl
  have HB1 := Lib.hid (bT HB0.out hb1)
  clear hb1 x0
  go_wp2_with fail
  refine (heldFrameS_any A2 n2 c2 _ (k0 + (n1 : Int)) (H2.out.now HB1.out) (by omega) (by omega) hl2).mono ?_
  rintro e W2 ⟨rfl, hb2⟩
  have HB2 := Lib.hid (bT HB1.out hb2)
  clear hb2
  go_wp2
  go_ret
  exact ⟨rfl, HB2.out⟩
/-- a machine's marks -/
structure MkM (k0 : Int) (w : World) (A1 A2 A3 A4 : Option Addr) (n1 n2 n3 n4 : Nat) : Prop where
  b : Mk (mkE bInt 1 k0) 1 3 w A1 n1
  f : Mk (mkE bFrame 5 (k0 + (n1 : Int))) 5 48 w A2 n2
  l : Mk (mkE bLine 6 (k0 + (n1 : Int) + 5 * (n2 : Int))) 6 106 w A3 n3
  o : Mk (mkE bOwn 2 (k0 + (n1 : Int) + 5 * (n2 : Int) + 6 * (n3 : Int))) 2 155 w A4 n4
theorem MkM.now {k0 : Int} {w w' : World} {A1 A2 A3 A4 : Option Addr} {n1 n2 n3 n4 : Nat} (h : MkM k0 w A1 A2 A3 A4 n1 n2 n3 n4) (hb : Below w.heap.size w w') : MkM k0 w' A1 A2 A3 A4 n1 n2 n3 n4 := ⟨h.b.now hb, h.f.now hb, h.l.now hb, h.o.now hb⟩
set_option maxHeartbeats 2000000 in
theorem markMachine_any (B : Nat) (A1 A2 A3 A4 : Option Addr) (c1 c2 c3 c4 : Nat) (m : Ma) (w : World) (k0 : Int) (h1 : MineE intE 3 B w A1 m.t.bs) (h2 : MineE frE 48 B w A2 m.t.fs) (h3 : MineE lnE 106 B w A3 m.c.ls) (h4 : MineE owE 155 B w A4 m.g.os)
    (hi : Nat) (hr1 : ∀ k, rowOf m.t.bs.length A1 = some k → k < hi) (hr2 : ∀ k, rowOf m.t.fs.length A2 = some k → k < hi) (hr3 : ∀ k, rowOf m.c.ls.length A3 = some k → k < hi) (hr4 : ∀ k, rowOf m.g.os.length A4 = some k → k < hi) (hk0 : 0 ≤ k0) (hk1 : k0 ≤ 536870912) (hl1 : m.t.bs.length ≤ 1048576) (hl2 : m.t.fs.length ≤ 1048576) (hl3 : m.c.ls.length ≤ 1048576) (hl4 : m.g.os.length ≤ 1048576) :
    Calls Tryz.prog 33 #[.agg #[.slice A1 m.t.bs.length c1, .slice A2 m.t.fs.length c2, .slice A3 m.c.ls.length c3, .int .i64 m.c.hand, .int .i64 m.g.count, .int .i64 m.g.next, .int .i64 m.g.round, .slice A4 m.g.os.length c4, .int .i64 m.sp], .int .i64 k0] w
      fun r w' => r = .returned (.int .i64 (k0 + (m.t.bs.length : Int) + 5 * (m.t.fs.length : Int) + 6 * (m.c.ls.length : Int) + 2 * (m.g.os.length : Int))) ∧ MkM k0 w' A1 A2 A3 A4 m.t.bs.length m.t.fs.length m.c.ls.length m.g.os.length ∧ Tch B hi w w' ∧ Oth (fun e => ((e = 3 ∨ e = 48) ∨ e = 106) ∨ e = 155) w w' := by
  have hx := Own.new_ w 34 #[.slice A1 m.t.bs.length c1, .slice A2 m.t.fs.length c2, .slice A3 m.c.ls.length c3, .int .i64 m.c.hand, .int .i64 m.g.count, .int .i64 m.g.next, .int .i64 m.g.round, .slice A4 m.g.os.length c4, .int .i64 m.sp]
  have hb0 : Below w.heap.size w (w.alloc (.cells #[.slice A1 m.t.bs.length c1, .slice A2 m.t.fs.length c2, .slice A3 m.c.ls.length c3, .int .i64 m.c.hand, .int .i64 m.g.count, .int .i64 m.g.next, .int .i64 m.g.round, .slice A4 m.g.os.length c4, .int .i64 m.sp] 34)) := bA bR
  generalize hW0 : w.alloc (.cells #[.slice A1 m.t.bs.length c1, .slice A2 m.t.fs.length c2, .slice A3 m.c.ls.length c3, .int .i64 m.c.hand, .int .i64 m.g.count, .int .i64 m.g.next, .int .i64 m.g.round, .slice A4 m.g.os.length c4, .int .i64 m.sp] 34) = W0 at hx hb0
  have x0 := hx.cell_ 0 (v := .slice A1 m.t.bs.length c1) rfl
  have x1 := hx.cell_ 1 (v := .slice A2 m.t.fs.length c2) rfl
  have HX := Lib.hid hx
  have HB0 := Lib.hid hb0
  clear hx hb0
  have H1 := Lib.hid h1
  have H2 := Lib.hid h2
  have H3 := Lib.hid h3
  have H4 := Lib.hid h4
  clear h1 h2 h3 h4
  go_enter Tryz.func33, Tryz.ntmps33
  go_wp2_with fail
  refine (markTable_any B A1 A2 c1 c2 m.t _ k0 (H1.out.below HB0.out) (H2.out.below HB0.out) hi hr1 hr2 hk0 hk1 hl1 hl2).mono ?_
  rintro e W1 ⟨rfl, hm1, hm2, ht1, ho1⟩
  have x2 := (ho1.2 _ _ _ HX.out (by decide)).cell_ 2 (v := .slice A3 m.c.ls.length c3) rfl
  have x3 := (ho1.2 _ _ _ HX.out (by decide)).cell_ 3 (v := .int .i64 m.c.hand) rfl
  have HX1 := Lib.hid (ho1.2 _ _ _ HX.out (by decide))
  have HM1 := Lib.hid hm1
  have HM2 := Lib.hid hm2
  have HT1 := Lib.hid ht1
  have HL1 := Lib.hid ((H3.out.below HB0.out).oth ho1 (by decide))
  have HW1 := Lib.hid ((H4.out.below HB0.out).oth ho1 (by decide))
  have HO1 := Lib.hid ho1
  clear hm1 hm2 ht1 ho1 x0 x1
  go_wp2_with fail
  refine (markCache_any B A3 c3 m.c.hand 0 0 m.c.ls _ (k0 + (m.t.bs.length : Int) + 5 * (m.t.fs.length : Int)) HL1.out hi hr3 (by omega) (by omega) hl3).mono ?_
  rintro e W2 ⟨rfl, hm3, ht2, ho2⟩
  have HX2 := ho2.2 _ _ _ HX1.out (by decide)
  have x4 := HX2.cell_ 4 (v := .int .i64 m.g.count) rfl
  have x5 := HX2.cell_ 5 (v := .int .i64 m.g.next) rfl
  have x6 := HX2.cell_ 6 (v := .int .i64 m.g.round) rfl
  have x7 := HX2.cell_ 7 (v := .slice A4 m.g.os.length c4) rfl
  have HN1 := Lib.hid (HM1.out.oth ho2 (by decide))
  have HN2 := Lib.hid (HM2.out.oth ho2 (by decide))
  have HN3 := Lib.hid hm3
  have HT2 := Lib.hid ht2
  have HW2 := Lib.hid (HW1.out.oth ho2 (by decide))
  have HO2 := Lib.hid (HO1.out.trans ho2)
  clear hm3 ht2 ho2 x2 x3 HX2
  go_wp2_with fail
  refine (markTags_any B A4 c4 m.g.count m.g.next m.g.round m.g.os _ (k0 + (m.t.bs.length : Int) + 5 * (m.t.fs.length : Int) + 6 * (m.c.ls.length : Int)) HW2.out hi hr4 (by omega) (by omega) hl4).mono ?_
  rintro e W3 ⟨rfl, hm4, ht3, ho3⟩
  have HE := Lib.hid (MkM.mk (HN1.out.oth ho3 (by decide)) (HN2.out.oth ho3 (by decide)) (HN3.out.oth ho3 (by decide)) hm4)
  have HT3 := Lib.hid ht3
  have HO3 := Lib.hid ((HO2.out.trans ho3).far HB0.out)
  clear hm4 ht3 ho3
  go_wp2
  go_ret
  exact ⟨rfl, HE.out, ((Tch.of_below HB0.out).trans HT1.out).trans (HT2.out.trans HT3.out), HO3.out⟩
set_option maxHeartbeats 2000000 in
theorem heldMachine_any (A1 A2 A3 A4 : Option Addr) (c1 c2 c3 c4 n1 n2 n3 n4 : Nat) (x y z u s : Int) (w : World) (k0 : Int) (h : MkM k0 w A1 A2 A3 A4 n1 n2 n3 n4) (hk0 : 0 ≤ k0) (hk1 : k0 ≤ 536870912) (hl1 : n1 ≤ 1048576) (hl2 : n2 ≤ 1048576) (hl3 : n3 ≤ 1048576) (hl4 : n4 ≤ 1048576) :
    Calls Tryz.prog 34 #[.agg #[.slice A1 n1 c1, .slice A2 n2 c2, .slice A3 n3 c3, .int .i64 x, .int .i64 y, .int .i64 z, .int .i64 u, .slice A4 n4 c4, .int .i64 s], .int .i64 k0] w
      fun r w' => r = .returned (.int .i64 (k0 + (n1 : Int) + 5 * (n2 : Int) + 6 * (n3 : Int) + 2 * (n4 : Int))) ∧ Below w.heap.size w w' := by
  have hq1 : ¬ k0 + (n1 : Int) + 5 * (n2 : Int) < 0 := by omega
  have hq2 : ¬ k0 + (n1 : Int) + 5 * (n2 : Int) + 6 * (n3 : Int) < 0 := by omega
  have hq3 : ¬ k0 + (n1 : Int) + 5 * (n2 : Int) + 6 * (n3 : Int) + 2 * (n4 : Int) < 0 := by omega
  have hx := Own.new_ w 34 #[.slice A1 n1 c1, .slice A2 n2 c2, .slice A3 n3 c3, .int .i64 x, .int .i64 y, .int .i64 z, .int .i64 u, .slice A4 n4 c4, .int .i64 s]
  have hb0 : Below w.heap.size w (w.alloc (.cells #[.slice A1 n1 c1, .slice A2 n2 c2, .slice A3 n3 c3, .int .i64 x, .int .i64 y, .int .i64 z, .int .i64 u, .slice A4 n4 c4, .int .i64 s] 34)) := bA bR
  generalize hW0 : w.alloc (.cells #[.slice A1 n1 c1, .slice A2 n2 c2, .slice A3 n3 c3, .int .i64 x, .int .i64 y, .int .i64 z, .int .i64 u, .slice A4 n4 c4, .int .i64 s] 34) = W0 at hx hb0
  have x0 := hx.cell_ 0 (v := .slice A1 n1 c1) rfl
  have x1 := hx.cell_ 1 (v := .slice A2 n2 c2) rfl
  have HX := Lib.hid hx
  have HB0 := Lib.hid hb0
  clear hx hb0
  have H := Lib.hid h
  clear h
  go_enter Tryz.func34, Tryz.ntmps34
  go_wp2_with fail
  refine (heldTable_any A1 A2 c1 c2 n1 n2 _ k0 (H.out.b.now HB0.out) (H.out.f.now HB0.out) hk0 hk1 hl1 hl2).mono ?_
  rintro e W1 ⟨rfl, hb1⟩
  have x2 := (HX.out.below hb1).cell_ 2 (v := .slice A3 n3 c3) rfl
  have x3 := (HX.out.below hb1).cell_ 3 (v := .int .i64 x) rfl
  have HX1 := Lib.hid (HX.out.below hb1)
  have HB1 := Lib.hid (bT HB0.out hb1)
  clear hb1 x0 x1
  go_wp2_with fail
  refine (heldCache_any A3 c3 n3 x 0 0 _ (k0 + (n1 : Int) + 5 * (n2 : Int)) (H.out.l.now HB1.out) (by omega) (by omega) hl3).mono ?_
  rintro e W2 ⟨rfl, hb2⟩
  have HX2 := HX1.out.below hb2
  have x4 := HX2.cell_ 4 (v := .int .i64 y) rfl
  have x5 := HX2.cell_ 5 (v := .int .i64 z) rfl
  have x6 := HX2.cell_ 6 (v := .int .i64 u) rfl
  have x7 := HX2.cell_ 7 (v := .slice A4 n4 c4) rfl
  have HB2 := Lib.hid (bT HB1.out hb2)
  clear hb2 x2 x3 HX2
  go_wp2_with fail
  refine (heldTags_any A4 c4 n4 y z u _ (k0 + (n1 : Int) + 5 * (n2 : Int) + 6 * (n3 : Int)) (H.out.o.now HB2.out) (by omega) (by omega) hl4).mono ?_
  rintro e W3 ⟨rfl, hb3⟩
  have HB3 := Lib.hid (bT HB2.out hb3)
  clear hb3
  go_wp2
  go_ret
  exact ⟨rfl, HB3.out⟩
end Go.Proofs.YtnaagdmaggdbmaaGreatDoor
namespace Go.Proofs.YtnaagdmaggdbmaaGreatDoor
open Go.RowKit
/-! ### a region that draws its order: each operation by itself, whatever came before it -/
/-- some slots of a frame, filled -/
def fillA : List Nat → (Nat → Value) → Act → Act
  | [], _, a => a
  | s :: ds, x, a => (fillA ds x a).put (some s) (x s)
def upd (x : Nat → Value) (d : Option Nat) (v : Value) : Nat → Value := fun s => if some s = d then v else x s
theorem fill_get (x : Nat → Value) (a : Act) : ∀ ds : List Nat, (fillA ds x a).tmps.size = a.tmps.size ∧ (fillA ds x a).defers = a.defers ∧ ∀ j, (fillA ds x a).tmps[j]? = if j ∈ ds ∧ j < a.tmps.size then some (x j) else a.tmps[j]?
  | [] => ⟨rfl, rfl, fun j => by simp [fillA]⟩
  | s :: ds => by
    obtain ⟨h1, h2, h3⟩ := fill_get x a ds
    refine ⟨by simp [fillA, Act.put, h1], by simp [fillA, Act.put, h2], fun j => ?_⟩
    simp only [fillA, Act.put]
    rw [Array.getElem?_setIfInBounds, h1]
    by_cases hs : s = j
    · subst hs
      rw [if_pos rfl]
      by_cases hl : s < a.tmps.size
      · rw [if_pos hl, if_pos ⟨by simp, hl⟩]
      · rw [if_neg hl, if_neg (fun h => hl h.2), Array.getElem?_eq_none (by omega)]
    · rw [if_neg hs, h3]
      by_cases hj : j ∈ ds
      · simp [hj]
      · have : ¬ j = s := fun h => hs h.symm
        simp [hj, this]
theorem act_ext {a b : Act} (h1 : a.tmps = b.tmps) (h2 : a.defers = b.defers) : a = b := by cases a; cases b; simp_all
theorem fill_put {ds : List Nat} {x : Nat → Value} {a : Act} {d : Option Nat} {v : Value} (hd : ∀ s, d = some s → s ∈ ds) : (fillA ds x a).put d v = fillA ds (upd x d v) a := by
  obtain ⟨h1, h2, h3⟩ := fill_get x a ds
  obtain ⟨g1, g2, g3⟩ := fill_get (upd x d v) a ds
  cases d with
  | none =>
    have : upd x none v = x := by funext s; simp [upd]
    rw [this]; rfl
  | some s =>
    refine act_ext (Array.ext_getElem? fun j => ?_) (by rw [g2]; exact h2)
    rw [g3]
    show ((fillA ds x a).tmps.setIfInBounds s v)[j]? = _
    rw [Array.getElem?_setIfInBounds, h1, h3]
    by_cases hs : s = j
    · subst hs
      rw [if_pos rfl]
      have hm := hd s rfl
      by_cases hl : s < a.tmps.size
      · rw [if_pos hl, if_pos ⟨hm, hl⟩]; simp [upd]
      · rw [if_neg hl, if_neg (fun h => hl h.2), Array.getElem?_eq_none (by omega)]
    · rw [if_neg hs]
      have : ¬ j = s := fun h => hs h.symm
      simp [upd, this]
theorem fill_self (ds : List Nat) (a : Act) : fillA ds (fun s => a.tmps.getD s undef) a = a := by
  obtain ⟨h1, h2, h3⟩ := fill_get (fun s => a.tmps.getD s undef) a ds
  refine act_ext (Array.ext_getElem? fun j => ?_) h2
  rw [h3]
  split
  · rename_i h
    simp [h.2]
  · rfl
section
variable {P : Program} {ops : Array Oper} {md : Region.Mode} {Q : Exit → Act → World → Prop}
def left_ (L : Array Bool) : Nat → Nat
  | 0 => 0
  | n + 1 => left_ L n + (if L.getD n true = true then 0 else 1)
theorem left_ge {L : Array Bool} {i : Nat} : ∀ n, left_ (L.setIfInBounds i true) n ≤ left_ L n
  | 0 => Nat.le_refl _
  | n + 1 => by
    have h := left_ge (L := L) (i := i) n
    unfold left_
    by_cases hin : i = n
    · subst hin
      by_cases h1 : i < L.size
      · have : (L.setIfInBounds i true).getD i true = true := by simp
        rw [if_pos this]; omega
      · rw [if_pos (by simp)]; omega
    · rw [getD_set_ne true hin]; omega
theorem left_lt {L : Array Bool} {i : Nat} (h : L.getD i true = false) : ∀ n, i < n → left_ (L.setIfInBounds i true) n + 1 ≤ left_ L n
  | 0, hn => absurd hn (by omega)
  | n + 1, hn => by
    unfold left_
    by_cases hin : i = n
    · subst hin
      have e1 : (L.setIfInBounds i true).getD i true = true := by simp
      rw [if_pos e1, if_neg (by rw [h]; simp)]
      have := left_ge (L := L) (i := i) i
      omega
    · have := left_lt h n (by omega)
      rw [getD_set_ne true hin]; omega
theorem left_pos {L : Array Bool} {i : Nat} (h : L.getD i true = false) {n : Nat} (hn : i < n) : 1 ≤ left_ L n := by
  have := left_lt h n hn
  omega
theorem wpAny_inv (I : Array Bool → Act → World → Prop)
    (step : ∀ L a w, I L a w → ∀ i ∈ Region.ready md ops L, wpOp P ops Q i (fun a' w' => I (L.setIfInBounds i true) a' w') a w)
    (fin : ∀ L a w, I L a w → Region.ready md ops L = [] → Q .normal a w) : ∀ fuel L a w, left_ L ops.size ≤ fuel → I L a w → wpAny P md ops Q fuel L a w
  | 0, L, a, w, hf, h => by
    have hr : Region.ready md ops L = [] := by
      cases e : Region.ready md ops L with
      | nil => rfl
      | cons i r =>
        obtain ⟨h0, o, ho, _⟩ := mem_ready.1 (show i ∈ Region.ready md ops L by rw [e]; simp)
        have := left_pos h0 (Array.getElem?_eq_some_iff.1 ho).1
        omega
    exact ⟨hr, fin L a w h hr⟩
  | fuel + 1, L, a, w, hf, h => by
    refine ⟨fin L a w h, fun i hi => wpOp_mono (fun a' w' h' => wpAny_inv I step fin fuel _ a' w' ?_ h') (step L a w h i hi)⟩
    obtain ⟨h0, o, ho, _⟩ := mem_ready.1 hi
    have := left_lt h0 ops.size (Array.getElem?_eq_some_iff.1 ho).1
    omega
/-- what must hold of a region's text -/
def relB (md : Region.Mode) (ops : Array Oper) (ds : List Nat) (rds : List (List Nat)) : Bool :=
  (List.range ops.size).all fun j => match ops[j]? with
    | none => false
    | some o => o.guard.isNone && (match o.dst with | some d => ds.contains d | none => true) && o.after.all (fun e => !Region.binds md e || decide (e.on < j))
        && (List.range ops.size).all fun i => i == j || (match ops[i]? with
          | some oi => (match oi.dst with | some d => !(rds.getD j []).contains d || o.after.any (fun e => Region.binds md e && e.on == i) | none => true)
          | none => true)
theorem relB_at {ds : List Nat} {rds : List (List Nat)} (h : relB md ops ds rds = true) {j : Nat} {o : Oper} (ho : ops[j]? = some o) :
    o.guard = none ∧ (∀ s, o.dst = some s → s ∈ ds) ∧ (∀ e ∈ o.after, Region.binds md e = true → e.on < j) ∧
      ∀ i oi s, ops[i]? = some oi → i ≠ j → oi.dst = some s → s ∈ rds.getD j [] → ∃ e ∈ o.after, Region.binds md e = true ∧ e.on = i := by
  unfold relB at h
  rw [List.all_eq_true] at h
  have h1 := h j (List.mem_range.2 (Array.getElem?_eq_some_iff.1 ho).1)
  rw [ho] at h1
  simp only [Bool.and_eq_true] at h1
  obtain ⟨⟨⟨h1, h2⟩, h3⟩, h4⟩ := h1
  refine ⟨by simpa using h1, fun s hs => ?_, fun e he hb => ?_, fun i oi s hi hne hs hm => ?_⟩
  · rw [hs] at h2; simpa using h2
  · have := Array.all_eq_true_iff_forall_mem.1 h3 e he
    rw [hb] at this
    simpa using this
  · rw [List.all_eq_true] at h4
    have h5 := h4 i (List.mem_range.2 (Array.getElem?_eq_some_iff.1 hi).1)
    rw [hi] at h5
    simp only [hs, Bool.or_eq_true, beq_iff_eq] at h5
    rcases h5 with h5 | h5 | h5
    · exact absurd h5 hne
    · have hc : (rds.getD j []).contains s = true := List.contains_iff_mem.2 hm
      rw [hc] at h5
      cases h5
    · obtain ⟨e, he, hb⟩ := Array.any_eq_true'.1 h5
      simp only [Bool.and_eq_true, beq_iff_eq] at hb
      exact ⟨e, he, hb.1, hb.2⟩
theorem left_le (L : Array Bool) : ∀ n, left_ L n ≤ n
  | 0 => Nat.le_refl _
  | n + 1 => by
    have := left_le L n
    unfold left_
    split <;> omega
theorem getD_both_ {L : Array Bool} {i : Nat} (hi : i < L.size) : L.getD i true = L.getD i false := by simp [hi]
/-- EACH OPERATION BY ITSELF -/
theorem wp_region_rel {id : Nat} {a : Act} {w : World} (hm : P.follows .mixedOrders = true) (ds : List Nat) (rds : List (List Nat)) (C : World → Prop)
    (R : Nat → (Nat → Value) → World → Prop) (T : Nat → World → World → Prop) (hB : relB .any ops ds rds = true) (hC : C w.drew)
    (hR : ∀ j x y v, (∀ s ∈ rds.getD j [], x s = y s) → R j x v → R j y v)
    (hT : ∀ i j x v v', i ≠ j → R j x v → T i v v' → R j x v')
    (step : ∀ i o, ops[i]? = some o → ∀ x v, C v → (∀ e ∈ o.after, Region.binds .any e = true → R e.on x v) → ∀ K : Act → World → Prop,
      (∀ u v', T i v v' → C v' → R i (upd x o.dst u) v' → K ((fillA ds x a).put o.dst u) v') → o.wp P (fillA ds x a) v K Q)
    (fin : ∀ x v, C v → (∀ i, i < ops.size → R i x v) → Q .normal (fillA ds x a) v) : (Code.region id ops true).wp P Q a w := by
  refine wp_region_any hm ?_
  refine wpAny_inv (fun L a' v => ∃ x, a' = fillA ds x a ∧ C v ∧ L.size = ops.size ∧ (∀ j, L.getD j false = true → R j x v) ∧
    ∀ j o, ops[j]? = some o → L.getD j false = true → ∀ e ∈ o.after, Region.binds .any e = true → L.getD e.on false = true) ?_ ?_ _ _ _ _ (left_le _ _) ?_
  · rintro L a' v ⟨x, rfl, hCv, hsz, hL, hcl⟩ i hi
    obtain ⟨h0, o, ho, hdep⟩ := mem_ready.1 hi
    obtain ⟨b1, b2, b3, b4⟩ := relB_at hB ho
    have hisz := (Array.getElem?_eq_some_iff.1 ho).1
    unfold wpOp
    rw [ho]
    simp only [Region.wanted, b1, if_true]
    refine .inl (step i o ho x v hCv (fun e he hb => hL _ (hdep e he hb)) _ (fun u v' hTv hCv' hRi => ?_))
    refine ⟨upd x o.dst u, fill_put b2, hCv', by simpa using hsz, fun j hj => ?_, fun j oj hoj hj e he hb => ?_⟩
    · by_cases hij : i = j
      · subst hij; exact hRi
      · rw [getD_set_ne false hij] at hj
        have hj2 : j < ops.size := by
          rcases Nat.lt_or_ge j L.size with h | h
          · omega
          · simp [Array.getElem?_eq_none h] at hj
        obtain ⟨oj, hoj⟩ : ∃ oj, ops[j]? = some oj := ⟨_, Array.getElem?_eq_getElem hj2⟩
        refine hR j x _ v' (fun s hs => ?_) (hT i j x v v' hij (hL j hj) hTv)
        by_cases hd : o.dst = some s
        · obtain ⟨e, he, hb, hon⟩ := (relB_at hB hoj).2.2.2 i o s ho hij hd hs
          have h1 := hcl j oj hoj hj e he hb
          rw [hon, ← getD_both_ (by omega), h0] at h1
          cases h1
        · unfold upd; rw [if_neg (fun h => hd h.symm)]
    · by_cases hij : i = j
      · subst hij
        rw [ho] at hoj
        injection hoj with hoj
        subst hoj
        exact getD_set_true (hdep e he hb)
      · rw [getD_set_ne false hij] at hj
        exact getD_set_true (hcl j oj hoj hj e he hb)
  · rintro L a' v ⟨x, rfl, hCv, hsz, hL, hcl⟩ hr
    refine fin x v hCv (fun i hi => hL i ?_)
    have hall : ∀ n j, j < n → j < ops.size → L.getD j false = true := by
      intro n
      induction n with
      | zero => intro j h; exact absurd h (by omega)
      | succ n ih =>
        intro j hj hjs
        obtain ⟨oj, hoj⟩ : ∃ oj, ops[j]? = some oj := ⟨_, Array.getElem?_eq_getElem hjs⟩
        by_cases hd : L.getD j true = true
        · rw [← getD_both_ (by omega)]; exact hd
        · have hmem : j ∈ Region.ready .any ops L := mem_ready.2 ⟨by simpa using hd, oj, hoj, fun e he hb => by
            have h1 := (relB_at hB hoj).2.2.1 e he hb
            exact ih e.on (by omega) (by omega)⟩
          rw [hr] at hmem
          cases hmem
    exact hall (i + 1) i (by omega) hi
  · refine ⟨fun s => a.tmps.getD s undef, (fill_self ds a).symm, hC, by simp, fun j hj => ?_, fun j o ho hj => ?_⟩
    all_goals
      exfalso
      rcases Nat.lt_or_ge j ops.size with h | h
      · simp [h] at hj
      · simp [h] at hj
/-- the same, where what an operation leaves is told of one slot -/
theorem wp_region_rel1 {id : Nat} {a : Act} {w : World} (hm : P.follows .mixedOrders = true) (ds sl : List Nat) (C : World → Prop)
    (R : Nat → Value → World → Prop) (T : Nat → World → World → Prop) (hB : relB .any ops ds (sl.map fun s => [s]) = true) (hs : ops.size = sl.length) (hC : C w.drew)
    (hT : ∀ i j u v v', i ≠ j → R j u v → T i v v' → R j u v')
    (step : ∀ i o, ops[i]? = some o → ∀ x v, C v → (∀ k, (∃ e ∈ o.after, Region.binds .any e = true ∧ e.on = k) → k < sl.length → R k (x (sl.getD k 0)) v) → ∀ K : Act → World → Prop,
      (∀ u v', T i v v' → C v' → R i (upd x o.dst u (sl.getD i 0)) v' → K ((fillA ds x a).put o.dst u) v') → o.wp P (fillA ds x a) v K Q)
    (fin : ∀ x v, C v → (∀ i, i < sl.length → R i (x (sl.getD i 0)) v) → Q .normal (fillA ds x a) v) : (Code.region id ops true).wp P Q a w := by
  refine wp_region_rel hm ds (sl.map fun s => [s]) C (fun j x v => j < sl.length → R j (x (sl.getD j 0)) v) T hB hC ?_ ?_ ?_ ?_
  · intro j x y v h hr hj
    have e := h (sl.getD j 0) (by simp [List.getD_eq_getElem?_getD, hj])
    rw [← e]
    exact hr hj
  · exact fun i j x v v' hij h ht hj => hT i j _ v v' hij (h hj) ht
  · intro i o ho x v hCv hd K hK
    refine step i o ho x v hCv (fun k ⟨e, he, hb, hk⟩ hl => ?_) K (fun u v' h1 h2 h3 => hK u v' h1 h2 (fun _ => h3))
    subst hk
    exact hd e he hb hl
  · intro x v hCv h
    exact fin x v hCv (fun i hi => h i (by omega) hi)
end
end Go.Proofs.YtnaagdmaggdbmaaGreatDoor
namespace Go.Proofs.YtnaagdmaggdbmaaGreatDoor
open Go.RowKit
set_option maxRecDepth 1000000
/-- putting pages, one behind the other -/
def putN (s p r : Int) (fs : List Int) (m : Ma) : Nat → Option Ma
  | 0 => some m
  | k + 1 => match putN s p r fs m k with
    | some m' => (match fs[k]? with
      | some f => if putOK m' s (p + k) f r = true then some (putV m' s (p + k) f r) else none
      | none => none)
    | none => none
theorem putN_step {s p r : Int} {fs : List Int} {m m' : Ma} {k : Nat} {f : Int} (h : putN s p r fs m k = some m') (e : fs[k]? = some f) (hok : putOK m' s (p + k) f r = true) : putN s p r fs m (k + 1) = some (putV m' s (p + k) f r) := by
  unfold putN
  rw [h]
  simp only [e]
  rw [if_pos hok]
theorem putN_bad {s p r : Int} {fs : List Int} {m m' : Ma} {k : Nat} {f : Int} (h : putN s p r fs m k = some m') (e : fs[k]? = some f) (hok : putOK m' s (p + k) f r = false) : putN s p r fs m (k + 1) = none := by
  unfold putN
  rw [h]
  simp only [e]
  rw [if_neg (by rw [hok]; decide)]
theorem putN_none {s p r : Int} {fs : List Int} {m : Ma} {k : Nat} (h : putN s p r fs m k = none) : ∀ {n : Nat}, k ≤ n → putN s p r fs m n = none := by
  intro n hn
  induction n with
  | zero => rw [show (0 : Nat) = k by omega]; exact h
  | succ n ih =>
    rcases Nat.lt_or_ge n k with hlt | hge
    · rw [show n + 1 = k by omega]; exact h
    · unfold putN
      rw [ih hge]
def prgO (m : Ma) (s p : Int) (fs : List Int) (r : Int) : Option Ma := if mav m = true ∧ 1 ≤ fs.length ∧ fs.length ≤ 16 then putN s p r fs m fs.length else none
theorem prgO_no {m : Ma} {s p : Int} {fs : List Int} {r : Int} (h : ¬ (mav m = true ∧ 1 ≤ fs.length ∧ fs.length ≤ 16)) : prgO m s p fs r = none := if_neg h
theorem prgO_yes {m : Ma} {s p : Int} {fs : List Int} {r : Int} (h : mav m = true) (h1 : 1 ≤ fs.length) (h2 : fs.length ≤ 16) : prgO m s p fs r = putN s p r fs m fs.length := if_pos ⟨h, h1, h2⟩
def prgV (m : Ma) (s p : Int) (fs : List Int) (r : Int) : Ma := (prgO m s p fs r).getD maz
theorem MineE.farT {α : Type} {E : Enc α} {e ty : TypeId} {B g i : Nat} {w : World} {A : Option Addr} {l : List α} {cs : Array Value} {u : Value} (h : MineE E e B w A l) (ho : Own w g ty cs) (hne : ty ≠ e) : MineE E e B (w.setCell ⟨g, i, none⟩ u) A l := by
  rcases Nat.eq_zero_or_pos l.length with hl | hl
  · exact ⟨⟨h.is.len, fun hn => absurd hn (by omega)⟩, fun hn => absurd hn (by omega)⟩
  · obtain ⟨g2, cs2, rfl, _, ho2, _⟩ := h.own hl
    refine h.other (p := ⟨g, i, none⟩) (fun hg => ?_)
    replace hg : g = g2 := hg
    subst hg
    unfold Own at ho ho2
    rw [ho] at ho2
    injection ho2 with ho2
    injection ho2 with _ ho2
    exact hne ho2
theorem SlM.farT {α : Type} {E : Enc α} {e ty : TypeId} {B g i : Nat} {w : World} {v : Value} {l : List α} {cs : Array Value} {u : Value} (h : SlM E e B w v l) (ho : Own w g ty cs) (hne : ty ≠ e) : SlM E e B (w.setCell ⟨g, i, none⟩ u) v l := by
  obtain ⟨A, c, h1, h2, h3, h4⟩ := h
  exact ⟨A, c, h1, h2, h3, h4.farT ho hne⟩
theorem MaM.farT {B g i : Nat} {w : World} {vb vf vl vo : Value} {m : Ma} {cs : Array Value} {u : Value} (h : MaM B w vb vf vl vo m) (ho : Own w g 34 cs) : MaM B (w.setCell ⟨g, i, none⟩ u) vb vf vl vo m :=
  ⟨⟨h.t.b.farT ho (by decide), h.t.f.farT ho (by decide)⟩, h.l.farT ho (by decide), h.o.farT ho (by decide)⟩
theorem MaM.far9 {B g : Nat} {w : World} {vb vf vl vo : Value} {m : Ma} {cs : Array Value} (h : MaM B w vb vf vl vo m) (ho : Own w g 34 cs) (u0 u1 u2 u3 u4 u5 u6 u7 u8 : Value) :
    MaM B (((((((((w.setCell ⟨g, 0, none⟩ u0).setCell ⟨g, 1, none⟩ u1).setCell ⟨g, 2, none⟩ u2).setCell ⟨g, 3, none⟩ u3).setCell ⟨g, 4, none⟩ u4).setCell ⟨g, 5, none⟩ u5).setCell ⟨g, 6, none⟩ u6).setCell ⟨g, 7, none⟩ u7).setCell ⟨g, 8, none⟩ u8) vb vf vl vo m := by
  have o1 := ho.set_ 0 u0
  have o2 := o1.set_ 1 u1
  have o3 := o2.set_ 2 u2
  have o4 := o3.set_ 3 u3
  have o5 := o4.set_ 4 u4
  have o6 := o5.set_ 5 u5
  have o7 := o6.set_ 6 u6
  have o8 := o7.set_ 7 u7
  exact ((((((((h.farT ho).farT o1).farT o2).farT o3).farT o4).farT o5).farT o6).farT o7).farT o8
theorem Own.far9 {g h : Nat} {w : World} {ty : TypeId} {cs : Array Value} (ho : Own w h ty cs) (hne : h ≠ g) (u0 u1 u2 u3 u4 u5 u6 u7 u8 : Value) :
    Own (((((((((w.setCell ⟨g, 0, none⟩ u0).setCell ⟨g, 1, none⟩ u1).setCell ⟨g, 2, none⟩ u2).setCell ⟨g, 3, none⟩ u3).setCell ⟨g, 4, none⟩ u4).setCell ⟨g, 5, none⟩ u5).setCell ⟨g, 6, none⟩ u6).setCell ⟨g, 7, none⟩ u7).setCell ⟨g, 8, none⟩ u8) h ty cs :=
  ((((((((ho.far hne).far hne).far hne).far hne).far hne).far hne).far hne).far hne).far hne
theorem Own.set9 {g : Nat} {w : World} {ty : TypeId} {a0 a1 a2 a3 a4 a5 a6 a7 a8 : Value} (ho : Own w g ty #[a0, a1, a2, a3, a4, a5, a6, a7, a8]) (u0 u1 u2 u3 u4 u5 u6 u7 u8 : Value) :
    Own (((((((((w.setCell ⟨g, 0, none⟩ u0).setCell ⟨g, 1, none⟩ u1).setCell ⟨g, 2, none⟩ u2).setCell ⟨g, 3, none⟩ u3).setCell ⟨g, 4, none⟩ u4).setCell ⟨g, 5, none⟩ u5).setCell ⟨g, 6, none⟩ u6).setCell ⟨g, 7, none⟩ u7).setCell ⟨g, 8, none⟩ u8) g ty #[u0, u1, u2, u3, u4, u5, u6, u7, u8] := by
  have h := ((((((((ho.set_ 0 u0).set_ 1 u1).set_ 2 u2).set_ 3 u3).set_ 4 u4).set_ 5 u5).set_ 6 u6).set_ 7 u7).set_ 8 u8
  simpa using h
theorem putN_kval {s p r : Int} {fs : List Int} {m m' : Ma} {k : Nat} (h : putN s p r fs m (k + 1) = some m') : kval (s, p) = true := by
  cases h1 : putN s p r fs m 1 with
  | none => rw [putN_none h1 (by omega)] at h; cases h
  | some m1 =>
    unfold putN at h1
    simp only [putN] at h1
    cases e : fs[0]? with
    | none => rw [e] at h1; cases h1
    | some f =>
      rw [e] at h1
      simp only at h1
      split at h1
      · rename_i hok
        unfold putOK mapOK at hok
        simp only [Bool.and_eq_true] at hok
        have := hok.2.1.1.1.1.2
        simpa using this
      · cases h1
set_option maxHeartbeats 2000000 in
theorem sPutRange_any (vb vf vl vo : Value) (m : Ma) (s p : Int) (A : Option Addr) (c : Nat) (fs : List Int) (r : Int) (w : World) (hM : MaR w vb vf vl vo m) (hR : Rs intE w.heap.size w A fs) (hl : fs.length ≤ 1048576) (hp : -9223372036854775808 ≤ p ∧ p ≤ 9223372036854775807) :
    Calls Tryz.prog 15 #[.agg #[vb, vf, vl, .int .i64 m.c.hand, .int .i64 m.g.count, .int .i64 m.g.next, .int .i64 m.g.round, vo, .int .i64 m.sp], .agg #[.int .i64 s, .int .i64 p], .slice A fs.length c, .int .i64 r] w (Post2 fun v w' => ∃ v1 v2 v3 v4, v = .tuple #[.agg #[v1, v2, v3, .int .i64 (prgV m s p fs r).c.hand, .int .i64 (prgV m s p fs r).g.count, .int .i64 (prgV m s p fs r).g.next, .int .i64 (prgV m s p fs r).g.round, v4, .int .i64 (prgV m s p fs r).sp], .bool (prgO m s p fs r).isSome] ∧ MaM w.heap.size w' v1 v2 v3 v4 (prgV m s p fs r) ∧ Below w.heap.size w w') := by
  have hbx := ((Own.new_ w 34 #[vb, vf, vl, .int .i64 m.c.hand, .int .i64 m.g.count, .int .i64 m.g.next, .int .i64 m.g.round, vo, .int .i64 m.sp]).alloc (o := .cells #[.int .i64 s, .int .i64 p] 36)).alloc (o := .cells #[.slice none 0 0, .slice none 0 0, .slice none 0 0, .int .i64 0, .int .i64 0, .int .i64 0, .int .i64 0, .slice none 0 0, .int .i64 0] 34)
  have hbk := (ownAt (W := w.alloc (.cells #[vb, vf, vl, .int .i64 m.c.hand, .int .i64 m.g.count, .int .i64 m.g.next, .int .i64 m.g.round, vo, .int .i64 m.sp] 34)) (g := w.heap.size + 1) (t := 36) (cs := #[.int .i64 s, .int .i64 p]) (by simp)).alloc (o := .cells #[.slice none 0 0, .slice none 0 0, .slice none 0 0, .int .i64 0, .int .i64 0, .int .i64 0, .int .i64 0, .slice none 0 0, .int .i64 0] 34)
  have hbo := ownAt (W := (w.alloc (.cells #[vb, vf, vl, .int .i64 m.c.hand, .int .i64 m.g.count, .int .i64 m.g.next, .int .i64 m.g.round, vo, .int .i64 m.sp] 34)).alloc (.cells #[.int .i64 s, .int .i64 p] 36)) (g := w.heap.size + 1 + 1) (t := 34) (cs := #[.slice none 0 0, .slice none 0 0, .slice none 0 0, .int .i64 0, .int .i64 0, .int .i64 0, .int .i64 0, .slice none 0 0, .int .i64 0]) (by simp)
  have hb0 : Below w.heap.size w (((w.alloc (.cells #[vb, vf, vl, .int .i64 m.c.hand, .int .i64 m.g.count, .int .i64 m.g.next, .int .i64 m.g.round, vo, .int .i64 m.sp] 34)).alloc (.cells #[.int .i64 s, .int .i64 p] 36)).alloc (.cells #[.slice none 0 0, .slice none 0 0, .slice none 0 0, .int .i64 0, .int .i64 0, .int .i64 0, .int .i64 0, .slice none 0 0, .int .i64 0] 34)) := bA (bA (bA bR))
  have hs0 : (((w.alloc (.cells #[vb, vf, vl, .int .i64 m.c.hand, .int .i64 m.g.count, .int .i64 m.g.next, .int .i64 m.g.round, vo, .int .i64 m.sp] 34)).alloc (.cells #[.int .i64 s, .int .i64 p] 36)).alloc (.cells #[.slice none 0 0, .slice none 0 0, .slice none 0 0, .int .i64 0, .int .i64 0, .int .i64 0, .int .i64 0, .slice none 0 0, .int .i64 0] 34)).heap.size = w.heap.size + 3 := by simp
  generalize hW : ((w.alloc (.cells #[vb, vf, vl, .int .i64 m.c.hand, .int .i64 m.g.count, .int .i64 m.g.next, .int .i64 m.g.round, vo, .int .i64 m.sp] 34)).alloc (.cells #[.int .i64 s, .int .i64 p] 36)).alloc (.cells #[.slice none 0 0, .slice none 0 0, .slice none 0 0, .int .i64 0, .int .i64 0, .int .i64 0, .int .i64 0, .slice none 0 0, .int .i64 0] 34) = W0 at hbx hbk hbo hb0 hs0
  have HX0 := Lib.hid hbx
  have HK0 := Lib.hid hbk
  have HR0 := Lib.hid hbo
  have HB0 := Lib.hid hb0
  have HS0 : Hid (w.heap.size + 3 ≤ W0.heap.size) := Nat.le_of_eq hs0.symm
  clear hbx hbk hbo hb0
  have HM := Lib.hid hM
  clear hM
  have m00 := HX0.out.cell_ 0 (v := vb) rfl
  have m10 := HX0.out.cell_ 1 (v := vf) rfl
  have m20 := HX0.out.cell_ 2 (v := vl) rfl
  have m30 := HX0.out.cell_ 3 (v := .int .i64 m.c.hand) rfl
  have m40 := HX0.out.cell_ 4 (v := .int .i64 m.g.count) rfl
  have m50 := HX0.out.cell_ 5 (v := .int .i64 m.g.next) rfl
  have m60 := HX0.out.cell_ 6 (v := .int .i64 m.g.round) rfl
  have m70 := HX0.out.cell_ 7 (v := vo) rfl
  have m80 := HX0.out.cell_ 8 (v := .int .i64 m.sp) rfl
  go_enter Tryz.func15, Tryz.ntmps15
  go_wp2_with fail
  refine (sMachineValid_any vb vf vl vo m _ (HM.out.now HB0.out)).mono ?_
  rintro e w1 ⟨rfl, hb1⟩
  have HX1 := Lib.hid (HX0.out.below hb1)
  have HK1 := Lib.hid (HK0.out.below hb1)
  have HR1 := Lib.hid (HR0.out.below hb1)
  have HB1 := Lib.hid (bT HB0.out hb1)
  have HS1 := Lib.hid (Nat.le_trans HS0.out hb1.size)
  clear hb1
  clear m00 m10 m20 m30 m40 m50 m60 m70 m80
  cases h1 : mav m with
  | false =>
    have HO : Hid (prgO m s p fs r = none) := prgO_no (fun h => by rw [h1] at h; cases h.1)
    have HA : Hid ((prgO m s p fs r).isSome = false) := by show _ = _; rw [HO.out]; rfl
    have HV : Hid (prgV m s p fs r = maz) := by show _ = _; unfold prgV; rw [HO.out]; rfl
    have r0x := HR1.out.cell_ 0 (v := .slice none 0 0) rfl
    have r1x := HR1.out.cell_ 1 (v := .slice none 0 0) rfl
    have r2x := HR1.out.cell_ 2 (v := .slice none 0 0) rfl
    have r3x := HR1.out.cell_ 3 (v := .int .i64 0) rfl
    have r4x := HR1.out.cell_ 4 (v := .int .i64 0) rfl
    have r5x := HR1.out.cell_ 5 (v := .int .i64 0) rfl
    have r6x := HR1.out.cell_ 6 (v := .int .i64 0) rfl
    have r7x := HR1.out.cell_ 7 (v := .slice none 0 0) rfl
    have r8x := HR1.out.cell_ 8 (v := .int .i64 0) rfl
    have z0x := HR1.out.free 0
    have z1x := HR1.out.free 1
    have z2x := HR1.out.free 2
    have z3x := HR1.out.free 3
    have z4x := HR1.out.free 4
    have z5x := HR1.out.free 5
    have z6x := HR1.out.free 6
    have z7x := HR1.out.free 7
    have z8x := HR1.out.free 8
    go_wp2
    have o3 := ((((((((HR1.out.set_ 0 (.slice none 0 0)).set_ 1 (.slice none 0 0)).set_ 2 (.slice none 0 0)).set_ 3 (.int .i64 0)).set_ 4 (.int .i64 0)).set_ 5 (.int .i64 0)).set_ 6 (.int .i64 0)).set_ 7 (.slice none 0 0)).set_ 8 (.int .i64 0)
    have t0 := o3.cell_ 0 (v := .slice none 0 0) (by simp)
    have t1 := o3.cell_ 1 (v := .slice none 0 0) (by simp)
    have t2 := o3.cell_ 2 (v := .slice none 0 0) (by simp)
    have t3 := o3.cell_ 3 (v := .int .i64 0) (by simp)
    have t4 := o3.cell_ 4 (v := .int .i64 0) (by simp)
    have t5 := o3.cell_ 5 (v := .int .i64 0) (by simp)
    have t6 := o3.cell_ 6 (v := .int .i64 0) (by simp)
    have t7 := o3.cell_ 7 (v := .slice none 0 0) (by simp)
    have t8 := o3.cell_ 8 (v := .int .i64 0) (by simp)
    refine bodyPost_ret (v := .tuple #[.agg #[.slice none 0 0, .slice none 0 0, .slice none 0 0, .int .i64 0, .int .i64 0, .int .i64 0, .int .i64 0, .slice none 0 0, .int .i64 0], .bool false]) (by simp [results, Tryz.results15, go_sem, t0, t1, t2, t3, t4, t5, t6, t7, t8]) rfl ⟨_, rfl, _, _, _, _, by rw [HA.out, HV.out]; rfl, by rw [HV.out]; exact mam_z, ?_⟩
    repeat (refine bS ?_ (by simp <;> omega))
    exact HB1.out
  | true =>
  by_cases h2 : fs.length < 1
  · have HO : Hid (prgO m s p fs r = none) := prgO_no (fun h => by omega)
    have HA : Hid ((prgO m s p fs r).isSome = false) := by show _ = _; rw [HO.out]; rfl
    have HV : Hid (prgV m s p fs r = maz) := by show _ = _; unfold prgV; rw [HO.out]; rfl
    have r0x := HR1.out.cell_ 0 (v := .slice none 0 0) rfl
    have r1x := HR1.out.cell_ 1 (v := .slice none 0 0) rfl
    have r2x := HR1.out.cell_ 2 (v := .slice none 0 0) rfl
    have r3x := HR1.out.cell_ 3 (v := .int .i64 0) rfl
    have r4x := HR1.out.cell_ 4 (v := .int .i64 0) rfl
    have r5x := HR1.out.cell_ 5 (v := .int .i64 0) rfl
    have r6x := HR1.out.cell_ 6 (v := .int .i64 0) rfl
    have r7x := HR1.out.cell_ 7 (v := .slice none 0 0) rfl
    have r8x := HR1.out.cell_ 8 (v := .int .i64 0) rfl
    have z0x := HR1.out.free 0
    have z1x := HR1.out.free 1
    have z2x := HR1.out.free 2
    have z3x := HR1.out.free 3
    have z4x := HR1.out.free 4
    have z5x := HR1.out.free 5
    have z6x := HR1.out.free 6
    have z7x := HR1.out.free 7
    have z8x := HR1.out.free 8
    go_wp2
    have o3 := ((((((((HR1.out.set_ 0 (.slice none 0 0)).set_ 1 (.slice none 0 0)).set_ 2 (.slice none 0 0)).set_ 3 (.int .i64 0)).set_ 4 (.int .i64 0)).set_ 5 (.int .i64 0)).set_ 6 (.int .i64 0)).set_ 7 (.slice none 0 0)).set_ 8 (.int .i64 0)
    have t0 := o3.cell_ 0 (v := .slice none 0 0) (by simp)
    have t1 := o3.cell_ 1 (v := .slice none 0 0) (by simp)
    have t2 := o3.cell_ 2 (v := .slice none 0 0) (by simp)
    have t3 := o3.cell_ 3 (v := .int .i64 0) (by simp)
    have t4 := o3.cell_ 4 (v := .int .i64 0) (by simp)
    have t5 := o3.cell_ 5 (v := .int .i64 0) (by simp)
    have t6 := o3.cell_ 6 (v := .int .i64 0) (by simp)
    have t7 := o3.cell_ 7 (v := .slice none 0 0) (by simp)
    have t8 := o3.cell_ 8 (v := .int .i64 0) (by simp)
    refine bodyPost_ret (v := .tuple #[.agg #[.slice none 0 0, .slice none 0 0, .slice none 0 0, .int .i64 0, .int .i64 0, .int .i64 0, .int .i64 0, .slice none 0 0, .int .i64 0], .bool false]) (by simp [results, Tryz.results15, go_sem, t0, t1, t2, t3, t4, t5, t6, t7, t8]) rfl ⟨_, rfl, _, _, _, _, by rw [HA.out, HV.out]; rfl, by rw [HV.out]; exact mam_z, ?_⟩
    repeat (refine bS ?_ (by simp <;> omega))
    exact HB1.out
  by_cases h3 : 16 < fs.length
  · have HO : Hid (prgO m s p fs r = none) := prgO_no (fun h => by omega)
    have HA : Hid ((prgO m s p fs r).isSome = false) := by show _ = _; rw [HO.out]; rfl
    have HV : Hid (prgV m s p fs r = maz) := by show _ = _; unfold prgV; rw [HO.out]; rfl
    have r0x := HR1.out.cell_ 0 (v := .slice none 0 0) rfl
    have r1x := HR1.out.cell_ 1 (v := .slice none 0 0) rfl
    have r2x := HR1.out.cell_ 2 (v := .slice none 0 0) rfl
    have r3x := HR1.out.cell_ 3 (v := .int .i64 0) rfl
    have r4x := HR1.out.cell_ 4 (v := .int .i64 0) rfl
    have r5x := HR1.out.cell_ 5 (v := .int .i64 0) rfl
    have r6x := HR1.out.cell_ 6 (v := .int .i64 0) rfl
    have r7x := HR1.out.cell_ 7 (v := .slice none 0 0) rfl
    have r8x := HR1.out.cell_ 8 (v := .int .i64 0) rfl
    have z0x := HR1.out.free 0
    have z1x := HR1.out.free 1
    have z2x := HR1.out.free 2
    have z3x := HR1.out.free 3
    have z4x := HR1.out.free 4
    have z5x := HR1.out.free 5
    have z6x := HR1.out.free 6
    have z7x := HR1.out.free 7
    have z8x := HR1.out.free 8
    go_wp2
    have o3 := ((((((((HR1.out.set_ 0 (.slice none 0 0)).set_ 1 (.slice none 0 0)).set_ 2 (.slice none 0 0)).set_ 3 (.int .i64 0)).set_ 4 (.int .i64 0)).set_ 5 (.int .i64 0)).set_ 6 (.int .i64 0)).set_ 7 (.slice none 0 0)).set_ 8 (.int .i64 0)
    have t0 := o3.cell_ 0 (v := .slice none 0 0) (by simp)
    have t1 := o3.cell_ 1 (v := .slice none 0 0) (by simp)
    have t2 := o3.cell_ 2 (v := .slice none 0 0) (by simp)
    have t3 := o3.cell_ 3 (v := .int .i64 0) (by simp)
    have t4 := o3.cell_ 4 (v := .int .i64 0) (by simp)
    have t5 := o3.cell_ 5 (v := .int .i64 0) (by simp)
    have t6 := o3.cell_ 6 (v := .int .i64 0) (by simp)
    have t7 := o3.cell_ 7 (v := .slice none 0 0) (by simp)
    have t8 := o3.cell_ 8 (v := .int .i64 0) (by simp)
    refine bodyPost_ret (v := .tuple #[.agg #[.slice none 0 0, .slice none 0 0, .slice none 0 0, .int .i64 0, .int .i64 0, .int .i64 0, .int .i64 0, .slice none 0 0, .int .i64 0], .bool false]) (by simp [results, Tryz.results15, go_sem, t0, t1, t2, t3, t4, t5, t6, t7, t8]) rfl ⟨_, rfl, _, _, _, _, by rw [HA.out, HV.out]; rfl, by rw [HV.out]; exact mam_z, ?_⟩
    repeat (refine bS ?_ (by simp <;> omega))
    exact HB1.out
  obtain ⟨a1, a2, a3, a4⟩ := mav_len h1
  have hi1 : 1 ≤ fs.length := by omega
  have hi2 : fs.length ≤ 16 := by omega
  have m01 := HX1.out.cell_ 0 (v := vb) rfl
  have m11 := HX1.out.cell_ 1 (v := vf) rfl
  have m21 := HX1.out.cell_ 2 (v := vl) rfl
  have m31 := HX1.out.cell_ 3 (v := .int .i64 m.c.hand) rfl
  have m41 := HX1.out.cell_ 4 (v := .int .i64 m.g.count) rfl
  have m51 := HX1.out.cell_ 5 (v := .int .i64 m.g.next) rfl
  have m61 := HX1.out.cell_ 6 (v := .int .i64 m.g.round) rfl
  have m71 := HX1.out.cell_ 7 (v := vo) rfl
  have m81 := HX1.out.cell_ 8 (v := .int .i64 m.sp) rfl
  go_wp2_with fail
  refine (l6Copy_any vb vf vl vo m _ (HM.out.now HB1.out) a1 a2 a3 a4).mono ?_
  rintro e w2 ⟨_, rfl, b1, b2, b3, b4, rfl, hM2, hb2⟩
  have hs1 := HS1.out
  have HM2 := Lib.hid (hM2.mono hs1)
  obtain ⟨B1, d1, rfl, _⟩ := HM2.out.t.b
  obtain ⟨B2, d2, rfl, _⟩ := HM2.out.t.f
  obtain ⟨B3, d3, rfl, _⟩ := HM2.out.l
  obtain ⟨B4, d4, rfl, _⟩ := HM2.out.o
  clear hM2
  have HRF := Lib.hid hR
  have HM0 := HM2
  have HX2 := Lib.hid (HX1.out.below hb2)
  have HK2 := Lib.hid (HK1.out.below hb2)
  have HR2 := Lib.hid (HR1.out.below hb2)
  have HB2 := Lib.hid (bT HB1.out hb2)
  have HS2 := Lib.hid (Nat.le_trans HS1.out hb2.size)
  clear hb2
  clear m01 m11 m21 m31 m41 m51 m61 m71 m81
  clear hR
  have hgb := HR2.out.lt
  have ho2 := Own.new_ w2 34 #[.slice B1 m.t.bs.length d1, .slice B2 m.t.fs.length d2, .slice B3 m.c.ls.length d3, .int .i64 m.c.hand, .int .i64 m.g.count, .int .i64 m.g.next, .int .i64 m.g.round, .slice B4 m.g.os.length d4, .int .i64 m.sp]
  have HO2 := Lib.hid ho2
  have hgw := ho2.lt
  have hpw : ∀ (k : Nat) (mk : Ma), putN s p r fs m k = some mk → k < 16 → IntKind.i64.wrap (p + (k : Int)) = p + k := by
    intro k mk h hk
    rcases k with _ | k
    · exact IntWalk.i64_in _ (by omega)
    · have := kval_iff.1 (putN_kval h)
      exact IntWalk.i64_in _ (by omega)
  have HPW := Lib.hid hpw
  have HK3 := Lib.hid (HK2.out.alloc (o := .cells #[.slice B1 m.t.bs.length d1, .slice B2 m.t.fs.length d2, .slice B3 m.c.ls.length d3, .int .i64 m.c.hand, .int .i64 m.g.count, .int .i64 m.g.next, .int .i64 m.g.round, .slice B4 m.g.os.length d4, .int .i64 m.sp] 34))
  have HR3 := Lib.hid (HR2.out.alloc (o := .cells #[.slice B1 m.t.bs.length d1, .slice B2 m.t.fs.length d2, .slice B3 m.c.ls.length d3, .int .i64 m.c.hand, .int .i64 m.g.count, .int .i64 m.g.next, .int .i64 m.g.round, .slice B4 m.g.os.length d4, .int .i64 m.sp] 34))
  clear hpw ho2
  go_wp2
  go_loopw [11] (fun u wr => ∃ (k : Nat) (mk : Ma) (c1 c2 c3 c4 : Value), k ≤ fs.length ∧ u = .int .i64 k ∧ Hid (putN s p r fs m k = some mk) ∧ Own wr w2.heap.size 34 #[c1, c2, c3, .int .i64 mk.c.hand, .int .i64 mk.g.count, .int .i64 mk.g.next, .int .i64 mk.g.round, c4, .int .i64 mk.sp] ∧ MaM (w.heap.size + 3) wr c1 c2 c3 c4 mk ∧ Own wr (w.heap.size + 1) 36 #[.int .i64 s, .int .i64 p] ∧ Own wr (w.heap.size + 1 + 1) 34 #[.slice none 0 0, .slice none 0 0, .slice none 0 0, .int .i64 0, .int .i64 0, .int .i64 0, .int .i64 0, .slice none 0 0, .int .i64 0] ∧ Below w.heap.size w wr) (fun u _ => fs.length - (intOf u).toNat)
  case atStart => exact ⟨0, m, _, _, _, _, by omega, rfl, rfl, HO2.out, HM0.out.now (bA bR), HK3.out, HR3.out, bA HB2.out⟩
  case round =>
    obtain ⟨k, mk, c1, c2, c3, c4, hk, rfl, hput, hob, hmk, hkb, hrb, hbw⟩ := hrel
    have HOB := Lib.hid hob
    have HMK := Lib.hid hmk
    have HKB := Lib.hid hkb
    have HRB := Lib.hid hrb
    have HBW := Lib.hid hbw
    clear hob hmk hkb hrb hbw
    by_cases hlt : k < fs.length
    · obtain ⟨f, ef⟩ : ∃ f, fs[k]? = some f := ⟨_, List.getElem?_eq_getElem hlt⟩
      obtain ⟨b5, o5, rfl, hb5, y0w⟩ := HRF.out.i1 ef
      have y0 := (HBW.out.cell (p := ⟨b5, o5 + k, none⟩) hb5).trans y0w
      have hwk := HPW.out k mk hput.out (by omega)
      have EF := Lib.hid ef
      have Y0 := Lib.hid y0w
      have p0 := HOB.out.cell_ 0 (v := c1) rfl
      have p1 := HOB.out.cell_ 1 (v := c2) rfl
      have p2 := HOB.out.cell_ 2 (v := c3) rfl
      have p3 := HOB.out.cell_ 3 (v := .int .i64 mk.c.hand) rfl
      have p4 := HOB.out.cell_ 4 (v := .int .i64 mk.g.count) rfl
      have p5 := HOB.out.cell_ 5 (v := .int .i64 mk.g.next) rfl
      have p6 := HOB.out.cell_ 6 (v := .int .i64 mk.g.round) rfl
      have p7 := HOB.out.cell_ 7 (v := c4) rfl
      have p8 := HOB.out.cell_ 8 (v := .int .i64 mk.sp) rfl
      have q0 := HKB.out.cell_ 0 (v := .int .i64 s) rfl
      have q1 := HKB.out.cell_ 1 (v := .int .i64 p) rfl
      clear ef
      have hgl0 := HOB.out.lt
      have hwb := HBW.out.size
      have i1 : wr.heap.size ≠ w2.heap.size := by omega
      have i2 : w2.heap.size ≠ wr.heap.size := by omega
      have i3 : wr.heap.size ≠ w.heap.size + 1 := by omega
      have i4 : w.heap.size + 1 ≠ wr.heap.size := by omega
      have i5 : wr.heap.size ≠ b5 := by omega
      have i6 : b5 ≠ wr.heap.size := by omega
      go_wp2
      go_region_held_law (fun w' => w'.cell? ⟨w2.heap.size, 0, none⟩ = some c1 ∧ w'.cell? ⟨w2.heap.size, 1, none⟩ = some c2 ∧ w'.cell? ⟨w2.heap.size, 2, none⟩ = some c3 ∧ w'.cell? ⟨w2.heap.size, 3, none⟩ = some (.int .i64 mk.c.hand) ∧ w'.cell? ⟨w2.heap.size, 4, none⟩ = some (.int .i64 mk.g.count) ∧ w'.cell? ⟨w2.heap.size, 5, none⟩ = some (.int .i64 mk.g.next) ∧ w'.cell? ⟨w2.heap.size, 6, none⟩ = some (.int .i64 mk.g.round) ∧ w'.cell? ⟨w2.heap.size, 7, none⟩ = some c4 ∧ w'.cell? ⟨w2.heap.size, 8, none⟩ = some (.int .i64 mk.sp) ∧ w'.cell? ⟨w.heap.size + 1, 0, none⟩ = some (.int .i64 s) ∧ w'.cell? ⟨w.heap.size + 1, 1, none⟩ = some (.int .i64 p) ∧ w'.cell? ⟨b5, o5 + k, none⟩ = some (.int .i64 f)) (go_keep) (first
        | (go_at_call 55
           refine (sPutPage_any c1 c2 c3 c4 mk s (p + k) f r _ (HMK.out.r.now (bD bR))).mono ?_
           rintro _ w5 ⟨_, rfl, e1, e2, e3, e4, rfl, hM5, hb5'⟩
           have HBW5 := Lib.hid (bT (bD HBW.out) hb5')
           have HOB5 := Lib.hid ((HOB.out).drew.below hb5')
           have HKB5 := Lib.hid ((HKB.out).drew.below hb5')
           have HRB5 := Lib.hid ((HRB.out).drew.below hb5')
           have hsw : w.heap.size + 3 ≤ (wr.drew).heap.size := Nat.le_trans (Nat.le_trans HS2.out (Nat.le_of_lt HOB.out.lt)) (show wr.heap.size ≤ _ by simp)
           have HM5 := Lib.hid (hM5.mono hsw)
           obtain ⟨E1, n1, rfl, _⟩ := HM5.out.t.b
           obtain ⟨E2, n2, rfl, _⟩ := HM5.out.t.f
           obtain ⟨E3, n3, rfl, _⟩ := HM5.out.l
           obtain ⟨E4, n4, rfl, _⟩ := HM5.out.o
           have y5 := (hb5'.cell (p := ⟨b5, o5 + k, none⟩) (Nat.lt_of_lt_of_le hb5 (bD HBW.out).size)).trans (((bD HBW.out).cell (p := ⟨b5, o5 + k, none⟩) hb5).trans Y0.out)
           have p0z := HOB5.out.cell_ 0 (v := c1) rfl
           have p1z := HOB5.out.cell_ 1 (v := c2) rfl
           have p2z := HOB5.out.cell_ 2 (v := c3) rfl
           have p3z := HOB5.out.cell_ 3 (v := .int .i64 mk.c.hand) rfl
           have p4z := HOB5.out.cell_ 4 (v := .int .i64 mk.g.count) rfl
           have p5z := HOB5.out.cell_ 5 (v := .int .i64 mk.g.next) rfl
           have p6z := HOB5.out.cell_ 6 (v := .int .i64 mk.g.round) rfl
           have p7z := HOB5.out.cell_ 7 (v := c4) rfl
           have p8z := HOB5.out.cell_ 8 (v := .int .i64 mk.sp) rfl
           have q0z := HKB5.out.cell_ 0 (v := .int .i64 s) rfl
           have q1z := HKB5.out.cell_ 1 (v := .int .i64 p) rfl
           have hgl5 := HOB5.out.lt
           have hrl5 := HRB5.out.lt
           clear hM5 hb5' p0 p1 p2 p3 p4 p5 p6 p7 p8 q0 q1)
        | (go_at_call 55
           refine (sPutPage_any c1 c2 c3 c4 mk s (p + k) f r _ (HMK.out.r.now (bD (bA bR)))).mono ?_
           rintro _ w5 ⟨_, rfl, e1, e2, e3, e4, rfl, hM5, hb5'⟩
           have HBW5 := Lib.hid (bT (bD (bA HBW.out)) hb5')
           have HOB5 := Lib.hid ((HOB.out.alloc (o := .cells #[.slice none 0 0, .slice none 0 0, .slice none 0 0, .int .i64 0, .int .i64 0, .int .i64 0, .int .i64 0, .slice none 0 0, .int .i64 0] 34)).drew.below hb5')
           have HKB5 := Lib.hid ((HKB.out.alloc (o := .cells #[.slice none 0 0, .slice none 0 0, .slice none 0 0, .int .i64 0, .int .i64 0, .int .i64 0, .int .i64 0, .slice none 0 0, .int .i64 0] 34)).drew.below hb5')
           have HRB5 := Lib.hid ((HRB.out.alloc (o := .cells #[.slice none 0 0, .slice none 0 0, .slice none 0 0, .int .i64 0, .int .i64 0, .int .i64 0, .int .i64 0, .slice none 0 0, .int .i64 0] 34)).drew.below hb5')
           have hsw : w.heap.size + 3 ≤ ((wr.alloc (.cells #[.slice none 0 0, .slice none 0 0, .slice none 0 0, .int .i64 0, .int .i64 0, .int .i64 0, .int .i64 0, .slice none 0 0, .int .i64 0] 34)).drew).heap.size := Nat.le_trans (Nat.le_trans HS2.out (Nat.le_of_lt HOB.out.lt)) (show wr.heap.size ≤ _ by simp)
           have HM5 := Lib.hid (hM5.mono hsw)
           obtain ⟨E1, n1, rfl, _⟩ := HM5.out.t.b
           obtain ⟨E2, n2, rfl, _⟩ := HM5.out.t.f
           obtain ⟨E3, n3, rfl, _⟩ := HM5.out.l
           obtain ⟨E4, n4, rfl, _⟩ := HM5.out.o
           have y5 := (hb5'.cell (p := ⟨b5, o5 + k, none⟩) (Nat.lt_of_lt_of_le hb5 (bD (bA HBW.out)).size)).trans (((bD (bA HBW.out)).cell (p := ⟨b5, o5 + k, none⟩) hb5).trans Y0.out)
           have p0z := HOB5.out.cell_ 0 (v := c1) rfl
           have p1z := HOB5.out.cell_ 1 (v := c2) rfl
           have p2z := HOB5.out.cell_ 2 (v := c3) rfl
           have p3z := HOB5.out.cell_ 3 (v := .int .i64 mk.c.hand) rfl
           have p4z := HOB5.out.cell_ 4 (v := .int .i64 mk.g.count) rfl
           have p5z := HOB5.out.cell_ 5 (v := .int .i64 mk.g.next) rfl
           have p6z := HOB5.out.cell_ 6 (v := .int .i64 mk.g.round) rfl
           have p7z := HOB5.out.cell_ 7 (v := c4) rfl
           have p8z := HOB5.out.cell_ 8 (v := .int .i64 mk.sp) rfl
           have q0z := HKB5.out.cell_ 0 (v := .int .i64 s) rfl
           have q1z := HKB5.out.cell_ 1 (v := .int .i64 p) rfl
           have hgl5 := HOB5.out.lt
           have hrl5 := HRB5.out.lt
           have HN5 := Lib.hid ((Own.new_ wr 34 #[.slice none 0 0, .slice none 0 0, .slice none 0 0, .int .i64 0, .int .i64 0, .int .i64 0, .int .i64 0, .slice none 0 0, .int .i64 0]).drew.below hb5')
           have hnl5 := HN5.out.lt
           have hnl := HOB.out.lt
           have r0n := HN5.out.cell_ 0 (v := .slice none 0 0) rfl
           have r1n := HN5.out.cell_ 1 (v := .slice none 0 0) rfl
           have r2n := HN5.out.cell_ 2 (v := .slice none 0 0) rfl
           have r3n := HN5.out.cell_ 3 (v := .int .i64 0) rfl
           have r4n := HN5.out.cell_ 4 (v := .int .i64 0) rfl
           have r5n := HN5.out.cell_ 5 (v := .int .i64 0) rfl
           have r6n := HN5.out.cell_ 6 (v := .int .i64 0) rfl
           have r7n := HN5.out.cell_ 7 (v := .slice none 0 0) rfl
           have r8n := HN5.out.cell_ 8 (v := .int .i64 0) rfl
           have z0n := HN5.out.free 0
           have z1n := HN5.out.free 1
           have z2n := HN5.out.free 2
           have z3n := HN5.out.free 3
           have z4n := HN5.out.free 4
           have z5n := HN5.out.free 5
           have z6n := HN5.out.free 6
           have z7n := HN5.out.free 7
           have z8n := HN5.out.free 8
           clear hM5 hb5' p0 p1 p2 p3 p4 p5 p6 p7 p8 q0 q1))
      · have hO6 := HOB5.out.alloc (o := .cells #[.slice E1 (putV mk s (p + k) f r).t.bs.length n1, .slice E2 (putV mk s (p + k) f r).t.fs.length n2, .slice E3 (putV mk s (p + k) f r).c.ls.length n3, .int .i64 (putV mk s (p + k) f r).c.hand, .int .i64 (putV mk s (p + k) f r).g.count, .int .i64 (putV mk s (p + k) f r).g.next, .int .i64 (putV mk s (p + k) f r).g.round, .slice E4 (putV mk s (p + k) f r).g.os.length n4, .int .i64 (putV mk s (p + k) f r).sp] 34)
        have hK6 := HKB5.out.alloc (o := .cells #[.slice E1 (putV mk s (p + k) f r).t.bs.length n1, .slice E2 (putV mk s (p + k) f r).t.fs.length n2, .slice E3 (putV mk s (p + k) f r).c.ls.length n3, .int .i64 (putV mk s (p + k) f r).c.hand, .int .i64 (putV mk s (p + k) f r).g.count, .int .i64 (putV mk s (p + k) f r).g.next, .int .i64 (putV mk s (p + k) f r).g.round, .slice E4 (putV mk s (p + k) f r).g.os.length n4, .int .i64 (putV mk s (p + k) f r).sp] 34)
        have hR6 := HRB5.out.alloc (o := .cells #[.slice E1 (putV mk s (p + k) f r).t.bs.length n1, .slice E2 (putV mk s (p + k) f r).t.fs.length n2, .slice E3 (putV mk s (p + k) f r).c.ls.length n3, .int .i64 (putV mk s (p + k) f r).c.hand, .int .i64 (putV mk s (p + k) f r).g.count, .int .i64 (putV mk s (p + k) f r).g.next, .int .i64 (putV mk s (p + k) f r).g.round, .slice E4 (putV mk s (p + k) f r).g.os.length n4, .int .i64 (putV mk s (p + k) f r).sp] 34)
        have hN6 := Own.new_ w5 34 #[.slice E1 (putV mk s (p + k) f r).t.bs.length n1, .slice E2 (putV mk s (p + k) f r).t.fs.length n2, .slice E3 (putV mk s (p + k) f r).c.ls.length n3, .int .i64 (putV mk s (p + k) f r).c.hand, .int .i64 (putV mk s (p + k) f r).g.count, .int .i64 (putV mk s (p + k) f r).g.next, .int .i64 (putV mk s (p + k) f r).g.round, .slice E4 (putV mk s (p + k) f r).g.os.length n4, .int .i64 (putV mk s (p + k) f r).sp]
        have hM6 := HM5.out.now (bA (bR (w := w5)) (o := .cells #[.slice E1 (putV mk s (p + k) f r).t.bs.length n1, .slice E2 (putV mk s (p + k) f r).t.fs.length n2, .slice E3 (putV mk s (p + k) f r).c.ls.length n3, .int .i64 (putV mk s (p + k) f r).c.hand, .int .i64 (putV mk s (p + k) f r).g.count, .int .i64 (putV mk s (p + k) f r).g.next, .int .i64 (putV mk s (p + k) f r).g.round, .slice E4 (putV mk s (p + k) f r).g.os.length n4, .int .i64 (putV mk s (p + k) f r).sp] 34))
        have hB6 := bA HBW5.out (o := .cells #[.slice E1 (putV mk s (p + k) f r).t.bs.length n1, .slice E2 (putV mk s (p + k) f r).t.fs.length n2, .slice E3 (putV mk s (p + k) f r).c.ls.length n3, .int .i64 (putV mk s (p + k) f r).c.hand, .int .i64 (putV mk s (p + k) f r).g.count, .int .i64 (putV mk s (p + k) f r).g.next, .int .i64 (putV mk s (p + k) f r).g.round, .slice E4 (putV mk s (p + k) f r).g.os.length n4, .int .i64 (putV mk s (p + k) f r).sp] 34)
        clear y5 y0 p0z p1z p2z p3z p4z p5z p6z p7z p8z q0z q1z
        generalize hgn : w5.heap.size = gn at *
        have hne1 : w2.heap.size ≠ gn := by omega
        generalize hW6 : w5.alloc (.cells #[.slice E1 (putV mk s (p + k) f r).t.bs.length n1, .slice E2 (putV mk s (p + k) f r).t.fs.length n2, .slice E3 (putV mk s (p + k) f r).c.ls.length n3, .int .i64 (putV mk s (p + k) f r).c.hand, .int .i64 (putV mk s (p + k) f r).g.count, .int .i64 (putV mk s (p + k) f r).g.next, .int .i64 (putV mk s (p + k) f r).g.round, .slice E4 (putV mk s (p + k) f r).g.os.length n4, .int .i64 (putV mk s (p + k) f r).sp] 34) = w6 at *
        have HO6 := Lib.hid hO6
        have HK6 := Lib.hid hK6
        have HR6 := Lib.hid hR6
        have HN6 := Lib.hid hN6
        have HM6 := Lib.hid hM6
        have HB6 := Lib.hid hB6
        clear hO6 hK6 hR6 hN6 hM6 hB6
        have hl6 := HO6.out.lt
        have hl7 := HR6.out.lt
        have hl8 := HN6.out.lt
        cases hok : putOK mk s (p + k) f r with
        | false =>
          have HO : Hid (prgO m s p fs r = none) := by show _ = _; rw [prgO_yes h1 hi1 hi2]; exact putN_none (putN_bad hput.out EF.out hok) (by omega)
          have HA : Hid ((prgO m s p fs r).isSome = false) := by show _ = _; rw [HO.out]; rfl
          have HV : Hid (prgV m s p fs r = maz) := by show _ = _; unfold prgV; rw [HO.out]; rfl
          have r0x := HR6.out.cell_ 0 (v := .slice none 0 0) rfl
          have r1x := HR6.out.cell_ 1 (v := .slice none 0 0) rfl
          have r2x := HR6.out.cell_ 2 (v := .slice none 0 0) rfl
          have r3x := HR6.out.cell_ 3 (v := .int .i64 0) rfl
          have r4x := HR6.out.cell_ 4 (v := .int .i64 0) rfl
          have r5x := HR6.out.cell_ 5 (v := .int .i64 0) rfl
          have r6x := HR6.out.cell_ 6 (v := .int .i64 0) rfl
          have r7x := HR6.out.cell_ 7 (v := .slice none 0 0) rfl
          have r8x := HR6.out.cell_ 8 (v := .int .i64 0) rfl
          have z0x := HR6.out.free 0
          have z1x := HR6.out.free 1
          have z2x := HR6.out.free 2
          have z3x := HR6.out.free 3
          have z4x := HR6.out.free 4
          have z5x := HR6.out.free 5
          have z6x := HR6.out.free 6
          have z7x := HR6.out.free 7
          have z8x := HR6.out.free 8
          go_wp2
          have o3 := ((((((((HR6.out.set_ 0 (.slice none 0 0)).set_ 1 (.slice none 0 0)).set_ 2 (.slice none 0 0)).set_ 3 (.int .i64 0)).set_ 4 (.int .i64 0)).set_ 5 (.int .i64 0)).set_ 6 (.int .i64 0)).set_ 7 (.slice none 0 0)).set_ 8 (.int .i64 0)
          have t0 := o3.cell_ 0 (v := .slice none 0 0) (by simp)
          have t1 := o3.cell_ 1 (v := .slice none 0 0) (by simp)
          have t2 := o3.cell_ 2 (v := .slice none 0 0) (by simp)
          have t3 := o3.cell_ 3 (v := .int .i64 0) (by simp)
          have t4 := o3.cell_ 4 (v := .int .i64 0) (by simp)
          have t5 := o3.cell_ 5 (v := .int .i64 0) (by simp)
          have t6 := o3.cell_ 6 (v := .int .i64 0) (by simp)
          have t7 := o3.cell_ 7 (v := .slice none 0 0) (by simp)
          have t8 := o3.cell_ 8 (v := .int .i64 0) (by simp)
          refine bodyPost_ret (v := .tuple #[.agg #[.slice none 0 0, .slice none 0 0, .slice none 0 0, .int .i64 0, .int .i64 0, .int .i64 0, .int .i64 0, .slice none 0 0, .int .i64 0], .bool false]) (by simp [results, Tryz.results15, go_sem, t0, t1, t2, t3, t4, t5, t6, t7, t8]) rfl ⟨_, rfl, _, _, _, _, by rw [HA.out, HV.out]; rfl, by rw [HV.out]; exact mam_z, ?_⟩
          repeat (refine bS ?_ (by simp <;> omega))
          exact HB6.out
        | true =>
          have HPUT := Lib.hid (putN_step hput.out EF.out hok)
          have p0z := HO6.out.cell_ 0 (v := c1) rfl
          have p1z := HO6.out.cell_ 1 (v := c2) rfl
          have p2z := HO6.out.cell_ 2 (v := c3) rfl
          have p3z := HO6.out.cell_ 3 (v := .int .i64 mk.c.hand) rfl
          have p4z := HO6.out.cell_ 4 (v := .int .i64 mk.g.count) rfl
          have p5z := HO6.out.cell_ 5 (v := .int .i64 mk.g.next) rfl
          have p6z := HO6.out.cell_ 6 (v := .int .i64 mk.g.round) rfl
          have p7z := HO6.out.cell_ 7 (v := c4) rfl
          have p8z := HO6.out.cell_ 8 (v := .int .i64 mk.sp) rfl
          have w0z := HO6.out.free 0
          have w1z := HO6.out.free 1
          have w2z := HO6.out.free 2
          have w3z := HO6.out.free 3
          have w4z := HO6.out.free 4
          have w5z := HO6.out.free 5
          have w6z := HO6.out.free 6
          have w7z := HO6.out.free 7
          have w8z := HO6.out.free 8
          have p0n := HN6.out.cell_ 0 (v := .slice E1 (putV mk s (p + k) f r).t.bs.length n1) rfl
          have p1n := HN6.out.cell_ 1 (v := .slice E2 (putV mk s (p + k) f r).t.fs.length n2) rfl
          have p2n := HN6.out.cell_ 2 (v := .slice E3 (putV mk s (p + k) f r).c.ls.length n3) rfl
          have p3n := HN6.out.cell_ 3 (v := .int .i64 (putV mk s (p + k) f r).c.hand) rfl
          have p4n := HN6.out.cell_ 4 (v := .int .i64 (putV mk s (p + k) f r).g.count) rfl
          have p5n := HN6.out.cell_ 5 (v := .int .i64 (putV mk s (p + k) f r).g.next) rfl
          have p6n := HN6.out.cell_ 6 (v := .int .i64 (putV mk s (p + k) f r).g.round) rfl
          have p7n := HN6.out.cell_ 7 (v := .slice E4 (putV mk s (p + k) f r).g.os.length n4) rfl
          have p8n := HN6.out.cell_ 8 (v := .int .i64 (putV mk s (p + k) f r).sp) rfl
          go_wp2
          go_roundw
          case rel =>
            refine ⟨k + 1, putV mk s (p + k) f r, _, _, _, _, by omega, by go_num, HPUT, HO6.out.set9 _ _ _ _ _ _ _ _ _, HM6.out.far9 HO6.out _ _ _ _ _ _ _ _ _, HK6.out.far9 (by omega) _ _ _ _ _ _ _ _ _, HR6.out.far9 (by omega) _ _ _ _ _ _ _ _ _, ?_⟩
            repeat (refine bS ?_ (by simp <;> omega))
            exact HB6.out
          case measure => simp [intOf]; omega
      · have hN6 := HN5.out.set9 (.slice E1 (putV mk s (p + k) f r).t.bs.length n1) (.slice E2 (putV mk s (p + k) f r).t.fs.length n2) (.slice E3 (putV mk s (p + k) f r).c.ls.length n3) (.int .i64 (putV mk s (p + k) f r).c.hand) (.int .i64 (putV mk s (p + k) f r).g.count) (.int .i64 (putV mk s (p + k) f r).g.next) (.int .i64 (putV mk s (p + k) f r).g.round) (.slice E4 (putV mk s (p + k) f r).g.os.length n4) (.int .i64 (putV mk s (p + k) f r).sp)
        have hO6 := HOB5.out.far9 (g := wr.heap.size) (by omega) (.slice E1 (putV mk s (p + k) f r).t.bs.length n1) (.slice E2 (putV mk s (p + k) f r).t.fs.length n2) (.slice E3 (putV mk s (p + k) f r).c.ls.length n3) (.int .i64 (putV mk s (p + k) f r).c.hand) (.int .i64 (putV mk s (p + k) f r).g.count) (.int .i64 (putV mk s (p + k) f r).g.next) (.int .i64 (putV mk s (p + k) f r).g.round) (.slice E4 (putV mk s (p + k) f r).g.os.length n4) (.int .i64 (putV mk s (p + k) f r).sp)
        have hK6 := HKB5.out.far9 (g := wr.heap.size) (by omega) (.slice E1 (putV mk s (p + k) f r).t.bs.length n1) (.slice E2 (putV mk s (p + k) f r).t.fs.length n2) (.slice E3 (putV mk s (p + k) f r).c.ls.length n3) (.int .i64 (putV mk s (p + k) f r).c.hand) (.int .i64 (putV mk s (p + k) f r).g.count) (.int .i64 (putV mk s (p + k) f r).g.next) (.int .i64 (putV mk s (p + k) f r).g.round) (.slice E4 (putV mk s (p + k) f r).g.os.length n4) (.int .i64 (putV mk s (p + k) f r).sp)
        have hR6 := HRB5.out.far9 (g := wr.heap.size) (by omega) (.slice E1 (putV mk s (p + k) f r).t.bs.length n1) (.slice E2 (putV mk s (p + k) f r).t.fs.length n2) (.slice E3 (putV mk s (p + k) f r).c.ls.length n3) (.int .i64 (putV mk s (p + k) f r).c.hand) (.int .i64 (putV mk s (p + k) f r).g.count) (.int .i64 (putV mk s (p + k) f r).g.next) (.int .i64 (putV mk s (p + k) f r).g.round) (.slice E4 (putV mk s (p + k) f r).g.os.length n4) (.int .i64 (putV mk s (p + k) f r).sp)
        have hM6 := HM5.out.far9 HN5.out (.slice E1 (putV mk s (p + k) f r).t.bs.length n1) (.slice E2 (putV mk s (p + k) f r).t.fs.length n2) (.slice E3 (putV mk s (p + k) f r).c.ls.length n3) (.int .i64 (putV mk s (p + k) f r).c.hand) (.int .i64 (putV mk s (p + k) f r).g.count) (.int .i64 (putV mk s (p + k) f r).g.next) (.int .i64 (putV mk s (p + k) f r).g.round) (.slice E4 (putV mk s (p + k) f r).g.os.length n4) (.int .i64 (putV mk s (p + k) f r).sp)
        have hB6 : Below w.heap.size w (((((((((w5.setCell ⟨wr.heap.size, 0, none⟩ (.slice E1 (putV mk s (p + k) f r).t.bs.length n1)).setCell ⟨wr.heap.size, 1, none⟩ (.slice E2 (putV mk s (p + k) f r).t.fs.length n2)).setCell ⟨wr.heap.size, 2, none⟩ (.slice E3 (putV mk s (p + k) f r).c.ls.length n3)).setCell ⟨wr.heap.size, 3, none⟩ (.int .i64 (putV mk s (p + k) f r).c.hand)).setCell ⟨wr.heap.size, 4, none⟩ (.int .i64 (putV mk s (p + k) f r).g.count)).setCell ⟨wr.heap.size, 5, none⟩ (.int .i64 (putV mk s (p + k) f r).g.next)).setCell ⟨wr.heap.size, 6, none⟩ (.int .i64 (putV mk s (p + k) f r).g.round)).setCell ⟨wr.heap.size, 7, none⟩ (.slice E4 (putV mk s (p + k) f r).g.os.length n4)).setCell ⟨wr.heap.size, 8, none⟩ (.int .i64 (putV mk s (p + k) f r).sp)) := by
          repeat (refine bS ?_ (by simp <;> omega))
          exact HBW5.out
        clear y5 y0 p0z p1z p2z p3z p4z p5z p6z p7z p8z q0z q1z r0n r1n r2n r3n r4n r5n r6n r7n r8n z0n z1n z2n z3n z4n z5n z6n z7n z8n
        have hne1 : w2.heap.size ≠ wr.heap.size := by omega
        generalize hgn : wr.heap.size = gn at *
        generalize hW6 : ((((((((w5.setCell ⟨gn, 0, none⟩ (.slice E1 (putV mk s (p + k) f r).t.bs.length n1)).setCell ⟨gn, 1, none⟩ (.slice E2 (putV mk s (p + k) f r).t.fs.length n2)).setCell ⟨gn, 2, none⟩ (.slice E3 (putV mk s (p + k) f r).c.ls.length n3)).setCell ⟨gn, 3, none⟩ (.int .i64 (putV mk s (p + k) f r).c.hand)).setCell ⟨gn, 4, none⟩ (.int .i64 (putV mk s (p + k) f r).g.count)).setCell ⟨gn, 5, none⟩ (.int .i64 (putV mk s (p + k) f r).g.next)).setCell ⟨gn, 6, none⟩ (.int .i64 (putV mk s (p + k) f r).g.round)).setCell ⟨gn, 7, none⟩ (.slice E4 (putV mk s (p + k) f r).g.os.length n4)).setCell ⟨gn, 8, none⟩ (.int .i64 (putV mk s (p + k) f r).sp) = w6 at *
        have HO6 := Lib.hid hO6
        have HK6 := Lib.hid hK6
        have HR6 := Lib.hid hR6
        have HN6 := Lib.hid hN6
        have HM6 := Lib.hid hM6
        have HB6 := Lib.hid hB6
        clear hO6 hK6 hR6 hN6 hM6 hB6
        have hl6 := HO6.out.lt
        have hl7 := HR6.out.lt
        have hl8 := HN6.out.lt
        cases hok : putOK mk s (p + k) f r with
        | false =>
          have HO : Hid (prgO m s p fs r = none) := by show _ = _; rw [prgO_yes h1 hi1 hi2]; exact putN_none (putN_bad hput.out EF.out hok) (by omega)
          have HA : Hid ((prgO m s p fs r).isSome = false) := by show _ = _; rw [HO.out]; rfl
          have HV : Hid (prgV m s p fs r = maz) := by show _ = _; unfold prgV; rw [HO.out]; rfl
          have r0x := HR6.out.cell_ 0 (v := .slice none 0 0) rfl
          have r1x := HR6.out.cell_ 1 (v := .slice none 0 0) rfl
          have r2x := HR6.out.cell_ 2 (v := .slice none 0 0) rfl
          have r3x := HR6.out.cell_ 3 (v := .int .i64 0) rfl
          have r4x := HR6.out.cell_ 4 (v := .int .i64 0) rfl
          have r5x := HR6.out.cell_ 5 (v := .int .i64 0) rfl
          have r6x := HR6.out.cell_ 6 (v := .int .i64 0) rfl
          have r7x := HR6.out.cell_ 7 (v := .slice none 0 0) rfl
          have r8x := HR6.out.cell_ 8 (v := .int .i64 0) rfl
          have z0x := HR6.out.free 0
          have z1x := HR6.out.free 1
          have z2x := HR6.out.free 2
          have z3x := HR6.out.free 3
          have z4x := HR6.out.free 4
          have z5x := HR6.out.free 5
          have z6x := HR6.out.free 6
          have z7x := HR6.out.free 7
          have z8x := HR6.out.free 8
          go_wp2
          have o3 := ((((((((HR6.out.set_ 0 (.slice none 0 0)).set_ 1 (.slice none 0 0)).set_ 2 (.slice none 0 0)).set_ 3 (.int .i64 0)).set_ 4 (.int .i64 0)).set_ 5 (.int .i64 0)).set_ 6 (.int .i64 0)).set_ 7 (.slice none 0 0)).set_ 8 (.int .i64 0)
          have t0 := o3.cell_ 0 (v := .slice none 0 0) (by simp)
          have t1 := o3.cell_ 1 (v := .slice none 0 0) (by simp)
          have t2 := o3.cell_ 2 (v := .slice none 0 0) (by simp)
          have t3 := o3.cell_ 3 (v := .int .i64 0) (by simp)
          have t4 := o3.cell_ 4 (v := .int .i64 0) (by simp)
          have t5 := o3.cell_ 5 (v := .int .i64 0) (by simp)
          have t6 := o3.cell_ 6 (v := .int .i64 0) (by simp)
          have t7 := o3.cell_ 7 (v := .slice none 0 0) (by simp)
          have t8 := o3.cell_ 8 (v := .int .i64 0) (by simp)
          refine bodyPost_ret (v := .tuple #[.agg #[.slice none 0 0, .slice none 0 0, .slice none 0 0, .int .i64 0, .int .i64 0, .int .i64 0, .int .i64 0, .slice none 0 0, .int .i64 0], .bool false]) (by simp [results, Tryz.results15, go_sem, t0, t1, t2, t3, t4, t5, t6, t7, t8]) rfl ⟨_, rfl, _, _, _, _, by rw [HA.out, HV.out]; rfl, by rw [HV.out]; exact mam_z, ?_⟩
          repeat (refine bS ?_ (by simp <;> omega))
          exact HB6.out
        | true =>
          have HPUT := Lib.hid (putN_step hput.out EF.out hok)
          have p0z := HO6.out.cell_ 0 (v := c1) rfl
          have p1z := HO6.out.cell_ 1 (v := c2) rfl
          have p2z := HO6.out.cell_ 2 (v := c3) rfl
          have p3z := HO6.out.cell_ 3 (v := .int .i64 mk.c.hand) rfl
          have p4z := HO6.out.cell_ 4 (v := .int .i64 mk.g.count) rfl
          have p5z := HO6.out.cell_ 5 (v := .int .i64 mk.g.next) rfl
          have p6z := HO6.out.cell_ 6 (v := .int .i64 mk.g.round) rfl
          have p7z := HO6.out.cell_ 7 (v := c4) rfl
          have p8z := HO6.out.cell_ 8 (v := .int .i64 mk.sp) rfl
          have w0z := HO6.out.free 0
          have w1z := HO6.out.free 1
          have w2z := HO6.out.free 2
          have w3z := HO6.out.free 3
          have w4z := HO6.out.free 4
          have w5z := HO6.out.free 5
          have w6z := HO6.out.free 6
          have w7z := HO6.out.free 7
          have w8z := HO6.out.free 8
          have p0n := HN6.out.cell_ 0 (v := .slice E1 (putV mk s (p + k) f r).t.bs.length n1) rfl
          have p1n := HN6.out.cell_ 1 (v := .slice E2 (putV mk s (p + k) f r).t.fs.length n2) rfl
          have p2n := HN6.out.cell_ 2 (v := .slice E3 (putV mk s (p + k) f r).c.ls.length n3) rfl
          have p3n := HN6.out.cell_ 3 (v := .int .i64 (putV mk s (p + k) f r).c.hand) rfl
          have p4n := HN6.out.cell_ 4 (v := .int .i64 (putV mk s (p + k) f r).g.count) rfl
          have p5n := HN6.out.cell_ 5 (v := .int .i64 (putV mk s (p + k) f r).g.next) rfl
          have p6n := HN6.out.cell_ 6 (v := .int .i64 (putV mk s (p + k) f r).g.round) rfl
          have p7n := HN6.out.cell_ 7 (v := .slice E4 (putV mk s (p + k) f r).g.os.length n4) rfl
          have p8n := HN6.out.cell_ 8 (v := .int .i64 (putV mk s (p + k) f r).sp) rfl
          go_wp2
          go_roundw
          case rel =>
            refine ⟨k + 1, putV mk s (p + k) f r, _, _, _, _, by omega, by go_num, HPUT, HO6.out.set9 _ _ _ _ _ _ _ _ _, HM6.out.far9 HO6.out _ _ _ _ _ _ _ _ _, HK6.out.far9 (by omega) _ _ _ _ _ _ _ _ _, HR6.out.far9 (by omega) _ _ _ _ _ _ _ _ _, ?_⟩
            repeat (refine bS ?_ (by simp <;> omega))
            exact HB6.out
          case measure => simp [intOf]; omega
    · obtain rfl : k = fs.length := by omega
      have HO : Hid (prgO m s p fs r = some mk) := by show _ = _; rw [prgO_yes h1 hi1 hi2]; exact hput.out
      have HA : Hid ((prgO m s p fs r).isSome = true) := by show _ = _; rw [HO.out]; rfl
      have HV : Hid (prgV m s p fs r = mk) := by show _ = _; unfold prgV; rw [HO.out]; rfl
      obtain ⟨C1, n1, rfl, _⟩ := HMK.out.t.b
      obtain ⟨C2, n2, rfl, _⟩ := HMK.out.t.f
      obtain ⟨C3, n3, rfl, _⟩ := HMK.out.l
      obtain ⟨C4, n4, rfl, _⟩ := HMK.out.o
      have p0z := HOB.out.cell_ 0 (v := (.slice C1 mk.t.bs.length n1)) rfl
      have p1z := HOB.out.cell_ 1 (v := (.slice C2 mk.t.fs.length n2)) rfl
      have p2z := HOB.out.cell_ 2 (v := (.slice C3 mk.c.ls.length n3)) rfl
      have p3z := HOB.out.cell_ 3 (v := .int .i64 mk.c.hand) rfl
      have p4z := HOB.out.cell_ 4 (v := .int .i64 mk.g.count) rfl
      have p5z := HOB.out.cell_ 5 (v := .int .i64 mk.g.next) rfl
      have p6z := HOB.out.cell_ 6 (v := .int .i64 mk.g.round) rfl
      have p7z := HOB.out.cell_ 7 (v := (.slice C4 mk.g.os.length n4)) rfl
      have p8z := HOB.out.cell_ 8 (v := .int .i64 mk.sp) rfl
      have r0x := HRB.out.cell_ 0 (v := .slice none 0 0) rfl
      have r1x := HRB.out.cell_ 1 (v := .slice none 0 0) rfl
      have r2x := HRB.out.cell_ 2 (v := .slice none 0 0) rfl
      have r3x := HRB.out.cell_ 3 (v := .int .i64 0) rfl
      have r4x := HRB.out.cell_ 4 (v := .int .i64 0) rfl
      have r5x := HRB.out.cell_ 5 (v := .int .i64 0) rfl
      have r6x := HRB.out.cell_ 6 (v := .int .i64 0) rfl
      have r7x := HRB.out.cell_ 7 (v := .slice none 0 0) rfl
      have r8x := HRB.out.cell_ 8 (v := .int .i64 0) rfl
      have z0x := HRB.out.free 0
      have z1x := HRB.out.free 1
      have z2x := HRB.out.free 2
      have z3x := HRB.out.free 3
      have z4x := HRB.out.free 4
      have z5x := HRB.out.free 5
      have z6x := HRB.out.free 6
      have z7x := HRB.out.free 7
      have z8x := HRB.out.free 8
      have hgl := HOB.out.lt
      have hrl := HRB.out.lt
      go_wp2
      have o3 := HRB.out.set9 (.slice C1 mk.t.bs.length n1) (.slice C2 mk.t.fs.length n2) (.slice C3 mk.c.ls.length n3) (.int .i64 mk.c.hand) (.int .i64 mk.g.count) (.int .i64 mk.g.next) (.int .i64 mk.g.round) (.slice C4 mk.g.os.length n4) (.int .i64 mk.sp)
      have p0t := o3.cell_ 0 (v := (.slice C1 mk.t.bs.length n1)) rfl
      have p1t := o3.cell_ 1 (v := (.slice C2 mk.t.fs.length n2)) rfl
      have p2t := o3.cell_ 2 (v := (.slice C3 mk.c.ls.length n3)) rfl
      have p3t := o3.cell_ 3 (v := .int .i64 mk.c.hand) rfl
      have p4t := o3.cell_ 4 (v := .int .i64 mk.g.count) rfl
      have p5t := o3.cell_ 5 (v := .int .i64 mk.g.next) rfl
      have p6t := o3.cell_ 6 (v := .int .i64 mk.g.round) rfl
      have p7t := o3.cell_ 7 (v := (.slice C4 mk.g.os.length n4)) rfl
      have p8t := o3.cell_ 8 (v := .int .i64 mk.sp) rfl
      refine bodyPost_ret (v := .tuple #[.agg #[(.slice C1 mk.t.bs.length n1), (.slice C2 mk.t.fs.length n2), (.slice C3 mk.c.ls.length n3), .int .i64 mk.c.hand, .int .i64 mk.g.count, .int .i64 mk.g.next, .int .i64 mk.g.round, (.slice C4 mk.g.os.length n4), .int .i64 mk.sp], .bool true]) (by simp [results, Tryz.results15, go_sem, p0t, p1t, p2t, p3t, p4t, p5t, p6t, p7t, p8t]) rfl ⟨_, rfl, _, _, _, _, by rw [HA.out, HV.out], ?_, ?_⟩
      · rw [HV.out]
        exact (HMK.out.far9 HRB.out _ _ _ _ _ _ _ _ _).mono (by omega)
      · repeat (refine bS ?_ (by simp <;> omega))
        exact HBW.out
end Go.Proofs.YtnaagdmaggdbmaaGreatDoor
namespace Go.Proofs.YtnaagdmaggdbmaaGreatDoor
open Go.RowKit
set_option maxRecDepth 1000000
set_option maxHeartbeats 2000000 in
theorem PutRange1_any (vb vf vl vo : Value) (m : Ma) (i : Nat) (s p f r : Int) (gf gr : Nat) (A : Option Addr) (c : Nat) (fs : List Int) (w : World) (hM : MaR w vb vf vl vo m) (hfree : Free w) (hf : fs[i]? = some f) (hgf : gf < w.heap.size) (hgr : gr < w.heap.size)
    (hcf : w.cell? ⟨gf, 0, none⟩ = some (.slice A fs.length c)) (hcr : w.cell? ⟨gr, 0, none⟩ = some (.int .i64 r)) (hR : Rs intE w.heap.size w A fs) (hl : fs.length ≤ 16) :
    Calls Tryz.prog 51 #[.agg #[vb, vf, vl, .int .i64 m.c.hand, .int .i64 m.g.count, .int .i64 m.g.next, .int .i64 m.g.round, vo, .int .i64 m.sp], .int .i64 i, .agg #[.int .i64 s, .int .i64 p], .pointer (some ⟨gf, 0, none⟩), .pointer (some ⟨gr, 0, none⟩)] w (Post2 fun v w' => ∃ v1 v2 v3 v4, v = .tuple #[.agg #[v1, v2, v3, .int .i64 (putV m s p f r).c.hand, .int .i64 (putV m s p f r).g.count, .int .i64 (putV m s p f r).g.next, .int .i64 (putV m s p f r).g.round, v4, .int .i64 (putV m s p f r).sp], .bool (putOK m s p f r)] ∧ MaM w.heap.size w' v1 v2 v3 v4 (putV m s p f r) ∧ Below w.heap.size w w') := by
  have hbx := ((Own.new_ w 34 #[vb, vf, vl, .int .i64 m.c.hand, .int .i64 m.g.count, .int .i64 m.g.next, .int .i64 m.g.round, vo, .int .i64 m.sp]).alloc (o := .cells #[.int .i64 s, .int .i64 p] 36)).alloc (o := .cells #[.slice none 0 0, .slice none 0 0, .slice none 0 0, .int .i64 0, .int .i64 0, .int .i64 0, .int .i64 0, .slice none 0 0, .int .i64 0] 34)
  have hbk := (ownAt (W := w.alloc (.cells #[vb, vf, vl, .int .i64 m.c.hand, .int .i64 m.g.count, .int .i64 m.g.next, .int .i64 m.g.round, vo, .int .i64 m.sp] 34)) (g := w.heap.size + 1) (t := 36) (cs := #[.int .i64 s, .int .i64 p]) (by simp)).alloc (o := .cells #[.slice none 0 0, .slice none 0 0, .slice none 0 0, .int .i64 0, .int .i64 0, .int .i64 0, .int .i64 0, .slice none 0 0, .int .i64 0] 34)
  have hbo := ownAt (W := (w.alloc (.cells #[vb, vf, vl, .int .i64 m.c.hand, .int .i64 m.g.count, .int .i64 m.g.next, .int .i64 m.g.round, vo, .int .i64 m.sp] 34)).alloc (.cells #[.int .i64 s, .int .i64 p] 36)) (g := w.heap.size + 1 + 1) (t := 34) (cs := #[.slice none 0 0, .slice none 0 0, .slice none 0 0, .int .i64 0, .int .i64 0, .int .i64 0, .int .i64 0, .slice none 0 0, .int .i64 0]) (by simp)
  have hb0 : Below w.heap.size w (((w.alloc (.cells #[vb, vf, vl, .int .i64 m.c.hand, .int .i64 m.g.count, .int .i64 m.g.next, .int .i64 m.g.round, vo, .int .i64 m.sp] 34)).alloc (.cells #[.int .i64 s, .int .i64 p] 36)).alloc (.cells #[.slice none 0 0, .slice none 0 0, .slice none 0 0, .int .i64 0, .int .i64 0, .int .i64 0, .int .i64 0, .slice none 0 0, .int .i64 0] 34)) := bA (bA (bA bR))
  have hs0 : (((w.alloc (.cells #[vb, vf, vl, .int .i64 m.c.hand, .int .i64 m.g.count, .int .i64 m.g.next, .int .i64 m.g.round, vo, .int .i64 m.sp] 34)).alloc (.cells #[.int .i64 s, .int .i64 p] 36)).alloc (.cells #[.slice none 0 0, .slice none 0 0, .slice none 0 0, .int .i64 0, .int .i64 0, .int .i64 0, .int .i64 0, .slice none 0 0, .int .i64 0] 34)).heap.size = w.heap.size + 3 := by simp
  generalize hW : ((w.alloc (.cells #[vb, vf, vl, .int .i64 m.c.hand, .int .i64 m.g.count, .int .i64 m.g.next, .int .i64 m.g.round, vo, .int .i64 m.sp] 34)).alloc (.cells #[.int .i64 s, .int .i64 p] 36)).alloc (.cells #[.slice none 0 0, .slice none 0 0, .slice none 0 0, .int .i64 0, .int .i64 0, .int .i64 0, .int .i64 0, .slice none 0 0, .int .i64 0] 34) = W0 at hbx hbk hbo hb0 hs0
  have HX0 := Lib.hid hbx
  have HK0 := Lib.hid hbk
  have HR0 := Lib.hid hbo
  have HB0 := Lib.hid hb0
  have HS0 : Hid (w.heap.size + 3 ≤ W0.heap.size) := Nat.le_of_eq hs0.symm
  clear hbx hbk hbo hb0
  have HM := Lib.hid hM
  have HF := Lib.hid hfree
  obtain ⟨b5, o5, rfl, hb5, y0w⟩ := hR.i1 hf
  have hil := (List.getElem?_eq_some_iff.1 hf).1
  have y0 := (HB0.out.cell (p := ⟨b5, o5 + i, none⟩) hb5).trans y0w
  have y1 := (HB0.out.cell (p := ⟨gf, 0, none⟩) hgf).trans hcf
  have y2 := (HB0.out.cell (p := ⟨gr, 0, none⟩) hgr).trans hcr
  have m00 := HX0.out.cell_ 0 (v := vb) rfl
  have m10 := HX0.out.cell_ 1 (v := vf) rfl
  have m20 := HX0.out.cell_ 2 (v := vl) rfl
  have m30 := HX0.out.cell_ 3 (v := .int .i64 m.c.hand) rfl
  have m40 := HX0.out.cell_ 4 (v := .int .i64 m.g.count) rfl
  have m50 := HX0.out.cell_ 5 (v := .int .i64 m.g.next) rfl
  have m60 := HX0.out.cell_ 6 (v := .int .i64 m.g.round) rfl
  have m70 := HX0.out.cell_ 7 (v := vo) rfl
  have m80 := HX0.out.cell_ 8 (v := .int .i64 m.sp) rfl
  have k00 := HK0.out.cell_ 0 (v := .int .i64 s) rfl
  have k10 := HK0.out.cell_ 1 (v := .int .i64 p) rfl
  have HMV := Lib.hid (fun W (h : MaR W vb vf vl vo m) (hf : Free W) => PutPage_any vb vf vl vo m s p f r W h hf)
  have Y0 := Lib.hid y0
  have Y1 := Lib.hid y1
  have Y2 := Lib.hid y2
  clear hM hfree hR hf y0w
  go_enter Tryz.func51, Tryz.ntmps51
  go_wp2
  go_region_held_law (fun w' => w'.cell? ⟨w.heap.size, 0, none⟩ = some vb ∧ w'.cell? ⟨w.heap.size, 1, none⟩ = some vf ∧ w'.cell? ⟨w.heap.size, 2, none⟩ = some vl ∧ w'.cell? ⟨w.heap.size, 3, none⟩ = some (.int .i64 m.c.hand) ∧ w'.cell? ⟨w.heap.size, 4, none⟩ = some (.int .i64 m.g.count) ∧ w'.cell? ⟨w.heap.size, 5, none⟩ = some (.int .i64 m.g.next) ∧ w'.cell? ⟨w.heap.size, 6, none⟩ = some (.int .i64 m.g.round) ∧ w'.cell? ⟨w.heap.size, 7, none⟩ = some vo ∧ w'.cell? ⟨w.heap.size, 8, none⟩ = some (.int .i64 m.sp) ∧ w'.cell? ⟨w.heap.size + 1, 0, none⟩ = some (.int .i64 s) ∧ w'.cell? ⟨w.heap.size + 1, 1, none⟩ = some (.int .i64 p) ∧ w'.cell? ⟨gf, 0, none⟩ = some (.slice (some ⟨b5, o5, none⟩) fs.length c) ∧ w'.cell? ⟨gr, 0, none⟩ = some (.int .i64 r) ∧ w'.cell? ⟨b5, o5 + i, none⟩ = some (.int .i64 f)) (go_keep) (first
    | (go_at_call 52
       refine (HMV.out _ (HM.out.now (bD HB0.out)) (HF.out.now (bD HB0.out))).mono ?_
       rintro _ w1 ⟨_, rfl, e1, e2, e3, e4, rfl, hM1, hb1⟩
       have HB1 := Lib.hid (bT (bD HB0.out) hb1)
       have HX1 := Lib.hid (HX0.out.drew.below hb1)
       have HK1 := Lib.hid (HK0.out.drew.below hb1)
       have HR1 := Lib.hid (HR0.out.drew.below hb1)
       have HM1 := Lib.hid (hM1.mono (B' := w.heap.size + 3) (Nat.le_of_eq hs0.symm))
       have z0 := (hb1.cell (p := ⟨b5, o5 + i, none⟩) (Nat.lt_of_lt_of_le hb5 HB0.out.size)).trans (show W0.drew.cell? _ = _ from Y0.out)
       have z1 := (hb1.cell (p := ⟨gf, 0, none⟩) (Nat.lt_of_lt_of_le hgf HB0.out.size)).trans (show W0.drew.cell? _ = _ from Y1.out)
       have z2 := (hb1.cell (p := ⟨gr, 0, none⟩) (Nat.lt_of_lt_of_le hgr HB0.out.size)).trans (show W0.drew.cell? _ = _ from Y2.out)
       have m01 := HX1.out.cell_ 0 (v := vb) rfl
       have m11 := HX1.out.cell_ 1 (v := vf) rfl
       have m21 := HX1.out.cell_ 2 (v := vl) rfl
       have m31 := HX1.out.cell_ 3 (v := .int .i64 m.c.hand) rfl
       have m41 := HX1.out.cell_ 4 (v := .int .i64 m.g.count) rfl
       have m51 := HX1.out.cell_ 5 (v := .int .i64 m.g.next) rfl
       have m61 := HX1.out.cell_ 6 (v := .int .i64 m.g.round) rfl
       have m71 := HX1.out.cell_ 7 (v := vo) rfl
       have m81 := HX1.out.cell_ 8 (v := .int .i64 m.sp) rfl
       have k01 := HK1.out.cell_ 0 (v := .int .i64 s) rfl
       have k11 := HK1.out.cell_ 1 (v := .int .i64 p) rfl
       have r0x := HR1.out.cell_ 0 (v := .slice none 0 0) rfl
       have r1x := HR1.out.cell_ 1 (v := .slice none 0 0) rfl
       have r2x := HR1.out.cell_ 2 (v := .slice none 0 0) rfl
       have r3x := HR1.out.cell_ 3 (v := .int .i64 0) rfl
       have r4x := HR1.out.cell_ 4 (v := .int .i64 0) rfl
       have r5x := HR1.out.cell_ 5 (v := .int .i64 0) rfl
       have r6x := HR1.out.cell_ 6 (v := .int .i64 0) rfl
       have r7x := HR1.out.cell_ 7 (v := .slice none 0 0) rfl
       have r8x := HR1.out.cell_ 8 (v := .int .i64 0) rfl
       have z0x := HR1.out.free 0
       have z1x := HR1.out.free 1
       have z2x := HR1.out.free 2
       have z3x := HR1.out.free 3
       have z4x := HR1.out.free 4
       have z5x := HR1.out.free 5
       have z6x := HR1.out.free 6
       have z7x := HR1.out.free 7
       have z8x := HR1.out.free 8
       obtain ⟨E1, n1, rfl, _⟩ := HM1.out.t.b
       obtain ⟨E2, n2, rfl, _⟩ := HM1.out.t.f
       obtain ⟨E3, n3, rfl, _⟩ := HM1.out.l
       obtain ⟨E4, n4, rfl, _⟩ := HM1.out.o
       have h7x : w.heap.size + 1 + 1 ≠ w.heap.size := by omega
       have h8x : w.heap.size ≠ w.heap.size + 1 + 1 := by omega
       have h9x : w.heap.size + 1 + 1 ≠ w.heap.size + 1 := by omega
       have h10x : w.heap.size + 1 ≠ w.heap.size + 1 + 1 := by omega
       have h1x : w.heap.size + 1 + 1 ≠ b5 := by omega
       have h2x : w.heap.size + 1 + 1 ≠ gf := by omega
       have h3x : w.heap.size + 1 + 1 ≠ gr := by omega
       have h4x : b5 ≠ w.heap.size + 1 + 1 := by omega
       have h5x : gf ≠ w.heap.size + 1 + 1 := by omega
       have h6x : gr ≠ w.heap.size + 1 + 1 := by omega
       clear hM1 hb1 m00 m10 m20 m30 m40 m50 m60 m70 m80 k00 k10 y0 y1 y2))
  all_goals
    go_wp2
    have o3 := HR1.out.set9 (.slice E1 (putV m s p f r).t.bs.length n1) (.slice E2 (putV m s p f r).t.fs.length n2) (.slice E3 (putV m s p f r).c.ls.length n3) (.int .i64 (putV m s p f r).c.hand) (.int .i64 (putV m s p f r).g.count) (.int .i64 (putV m s p f r).g.next) (.int .i64 (putV m s p f r).g.round) (.slice E4 (putV m s p f r).g.os.length n4) (.int .i64 (putV m s p f r).sp)
    have p0t := o3.cell_ 0 (v := .slice E1 (putV m s p f r).t.bs.length n1) rfl
    have p1t := o3.cell_ 1 (v := .slice E2 (putV m s p f r).t.fs.length n2) rfl
    have p2t := o3.cell_ 2 (v := .slice E3 (putV m s p f r).c.ls.length n3) rfl
    have p3t := o3.cell_ 3 (v := .int .i64 (putV m s p f r).c.hand) rfl
    have p4t := o3.cell_ 4 (v := .int .i64 (putV m s p f r).g.count) rfl
    have p5t := o3.cell_ 5 (v := .int .i64 (putV m s p f r).g.next) rfl
    have p6t := o3.cell_ 6 (v := .int .i64 (putV m s p f r).g.round) rfl
    have p7t := o3.cell_ 7 (v := .slice E4 (putV m s p f r).g.os.length n4) rfl
    have p8t := o3.cell_ 8 (v := .int .i64 (putV m s p f r).sp) rfl
    refine bodyPost_ret (v := .tuple #[.agg #[.slice E1 (putV m s p f r).t.bs.length n1, .slice E2 (putV m s p f r).t.fs.length n2, .slice E3 (putV m s p f r).c.ls.length n3, .int .i64 (putV m s p f r).c.hand, .int .i64 (putV m s p f r).g.count, .int .i64 (putV m s p f r).g.next, .int .i64 (putV m s p f r).g.round, .slice E4 (putV m s p f r).g.os.length n4, .int .i64 (putV m s p f r).sp], .bool (putOK m s p f r)]) (by simp [results, Tryz.results51, go_sem, p0t, p1t, p2t, p3t, p4t, p5t, p6t, p7t, p8t]) rfl ⟨_, rfl, _, _, _, _, rfl, ?_, ?_⟩
    · exact (HM1.out.far9 HR1.out _ _ _ _ _ _ _ _ _).mono (by omega)
    · repeat (refine bS ?_ (by simp <;> omega))
      exact HB1.out
end Go.Proofs.YtnaagdmaggdbmaaGreatDoor
namespace Go.Proofs.YtnaagdmaggdbmaaGreatDoor
open Go.RowKit
set_option maxRecDepth 1000000
set_option maxHeartbeats 2000000 in
theorem putRanged_any (vb vf vl vo : Value) (m : Ma) (s p r : Int) (gf gr : Nat) (A : Option Addr) (c : Nat) (fs : List Int) (w : World) (hM : MaR w vb vf vl vo m) (hfree : Free w) (hgf : gf < w.heap.size) (hgr : gr < w.heap.size)
    (hcf : w.cell? ⟨gf, 0, none⟩ = some (.slice A fs.length c)) (hcr : w.cell? ⟨gr, 0, none⟩ = some (.int .i64 r)) (hR : Rs intE w.heap.size w A fs) (hl : fs.length ≤ 1048576) :
    Calls Tryz.prog 50 #[.agg #[vb, vf, vl, .int .i64 m.c.hand, .int .i64 m.g.count, .int .i64 m.g.next, .int .i64 m.g.round, vo, .int .i64 m.sp], .agg #[.int .i64 s, .int .i64 p], .int .i64 fs.length, .func (.func 51) #[] #[.pointer (some ⟨gf, 0, none⟩), .pointer (some ⟨gr, 0, none⟩)]] w (Post2 fun v w' => ∃ v1 v2 v3 v4, v = .tuple #[.agg #[v1, v2, v3, .int .i64 (prgV m s p fs r).c.hand, .int .i64 (prgV m s p fs r).g.count, .int .i64 (prgV m s p fs r).g.next, .int .i64 (prgV m s p fs r).g.round, v4, .int .i64 (prgV m s p fs r).sp], .bool (prgO m s p fs r).isSome] ∧ MaM w.heap.size w' v1 v2 v3 v4 (prgV m s p fs r) ∧ Below w.heap.size w w') := by
  have hbx := ((Own.new_ w 34 #[vb, vf, vl, .int .i64 m.c.hand, .int .i64 m.g.count, .int .i64 m.g.next, .int .i64 m.g.round, vo, .int .i64 m.sp]).alloc (o := .cells #[.int .i64 s, .int .i64 p] 36)).alloc (o := .cells #[.slice none 0 0, .slice none 0 0, .slice none 0 0, .int .i64 0, .int .i64 0, .int .i64 0, .int .i64 0, .slice none 0 0, .int .i64 0] 34)
  have hbk := (ownAt (W := w.alloc (.cells #[vb, vf, vl, .int .i64 m.c.hand, .int .i64 m.g.count, .int .i64 m.g.next, .int .i64 m.g.round, vo, .int .i64 m.sp] 34)) (g := w.heap.size + 1) (t := 36) (cs := #[.int .i64 s, .int .i64 p]) (by simp)).alloc (o := .cells #[.slice none 0 0, .slice none 0 0, .slice none 0 0, .int .i64 0, .int .i64 0, .int .i64 0, .int .i64 0, .slice none 0 0, .int .i64 0] 34)
  have hbo := ownAt (W := (w.alloc (.cells #[vb, vf, vl, .int .i64 m.c.hand, .int .i64 m.g.count, .int .i64 m.g.next, .int .i64 m.g.round, vo, .int .i64 m.sp] 34)).alloc (.cells #[.int .i64 s, .int .i64 p] 36)) (g := w.heap.size + 1 + 1) (t := 34) (cs := #[.slice none 0 0, .slice none 0 0, .slice none 0 0, .int .i64 0, .int .i64 0, .int .i64 0, .int .i64 0, .slice none 0 0, .int .i64 0]) (by simp)
  have hb0 : Below w.heap.size w (((w.alloc (.cells #[vb, vf, vl, .int .i64 m.c.hand, .int .i64 m.g.count, .int .i64 m.g.next, .int .i64 m.g.round, vo, .int .i64 m.sp] 34)).alloc (.cells #[.int .i64 s, .int .i64 p] 36)).alloc (.cells #[.slice none 0 0, .slice none 0 0, .slice none 0 0, .int .i64 0, .int .i64 0, .int .i64 0, .int .i64 0, .slice none 0 0, .int .i64 0] 34)) := bA (bA (bA bR))
  have hs0 : (((w.alloc (.cells #[vb, vf, vl, .int .i64 m.c.hand, .int .i64 m.g.count, .int .i64 m.g.next, .int .i64 m.g.round, vo, .int .i64 m.sp] 34)).alloc (.cells #[.int .i64 s, .int .i64 p] 36)).alloc (.cells #[.slice none 0 0, .slice none 0 0, .slice none 0 0, .int .i64 0, .int .i64 0, .int .i64 0, .int .i64 0, .slice none 0 0, .int .i64 0] 34)).heap.size = w.heap.size + 3 := by simp
  generalize hW : ((w.alloc (.cells #[vb, vf, vl, .int .i64 m.c.hand, .int .i64 m.g.count, .int .i64 m.g.next, .int .i64 m.g.round, vo, .int .i64 m.sp] 34)).alloc (.cells #[.int .i64 s, .int .i64 p] 36)).alloc (.cells #[.slice none 0 0, .slice none 0 0, .slice none 0 0, .int .i64 0, .int .i64 0, .int .i64 0, .int .i64 0, .slice none 0 0, .int .i64 0] 34) = W0 at hbx hbk hbo hb0 hs0
  have HX0 := Lib.hid hbx
  have HK0 := Lib.hid hbk
  have HR0 := Lib.hid hbo
  have HB0 := Lib.hid hb0
  have HS0 : Hid (w.heap.size + 3 ≤ W0.heap.size) := Nat.le_of_eq hs0.symm
  clear hbx hbk hbo hb0
  have HM := Lib.hid hM
  have HF := Lib.hid hfree
  have HRF := Lib.hid hR
  clear hM hfree hR
  have m00 := HX0.out.cell_ 0 (v := vb) rfl
  have m10 := HX0.out.cell_ 1 (v := vf) rfl
  have m20 := HX0.out.cell_ 2 (v := vl) rfl
  have m30 := HX0.out.cell_ 3 (v := .int .i64 m.c.hand) rfl
  have m40 := HX0.out.cell_ 4 (v := .int .i64 m.g.count) rfl
  have m50 := HX0.out.cell_ 5 (v := .int .i64 m.g.next) rfl
  have m60 := HX0.out.cell_ 6 (v := .int .i64 m.g.round) rfl
  have m70 := HX0.out.cell_ 7 (v := vo) rfl
  have m80 := HX0.out.cell_ 8 (v := .int .i64 m.sp) rfl
  go_enter Tryz.func50, Tryz.ntmps50
  go_wp2_with fail
  refine (MachineValid_any vb vf vl vo m _ (HM.out.now HB0.out) (HF.out.now HB0.out)).mono ?_
  rintro e w1 ⟨rfl, hb1⟩
  have HX1 := Lib.hid (HX0.out.below hb1)
  have HK1 := Lib.hid (HK0.out.below hb1)
  have HR1 := Lib.hid (HR0.out.below hb1)
  have HB1 := Lib.hid (bT HB0.out hb1)
  have HS1 := Lib.hid (Nat.le_trans HS0.out hb1.size)
  clear hb1
  clear m00 m10 m20 m30 m40 m50 m60 m70 m80
  cases h1 : mav m with
  | false =>
    have HO : Hid (prgO m s p fs r = none) := prgO_no (fun h => by rw [h1] at h; cases h.1)
    have HA : Hid ((prgO m s p fs r).isSome = false) := by show _ = _; rw [HO.out]; rfl
    have HV : Hid (prgV m s p fs r = maz) := by show _ = _; unfold prgV; rw [HO.out]; rfl
    have r0x := HR1.out.cell_ 0 (v := .slice none 0 0) rfl
    have r1x := HR1.out.cell_ 1 (v := .slice none 0 0) rfl
    have r2x := HR1.out.cell_ 2 (v := .slice none 0 0) rfl
    have r3x := HR1.out.cell_ 3 (v := .int .i64 0) rfl
    have r4x := HR1.out.cell_ 4 (v := .int .i64 0) rfl
    have r5x := HR1.out.cell_ 5 (v := .int .i64 0) rfl
    have r6x := HR1.out.cell_ 6 (v := .int .i64 0) rfl
    have r7x := HR1.out.cell_ 7 (v := .slice none 0 0) rfl
    have r8x := HR1.out.cell_ 8 (v := .int .i64 0) rfl
    have z0x := HR1.out.free 0
    have z1x := HR1.out.free 1
    have z2x := HR1.out.free 2
    have z3x := HR1.out.free 3
    have z4x := HR1.out.free 4
    have z5x := HR1.out.free 5
    have z6x := HR1.out.free 6
    have z7x := HR1.out.free 7
    have z8x := HR1.out.free 8
    go_wp2
    have o3 := ((((((((HR1.out.set_ 0 (.slice none 0 0)).set_ 1 (.slice none 0 0)).set_ 2 (.slice none 0 0)).set_ 3 (.int .i64 0)).set_ 4 (.int .i64 0)).set_ 5 (.int .i64 0)).set_ 6 (.int .i64 0)).set_ 7 (.slice none 0 0)).set_ 8 (.int .i64 0)
    have t0 := o3.cell_ 0 (v := .slice none 0 0) (by simp)
    have t1 := o3.cell_ 1 (v := .slice none 0 0) (by simp)
    have t2 := o3.cell_ 2 (v := .slice none 0 0) (by simp)
    have t3 := o3.cell_ 3 (v := .int .i64 0) (by simp)
    have t4 := o3.cell_ 4 (v := .int .i64 0) (by simp)
    have t5 := o3.cell_ 5 (v := .int .i64 0) (by simp)
    have t6 := o3.cell_ 6 (v := .int .i64 0) (by simp)
    have t7 := o3.cell_ 7 (v := .slice none 0 0) (by simp)
    have t8 := o3.cell_ 8 (v := .int .i64 0) (by simp)
    refine bodyPost_ret (v := .tuple #[.agg #[.slice none 0 0, .slice none 0 0, .slice none 0 0, .int .i64 0, .int .i64 0, .int .i64 0, .int .i64 0, .slice none 0 0, .int .i64 0], .bool false]) (by simp [results, Tryz.results50, go_sem, t0, t1, t2, t3, t4, t5, t6, t7, t8]) rfl ⟨_, rfl, _, _, _, _, by rw [HA.out, HV.out]; rfl, by rw [HV.out]; exact mam_z, ?_⟩
    repeat (refine bS ?_ (by simp <;> omega))
    exact HB1.out
  | true =>
  have k01 := HK1.out.cell_ 0 (v := .int .i64 s) rfl
  have k11 := HK1.out.cell_ 1 (v := .int .i64 p) rfl
  go_wp2_with fail
  refine (keyValid_any s p _).mono ?_
  rintro e w2 ⟨rfl, hb2⟩
  have HX2 := Lib.hid (HX1.out.below hb2)
  have HK2 := Lib.hid (HK1.out.below hb2)
  have HR2 := Lib.hid (HR1.out.below hb2)
  have HB2 := Lib.hid (bT HB1.out hb2)
  have HS2 := Lib.hid (Nat.le_trans HS1.out hb2.size)
  clear hb2
  clear k01 k11
  cases h2k : kval (s, p) with
  | false =>
    have HO : Hid (prgO m s p fs r = none) := by
      show _ = _
      by_cases h : mav m = true ∧ 1 ≤ fs.length ∧ fs.length ≤ 16
      · rw [prgO_yes h.1 h.2.1 h.2.2]
        cases e : putN s p r fs m fs.length with
        | none => rfl
        | some m' =>
          obtain ⟨j, hj⟩ : ∃ j, fs.length = j + 1 := ⟨fs.length - 1, by omega⟩
          rw [hj] at e
          rw [putN_kval e] at h2k
          cases h2k
      · exact prgO_no h
    have HA : Hid ((prgO m s p fs r).isSome = false) := by show _ = _; rw [HO.out]; rfl
    have HV : Hid (prgV m s p fs r = maz) := by show _ = _; unfold prgV; rw [HO.out]; rfl
    have r0x := HR2.out.cell_ 0 (v := .slice none 0 0) rfl
    have r1x := HR2.out.cell_ 1 (v := .slice none 0 0) rfl
    have r2x := HR2.out.cell_ 2 (v := .slice none 0 0) rfl
    have r3x := HR2.out.cell_ 3 (v := .int .i64 0) rfl
    have r4x := HR2.out.cell_ 4 (v := .int .i64 0) rfl
    have r5x := HR2.out.cell_ 5 (v := .int .i64 0) rfl
    have r6x := HR2.out.cell_ 6 (v := .int .i64 0) rfl
    have r7x := HR2.out.cell_ 7 (v := .slice none 0 0) rfl
    have r8x := HR2.out.cell_ 8 (v := .int .i64 0) rfl
    have z0x := HR2.out.free 0
    have z1x := HR2.out.free 1
    have z2x := HR2.out.free 2
    have z3x := HR2.out.free 3
    have z4x := HR2.out.free 4
    have z5x := HR2.out.free 5
    have z6x := HR2.out.free 6
    have z7x := HR2.out.free 7
    have z8x := HR2.out.free 8
    go_wp2
    have o3 := ((((((((HR2.out.set_ 0 (.slice none 0 0)).set_ 1 (.slice none 0 0)).set_ 2 (.slice none 0 0)).set_ 3 (.int .i64 0)).set_ 4 (.int .i64 0)).set_ 5 (.int .i64 0)).set_ 6 (.int .i64 0)).set_ 7 (.slice none 0 0)).set_ 8 (.int .i64 0)
    have t0 := o3.cell_ 0 (v := .slice none 0 0) (by simp)
    have t1 := o3.cell_ 1 (v := .slice none 0 0) (by simp)
    have t2 := o3.cell_ 2 (v := .slice none 0 0) (by simp)
    have t3 := o3.cell_ 3 (v := .int .i64 0) (by simp)
    have t4 := o3.cell_ 4 (v := .int .i64 0) (by simp)
    have t5 := o3.cell_ 5 (v := .int .i64 0) (by simp)
    have t6 := o3.cell_ 6 (v := .int .i64 0) (by simp)
    have t7 := o3.cell_ 7 (v := .slice none 0 0) (by simp)
    have t8 := o3.cell_ 8 (v := .int .i64 0) (by simp)
    refine bodyPost_ret (v := .tuple #[.agg #[.slice none 0 0, .slice none 0 0, .slice none 0 0, .int .i64 0, .int .i64 0, .int .i64 0, .int .i64 0, .slice none 0 0, .int .i64 0], .bool false]) (by simp [results, Tryz.results50, go_sem, t0, t1, t2, t3, t4, t5, t6, t7, t8]) rfl ⟨_, rfl, _, _, _, _, by rw [HA.out, HV.out]; rfl, by rw [HV.out]; exact mam_z, ?_⟩
    repeat (refine bS ?_ (by simp <;> omega))
    exact HB2.out
  | true =>
  by_cases h2 : fs.length < 1
  · have HO : Hid (prgO m s p fs r = none) := prgO_no (fun h => by omega)
    have HA : Hid ((prgO m s p fs r).isSome = false) := by show _ = _; rw [HO.out]; rfl
    have HV : Hid (prgV m s p fs r = maz) := by show _ = _; unfold prgV; rw [HO.out]; rfl
    have r0x := HR2.out.cell_ 0 (v := .slice none 0 0) rfl
    have r1x := HR2.out.cell_ 1 (v := .slice none 0 0) rfl
    have r2x := HR2.out.cell_ 2 (v := .slice none 0 0) rfl
    have r3x := HR2.out.cell_ 3 (v := .int .i64 0) rfl
    have r4x := HR2.out.cell_ 4 (v := .int .i64 0) rfl
    have r5x := HR2.out.cell_ 5 (v := .int .i64 0) rfl
    have r6x := HR2.out.cell_ 6 (v := .int .i64 0) rfl
    have r7x := HR2.out.cell_ 7 (v := .slice none 0 0) rfl
    have r8x := HR2.out.cell_ 8 (v := .int .i64 0) rfl
    have z0x := HR2.out.free 0
    have z1x := HR2.out.free 1
    have z2x := HR2.out.free 2
    have z3x := HR2.out.free 3
    have z4x := HR2.out.free 4
    have z5x := HR2.out.free 5
    have z6x := HR2.out.free 6
    have z7x := HR2.out.free 7
    have z8x := HR2.out.free 8
    go_wp2
    have o3 := ((((((((HR2.out.set_ 0 (.slice none 0 0)).set_ 1 (.slice none 0 0)).set_ 2 (.slice none 0 0)).set_ 3 (.int .i64 0)).set_ 4 (.int .i64 0)).set_ 5 (.int .i64 0)).set_ 6 (.int .i64 0)).set_ 7 (.slice none 0 0)).set_ 8 (.int .i64 0)
    have t0 := o3.cell_ 0 (v := .slice none 0 0) (by simp)
    have t1 := o3.cell_ 1 (v := .slice none 0 0) (by simp)
    have t2 := o3.cell_ 2 (v := .slice none 0 0) (by simp)
    have t3 := o3.cell_ 3 (v := .int .i64 0) (by simp)
    have t4 := o3.cell_ 4 (v := .int .i64 0) (by simp)
    have t5 := o3.cell_ 5 (v := .int .i64 0) (by simp)
    have t6 := o3.cell_ 6 (v := .int .i64 0) (by simp)
    have t7 := o3.cell_ 7 (v := .slice none 0 0) (by simp)
    have t8 := o3.cell_ 8 (v := .int .i64 0) (by simp)
    refine bodyPost_ret (v := .tuple #[.agg #[.slice none 0 0, .slice none 0 0, .slice none 0 0, .int .i64 0, .int .i64 0, .int .i64 0, .int .i64 0, .slice none 0 0, .int .i64 0], .bool false]) (by simp [results, Tryz.results50, go_sem, t0, t1, t2, t3, t4, t5, t6, t7, t8]) rfl ⟨_, rfl, _, _, _, _, by rw [HA.out, HV.out]; rfl, by rw [HV.out]; exact mam_z, ?_⟩
    repeat (refine bS ?_ (by simp <;> omega))
    exact HB2.out
  by_cases h3 : 16 < fs.length
  · have HO : Hid (prgO m s p fs r = none) := prgO_no (fun h => by omega)
    have HA : Hid ((prgO m s p fs r).isSome = false) := by show _ = _; rw [HO.out]; rfl
    have HV : Hid (prgV m s p fs r = maz) := by show _ = _; unfold prgV; rw [HO.out]; rfl
    have r0x := HR2.out.cell_ 0 (v := .slice none 0 0) rfl
    have r1x := HR2.out.cell_ 1 (v := .slice none 0 0) rfl
    have r2x := HR2.out.cell_ 2 (v := .slice none 0 0) rfl
    have r3x := HR2.out.cell_ 3 (v := .int .i64 0) rfl
    have r4x := HR2.out.cell_ 4 (v := .int .i64 0) rfl
    have r5x := HR2.out.cell_ 5 (v := .int .i64 0) rfl
    have r6x := HR2.out.cell_ 6 (v := .int .i64 0) rfl
    have r7x := HR2.out.cell_ 7 (v := .slice none 0 0) rfl
    have r8x := HR2.out.cell_ 8 (v := .int .i64 0) rfl
    have z0x := HR2.out.free 0
    have z1x := HR2.out.free 1
    have z2x := HR2.out.free 2
    have z3x := HR2.out.free 3
    have z4x := HR2.out.free 4
    have z5x := HR2.out.free 5
    have z6x := HR2.out.free 6
    have z7x := HR2.out.free 7
    have z8x := HR2.out.free 8
    go_wp2
    have o3 := ((((((((HR2.out.set_ 0 (.slice none 0 0)).set_ 1 (.slice none 0 0)).set_ 2 (.slice none 0 0)).set_ 3 (.int .i64 0)).set_ 4 (.int .i64 0)).set_ 5 (.int .i64 0)).set_ 6 (.int .i64 0)).set_ 7 (.slice none 0 0)).set_ 8 (.int .i64 0)
    have t0 := o3.cell_ 0 (v := .slice none 0 0) (by simp)
    have t1 := o3.cell_ 1 (v := .slice none 0 0) (by simp)
    have t2 := o3.cell_ 2 (v := .slice none 0 0) (by simp)
    have t3 := o3.cell_ 3 (v := .int .i64 0) (by simp)
    have t4 := o3.cell_ 4 (v := .int .i64 0) (by simp)
    have t5 := o3.cell_ 5 (v := .int .i64 0) (by simp)
    have t6 := o3.cell_ 6 (v := .int .i64 0) (by simp)
    have t7 := o3.cell_ 7 (v := .slice none 0 0) (by simp)
    have t8 := o3.cell_ 8 (v := .int .i64 0) (by simp)
    refine bodyPost_ret (v := .tuple #[.agg #[.slice none 0 0, .slice none 0 0, .slice none 0 0, .int .i64 0, .int .i64 0, .int .i64 0, .int .i64 0, .slice none 0 0, .int .i64 0], .bool false]) (by simp [results, Tryz.results50, go_sem, t0, t1, t2, t3, t4, t5, t6, t7, t8]) rfl ⟨_, rfl, _, _, _, _, by rw [HA.out, HV.out]; rfl, by rw [HV.out]; exact mam_z, ?_⟩
    repeat (refine bS ?_ (by simp <;> omega))
    exact HB2.out
  have hi1 : 1 ≤ fs.length := by omega
  have hi2 : fs.length ≤ 16 := by omega
  obtain ⟨B1, d1, rfl, _⟩ := HM.out.t.b
  obtain ⟨B2, d2, rfl, _⟩ := HM.out.t.f
  obtain ⟨B3, d3, rfl, _⟩ := HM.out.l
  obtain ⟨B4, d4, rfl, _⟩ := HM.out.o
  have p0m := HX2.out.cell_ 0 (v := .slice B1 m.t.bs.length d1) rfl
  have p1m := HX2.out.cell_ 1 (v := .slice B2 m.t.fs.length d2) rfl
  have p2m := HX2.out.cell_ 2 (v := .slice B3 m.c.ls.length d3) rfl
  have p3m := HX2.out.cell_ 3 (v := .int .i64 m.c.hand) rfl
  have p4m := HX2.out.cell_ 4 (v := .int .i64 m.g.count) rfl
  have p5m := HX2.out.cell_ 5 (v := .int .i64 m.g.next) rfl
  have p6m := HX2.out.cell_ 6 (v := .int .i64 m.g.round) rfl
  have p7m := HX2.out.cell_ 7 (v := .slice B4 m.g.os.length d4) rfl
  have p8m := HX2.out.cell_ 8 (v := .int .i64 m.sp) rfl
  have hkv := kval_iff.1 h2k
  have HO2 := Lib.hid (Own.new_ w2 34 #[.slice B1 m.t.bs.length d1, .slice B2 m.t.fs.length d2, .slice B3 m.c.ls.length d3, .int .i64 m.c.hand, .int .i64 m.g.count, .int .i64 m.g.next, .int .i64 m.g.round, .slice B4 m.g.os.length d4, .int .i64 m.sp])
  have HK3 := Lib.hid (HK2.out.alloc (o := .cells #[.slice B1 m.t.bs.length d1, .slice B2 m.t.fs.length d2, .slice B3 m.c.ls.length d3, .int .i64 m.c.hand, .int .i64 m.g.count, .int .i64 m.g.next, .int .i64 m.g.round, .slice B4 m.g.os.length d4, .int .i64 m.sp] 34))
  have HR3 := Lib.hid (HR2.out.alloc (o := .cells #[.slice B1 m.t.bs.length d1, .slice B2 m.t.fs.length d2, .slice B3 m.c.ls.length d3, .int .i64 m.c.hand, .int .i64 m.g.count, .int .i64 m.g.next, .int .i64 m.g.round, .slice B4 m.g.os.length d4, .int .i64 m.sp] 34))
  have HM3 := Lib.hid (HM.out.now (bA HB2.out (o := .cells #[.slice B1 m.t.bs.length d1, .slice B2 m.t.fs.length d2, .slice B3 m.c.ls.length d3, .int .i64 m.c.hand, .int .i64 m.g.count, .int .i64 m.g.next, .int .i64 m.g.round, .slice B4 m.g.os.length d4, .int .i64 m.sp] 34)))
  have HB3 := Lib.hid (bA HB2.out (o := .cells #[.slice B1 m.t.bs.length d1, .slice B2 m.t.fs.length d2, .slice B3 m.c.ls.length d3, .int .i64 m.c.hand, .int .i64 m.g.count, .int .i64 m.g.next, .int .i64 m.g.round, .slice B4 m.g.os.length d4, .int .i64 m.sp] 34))
  have hgb := HR2.out.lt
  have hs2 := HS2.out
  go_wp2
  clear p0m p1m p2m p3m p4m p5m p6m p7m p8m
  go_loopw [33] (fun u wr => ∃ (k : Nat) (mk : Ma) (c1 c2 c3 c4 : Value), k ≤ fs.length ∧ u = .int .i64 k ∧ Hid (putN s p r fs m k = some mk) ∧ Own wr w2.heap.size 34 #[c1, c2, c3, .int .i64 mk.c.hand, .int .i64 mk.g.count, .int .i64 mk.g.next, .int .i64 mk.g.round, c4, .int .i64 mk.sp] ∧ MaR wr c1 c2 c3 c4 mk ∧ Hid (0 < k → MaM (w.heap.size + 3) wr c1 c2 c3 c4 mk) ∧ Own wr (w.heap.size + 1) 36 #[.int .i64 s, .int .i64 p] ∧ Own wr (w.heap.size + 1 + 1) 34 #[.slice none 0 0, .slice none 0 0, .slice none 0 0, .int .i64 0, .int .i64 0, .int .i64 0, .int .i64 0, .slice none 0 0, .int .i64 0] ∧ Below w.heap.size w wr) (fun u _ => fs.length - (intOf u).toNat)
  case atStart => exact ⟨0, m, _, _, _, _, by omega, rfl, rfl, HO2.out, HM3.out, (fun h => absurd h (by omega)), HK3.out, HR3.out, HB3.out⟩
  case round =>
    obtain ⟨k, mk, c1, c2, c3, c4, hk, rfl, hput, hob, hmk, hmm, hkb, hrb, hbw⟩ := hrel
    have HOB := Lib.hid hob
    have HMK := Lib.hid hmk
    have HKB := Lib.hid hkb
    have HRB := Lib.hid hrb
    have HBW := Lib.hid hbw
    clear hob hmk hkb hrb hbw
    by_cases hlt : k < fs.length
    · obtain ⟨f, ef⟩ : ∃ f, fs[k]? = some f := ⟨_, List.getElem?_eq_getElem hlt⟩
      have hwk : IntKind.i64.wrap (p + (k : Int)) = p + k := IntWalk.i64_in _ (by omega)
      have EF := Lib.hid ef
      have HC := Lib.hid (PutRange1_any c1 c2 c3 c4 mk k s (p + k) f r gf gr A c fs wr HMK.out (HF.out.now HBW.out) ef (Nat.lt_of_lt_of_le hgf HBW.out.size) (Nat.lt_of_lt_of_le hgr HBW.out.size) ((HBW.out.cell (p := ⟨gf, 0, none⟩) hgf).trans hcf) ((HBW.out.cell (p := ⟨gr, 0, none⟩) hgr).trans hcr) (HRF.out.now (Nat.le_refl _) HBW.out) hi2)
      have p0y := HOB.out.cell_ 0 (v := c1) rfl
      have p1y := HOB.out.cell_ 1 (v := c2) rfl
      have p2y := HOB.out.cell_ 2 (v := c3) rfl
      have p3y := HOB.out.cell_ 3 (v := .int .i64 mk.c.hand) rfl
      have p4y := HOB.out.cell_ 4 (v := .int .i64 mk.g.count) rfl
      have p5y := HOB.out.cell_ 5 (v := .int .i64 mk.g.next) rfl
      have p6y := HOB.out.cell_ 6 (v := .int .i64 mk.g.round) rfl
      have p7y := HOB.out.cell_ 7 (v := c4) rfl
      have p8y := HOB.out.cell_ 8 (v := .int .i64 mk.sp) rfl
      have q0 := HKB.out.cell_ 0 (v := .int .i64 s) rfl
      have q1 := HKB.out.cell_ 1 (v := .int .i64 p) rfl
      clear ef
      go_wp2_with fail
      refine HC.out.mono ?_
      rintro e w5 ⟨_, rfl, e1, e2, e3, e4, rfl, hM5, hb5⟩
      have hsw : w.heap.size + 3 ≤ wr.heap.size := Nat.le_trans hs2 (Nat.le_of_lt HOB.out.lt)
      have HM5 := Lib.hid (hM5.mono hsw)
      obtain ⟨E1, n1, rfl, _⟩ := HM5.out.t.b
      obtain ⟨E2, n2, rfl, _⟩ := HM5.out.t.f
      obtain ⟨E3, n3, rfl, _⟩ := HM5.out.l
      obtain ⟨E4, n4, rfl, _⟩ := HM5.out.o
      have HOB5 := HOB.out.below hb5
      have hgl5 := HOB5.lt
      have hO6 := HOB5.alloc (o := .cells #[.slice E1 (putV mk s (p + k) f r).t.bs.length n1, .slice E2 (putV mk s (p + k) f r).t.fs.length n2, .slice E3 (putV mk s (p + k) f r).c.ls.length n3, .int .i64 (putV mk s (p + k) f r).c.hand, .int .i64 (putV mk s (p + k) f r).g.count, .int .i64 (putV mk s (p + k) f r).g.next, .int .i64 (putV mk s (p + k) f r).g.round, .slice E4 (putV mk s (p + k) f r).g.os.length n4, .int .i64 (putV mk s (p + k) f r).sp] 34)
      have hK6 := (HKB.out.below hb5).alloc (o := .cells #[.slice E1 (putV mk s (p + k) f r).t.bs.length n1, .slice E2 (putV mk s (p + k) f r).t.fs.length n2, .slice E3 (putV mk s (p + k) f r).c.ls.length n3, .int .i64 (putV mk s (p + k) f r).c.hand, .int .i64 (putV mk s (p + k) f r).g.count, .int .i64 (putV mk s (p + k) f r).g.next, .int .i64 (putV mk s (p + k) f r).g.round, .slice E4 (putV mk s (p + k) f r).g.os.length n4, .int .i64 (putV mk s (p + k) f r).sp] 34)
      have hR6 := (HRB.out.below hb5).alloc (o := .cells #[.slice E1 (putV mk s (p + k) f r).t.bs.length n1, .slice E2 (putV mk s (p + k) f r).t.fs.length n2, .slice E3 (putV mk s (p + k) f r).c.ls.length n3, .int .i64 (putV mk s (p + k) f r).c.hand, .int .i64 (putV mk s (p + k) f r).g.count, .int .i64 (putV mk s (p + k) f r).g.next, .int .i64 (putV mk s (p + k) f r).g.round, .slice E4 (putV mk s (p + k) f r).g.os.length n4, .int .i64 (putV mk s (p + k) f r).sp] 34)
      have hN6 := Own.new_ w5 34 #[.slice E1 (putV mk s (p + k) f r).t.bs.length n1, .slice E2 (putV mk s (p + k) f r).t.fs.length n2, .slice E3 (putV mk s (p + k) f r).c.ls.length n3, .int .i64 (putV mk s (p + k) f r).c.hand, .int .i64 (putV mk s (p + k) f r).g.count, .int .i64 (putV mk s (p + k) f r).g.next, .int .i64 (putV mk s (p + k) f r).g.round, .slice E4 (putV mk s (p + k) f r).g.os.length n4, .int .i64 (putV mk s (p + k) f r).sp]
      have hM6 := HM5.out.now (bA (bR (w := w5)) (o := .cells #[.slice E1 (putV mk s (p + k) f r).t.bs.length n1, .slice E2 (putV mk s (p + k) f r).t.fs.length n2, .slice E3 (putV mk s (p + k) f r).c.ls.length n3, .int .i64 (putV mk s (p + k) f r).c.hand, .int .i64 (putV mk s (p + k) f r).g.count, .int .i64 (putV mk s (p + k) f r).g.next, .int .i64 (putV mk s (p + k) f r).g.round, .slice E4 (putV mk s (p + k) f r).g.os.length n4, .int .i64 (putV mk s (p + k) f r).sp] 34))
      have hB6 := bA (bT HBW.out hb5) (o := .cells #[.slice E1 (putV mk s (p + k) f r).t.bs.length n1, .slice E2 (putV mk s (p + k) f r).t.fs.length n2, .slice E3 (putV mk s (p + k) f r).c.ls.length n3, .int .i64 (putV mk s (p + k) f r).c.hand, .int .i64 (putV mk s (p + k) f r).g.count, .int .i64 (putV mk s (p + k) f r).g.next, .int .i64 (putV mk s (p + k) f r).g.round, .slice E4 (putV mk s (p + k) f r).g.os.length n4, .int .i64 (putV mk s (p + k) f r).sp] 34)
      clear p0y p1y p2y p3y p4y p5y p6y p7y p8y q0 q1 hM5 hb5 HOB5
      have hne1 : w2.heap.size ≠ w5.heap.size := by omega
      generalize hW6 : w5.alloc (.cells #[.slice E1 (putV mk s (p + k) f r).t.bs.length n1, .slice E2 (putV mk s (p + k) f r).t.fs.length n2, .slice E3 (putV mk s (p + k) f r).c.ls.length n3, .int .i64 (putV mk s (p + k) f r).c.hand, .int .i64 (putV mk s (p + k) f r).g.count, .int .i64 (putV mk s (p + k) f r).g.next, .int .i64 (putV mk s (p + k) f r).g.round, .slice E4 (putV mk s (p + k) f r).g.os.length n4, .int .i64 (putV mk s (p + k) f r).sp] 34) = w6 at *
      have HO6 := Lib.hid hO6
      have HK6 := Lib.hid hK6
      have HR6 := Lib.hid hR6
      have HN6 := Lib.hid hN6
      have HM6 := Lib.hid hM6
      have HB6 := Lib.hid hB6
      clear hO6 hK6 hR6 hN6 hM6 hB6
      have hl6 := HO6.out.lt
      have hl7 := HR6.out.lt
      have hl8 := HN6.out.lt
      cases hok : putOK mk s (p + k) f r with
      | false =>
        have HO : Hid (prgO m s p fs r = none) := by show _ = _; rw [prgO_yes h1 hi1 hi2]; exact putN_none (putN_bad hput.out EF.out hok) (by omega)
        have HA : Hid ((prgO m s p fs r).isSome = false) := by show _ = _; rw [HO.out]; rfl
        have HV : Hid (prgV m s p fs r = maz) := by show _ = _; unfold prgV; rw [HO.out]; rfl
        have r0x := HR6.out.cell_ 0 (v := .slice none 0 0) rfl
        have r1x := HR6.out.cell_ 1 (v := .slice none 0 0) rfl
        have r2x := HR6.out.cell_ 2 (v := .slice none 0 0) rfl
        have r3x := HR6.out.cell_ 3 (v := .int .i64 0) rfl
        have r4x := HR6.out.cell_ 4 (v := .int .i64 0) rfl
        have r5x := HR6.out.cell_ 5 (v := .int .i64 0) rfl
        have r6x := HR6.out.cell_ 6 (v := .int .i64 0) rfl
        have r7x := HR6.out.cell_ 7 (v := .slice none 0 0) rfl
        have r8x := HR6.out.cell_ 8 (v := .int .i64 0) rfl
        have z0x := HR6.out.free 0
        have z1x := HR6.out.free 1
        have z2x := HR6.out.free 2
        have z3x := HR6.out.free 3
        have z4x := HR6.out.free 4
        have z5x := HR6.out.free 5
        have z6x := HR6.out.free 6
        have z7x := HR6.out.free 7
        have z8x := HR6.out.free 8
        go_wp2
        have o3 := ((((((((HR6.out.set_ 0 (.slice none 0 0)).set_ 1 (.slice none 0 0)).set_ 2 (.slice none 0 0)).set_ 3 (.int .i64 0)).set_ 4 (.int .i64 0)).set_ 5 (.int .i64 0)).set_ 6 (.int .i64 0)).set_ 7 (.slice none 0 0)).set_ 8 (.int .i64 0)
        have t0 := o3.cell_ 0 (v := .slice none 0 0) (by simp)
        have t1 := o3.cell_ 1 (v := .slice none 0 0) (by simp)
        have t2 := o3.cell_ 2 (v := .slice none 0 0) (by simp)
        have t3 := o3.cell_ 3 (v := .int .i64 0) (by simp)
        have t4 := o3.cell_ 4 (v := .int .i64 0) (by simp)
        have t5 := o3.cell_ 5 (v := .int .i64 0) (by simp)
        have t6 := o3.cell_ 6 (v := .int .i64 0) (by simp)
        have t7 := o3.cell_ 7 (v := .slice none 0 0) (by simp)
        have t8 := o3.cell_ 8 (v := .int .i64 0) (by simp)
        refine bodyPost_ret (v := .tuple #[.agg #[.slice none 0 0, .slice none 0 0, .slice none 0 0, .int .i64 0, .int .i64 0, .int .i64 0, .int .i64 0, .slice none 0 0, .int .i64 0], .bool false]) (by simp [results, Tryz.results50, go_sem, t0, t1, t2, t3, t4, t5, t6, t7, t8]) rfl ⟨_, rfl, _, _, _, _, by rw [HA.out, HV.out]; rfl, by rw [HV.out]; exact mam_z, ?_⟩
        repeat (refine bS ?_ (by simp <;> omega))
        exact HB6.out
      | true =>
        have HPUT := Lib.hid (putN_step hput.out EF.out hok)
        have p0z := HO6.out.cell_ 0 (v := c1) rfl
        have p1z := HO6.out.cell_ 1 (v := c2) rfl
        have p2z := HO6.out.cell_ 2 (v := c3) rfl
        have p3z := HO6.out.cell_ 3 (v := .int .i64 mk.c.hand) rfl
        have p4z := HO6.out.cell_ 4 (v := .int .i64 mk.g.count) rfl
        have p5z := HO6.out.cell_ 5 (v := .int .i64 mk.g.next) rfl
        have p6z := HO6.out.cell_ 6 (v := .int .i64 mk.g.round) rfl
        have p7z := HO6.out.cell_ 7 (v := c4) rfl
        have p8z := HO6.out.cell_ 8 (v := .int .i64 mk.sp) rfl
        have w0z := HO6.out.free 0
        have w1z := HO6.out.free 1
        have w2z := HO6.out.free 2
        have w3z := HO6.out.free 3
        have w4z := HO6.out.free 4
        have w5z := HO6.out.free 5
        have w6z := HO6.out.free 6
        have w7z := HO6.out.free 7
        have w8z := HO6.out.free 8
        have p0n := HN6.out.cell_ 0 (v := .slice E1 (putV mk s (p + k) f r).t.bs.length n1) rfl
        have p1n := HN6.out.cell_ 1 (v := .slice E2 (putV mk s (p + k) f r).t.fs.length n2) rfl
        have p2n := HN6.out.cell_ 2 (v := .slice E3 (putV mk s (p + k) f r).c.ls.length n3) rfl
        have p3n := HN6.out.cell_ 3 (v := .int .i64 (putV mk s (p + k) f r).c.hand) rfl
        have p4n := HN6.out.cell_ 4 (v := .int .i64 (putV mk s (p + k) f r).g.count) rfl
        have p5n := HN6.out.cell_ 5 (v := .int .i64 (putV mk s (p + k) f r).g.next) rfl
        have p6n := HN6.out.cell_ 6 (v := .int .i64 (putV mk s (p + k) f r).g.round) rfl
        have p7n := HN6.out.cell_ 7 (v := .slice E4 (putV mk s (p + k) f r).g.os.length n4) rfl
        have p8n := HN6.out.cell_ 8 (v := .int .i64 (putV mk s (p + k) f r).sp) rfl
        go_wp2
        go_roundw
        case rel =>
          refine ⟨k + 1, putV mk s (p + k) f r, _, _, _, _, by omega, by go_num, HPUT, HO6.out.set9 _ _ _ _ _ _ _ _ _, (HM6.out.far9 HO6.out _ _ _ _ _ _ _ _ _).r, (fun _ => HM6.out.far9 HO6.out _ _ _ _ _ _ _ _ _), HK6.out.far9 (by omega) _ _ _ _ _ _ _ _ _, HR6.out.far9 (by omega) _ _ _ _ _ _ _ _ _, ?_⟩
          repeat (refine bS ?_ (by simp <;> omega))
          exact HB6.out
        case measure => simp [intOf]; omega
    · obtain rfl : k = fs.length := by omega
      have HO : Hid (prgO m s p fs r = some mk) := by show _ = _; rw [prgO_yes h1 hi1 hi2]; exact hput.out
      have HA : Hid ((prgO m s p fs r).isSome = true) := by show _ = _; rw [HO.out]; rfl
      have HV : Hid (prgV m s p fs r = mk) := by show _ = _; unfold prgV; rw [HO.out]; rfl
      have HMM := Lib.hid (hmm.out (by omega))
      obtain ⟨C1, n1, rfl, _⟩ := HMM.out.t.b
      obtain ⟨C2, n2, rfl, _⟩ := HMM.out.t.f
      obtain ⟨C3, n3, rfl, _⟩ := HMM.out.l
      obtain ⟨C4, n4, rfl, _⟩ := HMM.out.o
      have p0z := HOB.out.cell_ 0 (v := .slice C1 mk.t.bs.length n1) rfl
      have p1z := HOB.out.cell_ 1 (v := .slice C2 mk.t.fs.length n2) rfl
      have p2z := HOB.out.cell_ 2 (v := .slice C3 mk.c.ls.length n3) rfl
      have p3z := HOB.out.cell_ 3 (v := .int .i64 mk.c.hand) rfl
      have p4z := HOB.out.cell_ 4 (v := .int .i64 mk.g.count) rfl
      have p5z := HOB.out.cell_ 5 (v := .int .i64 mk.g.next) rfl
      have p6z := HOB.out.cell_ 6 (v := .int .i64 mk.g.round) rfl
      have p7z := HOB.out.cell_ 7 (v := .slice C4 mk.g.os.length n4) rfl
      have p8z := HOB.out.cell_ 8 (v := .int .i64 mk.sp) rfl
      have r0x := HRB.out.cell_ 0 (v := .slice none 0 0) rfl
      have r1x := HRB.out.cell_ 1 (v := .slice none 0 0) rfl
      have r2x := HRB.out.cell_ 2 (v := .slice none 0 0) rfl
      have r3x := HRB.out.cell_ 3 (v := .int .i64 0) rfl
      have r4x := HRB.out.cell_ 4 (v := .int .i64 0) rfl
      have r5x := HRB.out.cell_ 5 (v := .int .i64 0) rfl
      have r6x := HRB.out.cell_ 6 (v := .int .i64 0) rfl
      have r7x := HRB.out.cell_ 7 (v := .slice none 0 0) rfl
      have r8x := HRB.out.cell_ 8 (v := .int .i64 0) rfl
      have z0x := HRB.out.free 0
      have z1x := HRB.out.free 1
      have z2x := HRB.out.free 2
      have z3x := HRB.out.free 3
      have z4x := HRB.out.free 4
      have z5x := HRB.out.free 5
      have z6x := HRB.out.free 6
      have z7x := HRB.out.free 7
      have z8x := HRB.out.free 8
      have hgl := HOB.out.lt
      have hrl := HRB.out.lt
      go_wp2
      have o3 := HRB.out.set9 (.slice C1 mk.t.bs.length n1) (.slice C2 mk.t.fs.length n2) (.slice C3 mk.c.ls.length n3) (.int .i64 mk.c.hand) (.int .i64 mk.g.count) (.int .i64 mk.g.next) (.int .i64 mk.g.round) (.slice C4 mk.g.os.length n4) (.int .i64 mk.sp)
      have p0t := o3.cell_ 0 (v := .slice C1 mk.t.bs.length n1) rfl
      have p1t := o3.cell_ 1 (v := .slice C2 mk.t.fs.length n2) rfl
      have p2t := o3.cell_ 2 (v := .slice C3 mk.c.ls.length n3) rfl
      have p3t := o3.cell_ 3 (v := .int .i64 mk.c.hand) rfl
      have p4t := o3.cell_ 4 (v := .int .i64 mk.g.count) rfl
      have p5t := o3.cell_ 5 (v := .int .i64 mk.g.next) rfl
      have p6t := o3.cell_ 6 (v := .int .i64 mk.g.round) rfl
      have p7t := o3.cell_ 7 (v := .slice C4 mk.g.os.length n4) rfl
      have p8t := o3.cell_ 8 (v := .int .i64 mk.sp) rfl
      refine bodyPost_ret (v := .tuple #[.agg #[.slice C1 mk.t.bs.length n1, .slice C2 mk.t.fs.length n2, .slice C3 mk.c.ls.length n3, .int .i64 mk.c.hand, .int .i64 mk.g.count, .int .i64 mk.g.next, .int .i64 mk.g.round, .slice C4 mk.g.os.length n4, .int .i64 mk.sp], .bool true]) (by simp [results, Tryz.results50, go_sem, p0t, p1t, p2t, p3t, p4t, p5t, p6t, p7t, p8t]) rfl ⟨_, rfl, _, _, _, _, by rw [HA.out, HV.out], ?_, ?_⟩
      · rw [HV.out]
        exact (HMM.out.far9 HRB.out _ _ _ _ _ _ _ _ _).mono (by omega)
      · repeat (refine bS ?_ (by simp <;> omega))
        exact HBW.out
end Go.Proofs.YtnaagdmaggdbmaaGreatDoor
namespace Go.Proofs.YtnaagdmaggdbmaaGreatDoor
open Go.RowKit
set_option maxRecDepth 1000000
set_option maxHeartbeats 2000000 in
theorem PutRange_any (vb vf vl vo : Value) (m : Ma) (s p r : Int) (A : Option Addr) (c : Nat) (fs : List Int) (w : World) (hM : MaR w vb vf vl vo m) (hfree : Free w) (hR : Rs intE w.heap.size w A fs) (hl : fs.length ≤ 1048576) :
    Calls Tryz.prog 14 #[.agg #[vb, vf, vl, .int .i64 m.c.hand, .int .i64 m.g.count, .int .i64 m.g.next, .int .i64 m.g.round, vo, .int .i64 m.sp], .agg #[.int .i64 s, .int .i64 p], .slice A fs.length c, .int .i64 r] w (Post2 fun v w' => ∃ v1 v2 v3 v4, v = .tuple #[.agg #[v1, v2, v3, .int .i64 (prgV m s p fs r).c.hand, .int .i64 (prgV m s p fs r).g.count, .int .i64 (prgV m s p fs r).g.next, .int .i64 (prgV m s p fs r).g.round, v4, .int .i64 (prgV m s p fs r).sp], .bool (prgO m s p fs r).isSome] ∧ MaM w.heap.size w' v1 v2 v3 v4 (prgV m s p fs r) ∧ Below w.heap.size w w') := by
  have hfr := ((ownAt (W := ((w.alloc (.cells #[vb, vf, vl, .int .i64 m.c.hand, .int .i64 m.g.count, .int .i64 m.g.next, .int .i64 m.g.round, vo, .int .i64 m.sp] 34)).alloc (.cells #[.int .i64 s, .int .i64 p] 36))) (g := w.heap.size + 1 + 1) (t := 23) (cs := #[.slice A fs.length c]) (by simp)).alloc (o := (.cells #[.int .i64 r] 3))).alloc (o := (.cells #[.slice none 0 0, .slice none 0 0, .slice none 0 0, .int .i64 0, .int .i64 0, .int .i64 0, .int .i64 0, .slice none 0 0, .int .i64 0] 34))
  have hri := (ownAt (W := (((w.alloc (.cells #[vb, vf, vl, .int .i64 m.c.hand, .int .i64 m.g.count, .int .i64 m.g.next, .int .i64 m.g.round, vo, .int .i64 m.sp] 34)).alloc (.cells #[.int .i64 s, .int .i64 p] 36)).alloc (.cells #[.slice A fs.length c] 23))) (g := w.heap.size + 1 + 1 + 1) (t := 3) (cs := #[.int .i64 r]) (by simp)).alloc (o := (.cells #[.slice none 0 0, .slice none 0 0, .slice none 0 0, .int .i64 0, .int .i64 0, .int .i64 0, .int .i64 0, .slice none 0 0, .int .i64 0] 34))
  have hro := ownAt (W := ((((w.alloc (.cells #[vb, vf, vl, .int .i64 m.c.hand, .int .i64 m.g.count, .int .i64 m.g.next, .int .i64 m.g.round, vo, .int .i64 m.sp] 34)).alloc (.cells #[.int .i64 s, .int .i64 p] 36)).alloc (.cells #[.slice A fs.length c] 23)).alloc (.cells #[.int .i64 r] 3))) (g := w.heap.size + 1 + 1 + 1 + 1) (t := 34) (cs := #[.slice none 0 0, .slice none 0 0, .slice none 0 0, .int .i64 0, .int .i64 0, .int .i64 0, .int .i64 0, .slice none 0 0, .int .i64 0]) (by simp)
  have hb0 : Below w.heap.size w (((((w.alloc (.cells #[vb, vf, vl, .int .i64 m.c.hand, .int .i64 m.g.count, .int .i64 m.g.next, .int .i64 m.g.round, vo, .int .i64 m.sp] 34)).alloc (.cells #[.int .i64 s, .int .i64 p] 36)).alloc (.cells #[.slice A fs.length c] 23)).alloc (.cells #[.int .i64 r] 3)).alloc (.cells #[.slice none 0 0, .slice none 0 0, .slice none 0 0, .int .i64 0, .int .i64 0, .int .i64 0, .int .i64 0, .slice none 0 0, .int .i64 0] 34)) := bA (bA (bA (bA (bA bR))))
  have hs0 : (((((w.alloc (.cells #[vb, vf, vl, .int .i64 m.c.hand, .int .i64 m.g.count, .int .i64 m.g.next, .int .i64 m.g.round, vo, .int .i64 m.sp] 34)).alloc (.cells #[.int .i64 s, .int .i64 p] 36)).alloc (.cells #[.slice A fs.length c] 23)).alloc (.cells #[.int .i64 r] 3)).alloc (.cells #[.slice none 0 0, .slice none 0 0, .slice none 0 0, .int .i64 0, .int .i64 0, .int .i64 0, .int .i64 0, .slice none 0 0, .int .i64 0] 34)).heap.size = w.heap.size + 5 := by simp
  generalize hW : (((((w.alloc (.cells #[vb, vf, vl, .int .i64 m.c.hand, .int .i64 m.g.count, .int .i64 m.g.next, .int .i64 m.g.round, vo, .int .i64 m.sp] 34)).alloc (.cells #[.int .i64 s, .int .i64 p] 36)).alloc (.cells #[.slice A fs.length c] 23)).alloc (.cells #[.int .i64 r] 3)).alloc (.cells #[.slice none 0 0, .slice none 0 0, .slice none 0 0, .int .i64 0, .int .i64 0, .int .i64 0, .int .i64 0, .slice none 0 0, .int .i64 0] 34)) = W0 at hfr hri hro hb0 hs0
  have HR0 := Lib.hid hro
  have HB0 := Lib.hid hb0
  have HC := Lib.hid (putRanged_any vb vf vl vo m s p r (w.heap.size + 1 + 1) (w.heap.size + 1 + 1 + 1) A c fs W0 (hM.now hb0) (hfree.now hb0) hfr.lt hri.lt (hfr.cell_ 0 rfl) (hri.cell_ 0 rfl) (hR.now (Nat.le_refl _) hb0) hl)
  have f0 := hfr.cell_ 0 (v := .slice A fs.length c) rfl
  clear hro hb0 hfr hri hM hfree hR
  subst hW
  go_enter Tryz.func14, Tryz.ntmps14
  go_wp2_with fail
  refine HC.out.mono ?_
  rintro e w1 ⟨_, rfl, e1, e2, e3, e4, rfl, hM1, hb1⟩
  have HB1 := Lib.hid (bT HB0.out hb1)
  have HR1 := Lib.hid (HR0.out.below hb1)
  have HM1 := Lib.hid (hM1.mono (B' := w.heap.size + 5) (Nat.le_of_eq hs0.symm))
  have r0x := HR1.out.cell_ 0 (v := .slice none 0 0) rfl
  have r1x := HR1.out.cell_ 1 (v := .slice none 0 0) rfl
  have r2x := HR1.out.cell_ 2 (v := .slice none 0 0) rfl
  have r3x := HR1.out.cell_ 3 (v := .int .i64 0) rfl
  have r4x := HR1.out.cell_ 4 (v := .int .i64 0) rfl
  have r5x := HR1.out.cell_ 5 (v := .int .i64 0) rfl
  have r6x := HR1.out.cell_ 6 (v := .int .i64 0) rfl
  have r7x := HR1.out.cell_ 7 (v := .slice none 0 0) rfl
  have r8x := HR1.out.cell_ 8 (v := .int .i64 0) rfl
  have z0x := HR1.out.free 0
  have z1x := HR1.out.free 1
  have z2x := HR1.out.free 2
  have z3x := HR1.out.free 3
  have z4x := HR1.out.free 4
  have z5x := HR1.out.free 5
  have z6x := HR1.out.free 6
  have z7x := HR1.out.free 7
  have z8x := HR1.out.free 8
  obtain ⟨E1, n1, rfl, _⟩ := HM1.out.t.b
  obtain ⟨E2, n2, rfl, _⟩ := HM1.out.t.f
  obtain ⟨E3, n3, rfl, _⟩ := HM1.out.l
  obtain ⟨E4, n4, rfl, _⟩ := HM1.out.o
  clear hM1 hb1 f0
  go_wp2
  have o3 := HR1.out.set9 (.slice E1 (prgV m s p fs r).t.bs.length n1) (.slice E2 (prgV m s p fs r).t.fs.length n2) (.slice E3 (prgV m s p fs r).c.ls.length n3) (.int .i64 (prgV m s p fs r).c.hand) (.int .i64 (prgV m s p fs r).g.count) (.int .i64 (prgV m s p fs r).g.next) (.int .i64 (prgV m s p fs r).g.round) (.slice E4 (prgV m s p fs r).g.os.length n4) (.int .i64 (prgV m s p fs r).sp)
  have p0t := o3.cell_ 0 (v := .slice E1 (prgV m s p fs r).t.bs.length n1) rfl
  have p1t := o3.cell_ 1 (v := .slice E2 (prgV m s p fs r).t.fs.length n2) rfl
  have p2t := o3.cell_ 2 (v := .slice E3 (prgV m s p fs r).c.ls.length n3) rfl
  have p3t := o3.cell_ 3 (v := .int .i64 (prgV m s p fs r).c.hand) rfl
  have p4t := o3.cell_ 4 (v := .int .i64 (prgV m s p fs r).g.count) rfl
  have p5t := o3.cell_ 5 (v := .int .i64 (prgV m s p fs r).g.next) rfl
  have p6t := o3.cell_ 6 (v := .int .i64 (prgV m s p fs r).g.round) rfl
  have p7t := o3.cell_ 7 (v := .slice E4 (prgV m s p fs r).g.os.length n4) rfl
  have p8t := o3.cell_ 8 (v := .int .i64 (prgV m s p fs r).sp) rfl
  refine bodyPost_ret (v := .tuple #[.agg #[.slice E1 (prgV m s p fs r).t.bs.length n1, .slice E2 (prgV m s p fs r).t.fs.length n2, .slice E3 (prgV m s p fs r).c.ls.length n3, .int .i64 (prgV m s p fs r).c.hand, .int .i64 (prgV m s p fs r).g.count, .int .i64 (prgV m s p fs r).g.next, .int .i64 (prgV m s p fs r).g.round, .slice E4 (prgV m s p fs r).g.os.length n4, .int .i64 (prgV m s p fs r).sp], .bool (prgO m s p fs r).isSome]) (by simp [results, Tryz.results14, go_sem, p0t, p1t, p2t, p3t, p4t, p5t, p6t, p7t, p8t]) rfl ⟨_, rfl, _, _, _, _, rfl, ?_, ?_⟩
  · exact (HM1.out.far9 HR1.out _ _ _ _ _ _ _ _ _).mono (by omega)
  · repeat (refine bS ?_ (by simp <;> omega))
    exact HB1.out
end Go.Proofs.YtnaagdmaggdbmaaGreatDoor
namespace Go.Proofs.YtnaagdmaggdbmaaGreatDoor
open Go.RowKit
set_option maxRecDepth 1000000

theorem EOwn.rs {α : Type} {E : Enc α} {e : TypeId} {w : World} {g : Nat} {l : List α} (h : EOwn E e w g l) : Rs E w.heap.size w (some ⟨g, 0, none⟩) l := by
  obtain ⟨cs, h1, h2, h3⟩ := h.own
  refine ⟨E.cells_length l, fun _ => ⟨g, 0, rfl, h1.lt, fun j u hu => ?_⟩⟩
  obtain ⟨hj, _⟩ := List.getElem?_eq_some_iff.1 hu
  rw [E.cells_length] at hj
  rw [Nat.zero_add, h1.cell, h3 j hj, hu]
theorem MaM.oth {b : Nat} {w w' : World} {p : TypeId → Prop} {v1 v2 v3 v4 : Value} {m : Ma} (h : MaM b w v1 v2 v3 v4 m) (ho : Oth p w w') (h1 : ¬ p 3) (h2 : ¬ p 48) (h3 : ¬ p 106) (h4 : ¬ p 155) : MaM b w' v1 v2 v3 v4 m := by
  obtain ⟨⟨⟨A1, c1, r1, l1, k1, m1⟩, ⟨A2, c2, r2, l2, k2, m2⟩⟩, ⟨A3, c3, r3, l3, k3, m3⟩, ⟨A4, c4, r4, l4, k4, m4⟩⟩ := h
  exact ⟨⟨⟨A1, c1, r1, l1, k1, m1.oth ho h1⟩, ⟨A2, c2, r2, l2, k2, m2.oth ho h2⟩⟩, ⟨A3, c3, r3, l3, k3, m3.oth ho h3⟩, ⟨A4, c4, r4, l4, k4, m4.oth ho h4⟩⟩
theorem EOwn.oth {α : Type} {E : Enc α} {e : TypeId} {w w' : World} {g : Nat} {l : List α} {p : TypeId → Prop} (h : EOwn E e w g l) (ho : Oth p w w') (hp : ¬ p e) : EOwn E e w' g l :=
  let ⟨⟨cs, h1, h2, h3⟩⟩ := h; ⟨⟨cs, ho.2 g _ cs h1 hp, h2, h3⟩⟩
/-- what an operation of a drawing region leaves -/
inductive RK where
  | eq (u : Value)
  | ma (m : Ma)
  | sl (fs : List Int)
  | tup (m : Ma) (o : Bool)
  | box
  | boxed (m : Ma)
def RK.at_ (b si j : Nat) : RK → Value → World → Prop
  | .eq u0, u, _ => u = u0
  | .ma m, u, v => ∃ e1 e2 e3 e4, u = .agg #[e1, e2, e3, .int .i64 m.c.hand, .int .i64 m.g.count, .int .i64 m.g.next, .int .i64 m.g.round, e4, .int .i64 m.sp] ∧ MaM b v e1 e2 e3 e4 m
  | .sl fs, u, v => ∃ g, u = .slice (some ⟨g, 0, none⟩) fs.length fs.length ∧ EOwn intE 3 v g fs
  | .tup m o, u, v => ∃ e1 e2 e3 e4, u = .tuple #[.agg #[e1, e2, e3, .int .i64 m.c.hand, .int .i64 m.g.count, .int .i64 m.g.next, .int .i64 m.g.round, e4, .int .i64 m.sp], .bool o] ∧ MaM b v e1 e2 e3 e4 m
  | .box, u, v => ∃ g a0 a1 a2 a3 a4 a5 a6 a7 a8, u = .pointer (some ⟨g, 0, none⟩) ∧ b ≤ g ∧ Own v g 34 #[a0, a1, a2, a3, a4, a5, a6, a7, a8]
  | .boxed m, u, v => j = si ∧ ∃ g e1 e2 e3 e4, u = .pointer (some ⟨g, 0, none⟩) ∧ b ≤ g ∧ Own v g 34 #[e1, e2, e3, .int .i64 m.c.hand, .int .i64 m.g.count, .int .i64 m.g.next, .int .i64 m.g.round, e4, .int .i64 m.sp] ∧ MaM b v e1 e2 e3 e4 m
def rks (b si : Nat) (ks : List RK) (j : Nat) (u : Value) (v : World) : Prop := match ks[j]? with | some k => k.at_ b si j u v | none => True
/-- what an operation may turn: the store (number si) a machine's variable -/
def tA (si i : Nat) (v v' : World) : Prop := if i = si then Oth (fun e => e = 34) v v' ∧ (∀ g a0 a1 a2 a3 a4 a5 a6 a7 a8, Own v g 34 #[a0, a1, a2, a3, a4, a5, a6, a7, a8] → ∃ b0 b1 b2 b3 b4 b5 b6 b7 b8, Own v' g 34 #[b0, b1, b2, b3, b4, b5, b6, b7, b8]) else Below v.heap.size v v'
theorem tA.oth {si i : Nat} {v v' : World} (h : tA si i v v') : Oth (fun e => e = 34) v v' := by
  unfold tA at h
  split at h
  · exact h.1
  · exact Oth.of_below h
theorem MaM.othM {b : Nat} {w w' : World} {v1 v2 v3 v4 : Value} {m : Ma} (h : MaM b w v1 v2 v3 v4 m) (ho : Oth (fun e => e = 34) w w') : MaM b w' v1 v2 v3 v4 m := h.oth ho (by decide) (by decide) (by decide) (by decide)
theorem rks_keep {b si : Nat} {ks : List RK} {i j : Nat} {u : Value} {v v' : World} (hij : i ≠ j) (h : rks b si ks j u v) (ht : tA si i v v') : rks b si ks j u v' := by
  have ho := ht.oth
  unfold rks at h ⊢
  cases hk : ks[j]? with
  | none => trivial
  | some k =>
    rw [hk] at h
    cases k with
    | eq u0 => exact h
    | ma m => obtain ⟨e1, e2, e3, e4, h1, h2⟩ := h; exact ⟨e1, e2, e3, e4, h1, h2.othM ho⟩
    | sl fs => obtain ⟨g, h1, h2⟩ := h; exact ⟨g, h1, h2.oth ho (by decide)⟩
    | tup m o => obtain ⟨e1, e2, e3, e4, h1, h2⟩ := h; exact ⟨e1, e2, e3, e4, h1, h2.othM ho⟩
    | box =>
      obtain ⟨g, a0, a1, a2, a3, a4, a5, a6, a7, a8, h1, h2, h3⟩ := h
      unfold tA at ht
      split at ht
      · obtain ⟨b0, b1, b2, b3, b4, b5, b6, b7, b8, h4⟩ := ht.2 g _ _ _ _ _ _ _ _ _ h3
        exact ⟨g, b0, b1, b2, b3, b4, b5, b6, b7, b8, h1, h2, h4⟩
      · exact ⟨g, a0, a1, a2, a3, a4, a5, a6, a7, a8, h1, h2, h3.below ht⟩
    | boxed m =>
      obtain ⟨hj, g, e1, e2, e3, e4, h1, h2, h3, h4⟩ := h
      unfold tA at ht
      rw [if_neg (by omega)] at ht
      exact ⟨hj, g, e1, e2, e3, e4, h1, h2, h3.below ht, h4.othM ho⟩
theorem tA_same {si i : Nat} {v : World} : tA si i v v := by
  unfold tA
  split
  · exact ⟨Oth.of_below bR, fun g a0 a1 a2 a3 a4 a5 a6 a7 a8 h => ⟨_, _, _, _, _, _, _, _, _, h⟩⟩
  · exact bR
theorem tA_below {si i : Nat} {v v' : World} (hi : i ≠ si) (h : Below v.heap.size v v') : tA si i v v' := by
  unfold tA
  rw [if_neg hi]
  exact h
/-- a machine's variable is written whole -/
theorem tA_store {si : Nat} {v : World} {g : Nat} {a0 a1 a2 a3 a4 a5 a6 a7 a8 : Value} (ho : Own v g 34 #[a0, a1, a2, a3, a4, a5, a6, a7, a8]) (u0 u1 u2 u3 u4 u5 u6 u7 u8 : Value) :
    tA si si v (((((((((v.setCell ⟨g, 0, none⟩ u0).setCell ⟨g, 1, none⟩ u1).setCell ⟨g, 2, none⟩ u2).setCell ⟨g, 3, none⟩ u3).setCell ⟨g, 4, none⟩ u4).setCell ⟨g, 5, none⟩ u5).setCell ⟨g, 6, none⟩ u6).setCell ⟨g, 7, none⟩ u7).setCell ⟨g, 8, none⟩ u8) := by
  unfold tA
  rw [if_pos rfl]
  have hfar : ∀ g' e cs, Own v g' e cs → g' ≠ g → Own (((((((((v.setCell ⟨g, 0, none⟩ u0).setCell ⟨g, 1, none⟩ u1).setCell ⟨g, 2, none⟩ u2).setCell ⟨g, 3, none⟩ u3).setCell ⟨g, 4, none⟩ u4).setCell ⟨g, 5, none⟩ u5).setCell ⟨g, 6, none⟩ u6).setCell ⟨g, 7, none⟩ u7).setCell ⟨g, 8, none⟩ u8) g' e cs := by
    intro g' e cs h hne
    exact ((((((((h.far hne).far hne).far hne).far hne).far hne).far hne).far hne).far hne).far hne
  refine ⟨⟨by simp, fun g' e cs h hne => hfar g' e cs h ?_⟩, fun g' b0 b1 b2 b3 b4 b5 b6 b7 b8 h => ?_⟩
  · rintro rfl
    have h3 := h.symm.trans ho
    injection h3 with h3
    injection h3 with _ h3
    exact hne h3
  · by_cases hg : g' = g
    · subst hg; exact ⟨_, _, _, _, _, _, _, _, _, ho.set9 u0 u1 u2 u3 u4 u5 u6 u7 u8⟩
    · exact ⟨_, _, _, _, _, _, _, _, _, hfar g' _ _ h hg⟩
end Go.Proofs.YtnaagdmaggdbmaaGreatDoor
namespace Go.Proofs.YtnaagdmaggdbmaaGreatDoor
open Go.RowKit
set_option maxRecDepth 1000000
theorem SlM.mine {α : Type} {E : Enc α} {e : TypeId} {B : Nat} {w : World} {A : Option Addr} {n c : Nat} {l : List α} (h : SlM E e B w (.slice A n c) l) : MineE E e B w A l := by
  obtain ⟨A', c', h1, _, _, h4⟩ := h
  injection h1 with h1 _ _
  rw [h1]; exact h4
theorem Tch.wide {lo hi hi' : Nat} {w w' : World} (h : Tch lo hi w w') (hh : hi ≤ hi') : Tch lo hi' w w' := ⟨h.os, h.tape, h.output, h.size, fun k hk hn => h.block k hk (fun x => hn ⟨x.1, Nat.lt_of_lt_of_le x.2 hh⟩)⟩
theorem EOwn.tch {α : Type} {E : Enc α} {e : TypeId} {w w' : World} {g lo hi : Nat} {l : List α} (h : EOwn E e w g l) (ht : Tch lo hi w w') (hg : ¬ (lo ≤ g ∧ g < hi)) : EOwn E e w' g l :=
  let ⟨⟨cs, h1, h2, h3⟩⟩ := h; ⟨⟨cs, h1.tch ht hg, h2, h3⟩⟩
def smallM (m : Ma) : Prop := m.t.bs.length ≤ 1048576 ∧ m.t.fs.length ≤ 1048576 ∧ m.c.ls.length ≤ 1048576 ∧ m.g.os.length ≤ 1048576
theorem smallM_z : smallM maz := ⟨Nat.zero_le _, Nat.zero_le _, Nat.zero_le _, Nat.zero_le _⟩
theorem putV_small {m : Ma} {s p f r : Int} (h : smallM m) : smallM (putV m s p f r) := by
  obtain ⟨h1, h2, h3, h4⟩ := h
  unfold putV
  split
  · refine ⟨?_, ?_, h3, h4⟩
    · show (mapV m.t s p f r).bs.length ≤ _
      unfold mapV
      split
      · simp only [mapT, List.length_set]; exact h1
      · exact Nat.zero_le _
    · show (mapV m.t s p f r).fs.length ≤ _
      unfold mapV
      split
      · simp only [mapT, List.length_set]; exact h2
      · exact Nat.zero_le _
  · exact smallM_z
theorem putN_small {m : Ma} {s p r : Int} {fs : List Int} (h : smallM m) : ∀ (k : Nat) (m' : Ma), putN s p r fs m k = some m' → smallM m'
  | 0, m', e => by
    injection e with e
    rw [← e]; exact h
  | k + 1, m', e => by
    unfold putN at e
    cases h1 : putN s p r fs m k with
    | none => rw [h1] at e; cases e
    | some m1 =>
      rw [h1] at e
      have h2 := putN_small h k m1 h1
      cases h3 : fs[k]? with
      | none => simp only [h3] at e; cases e
      | some f =>
        simp only [h3] at e
        split at e
        · injection e with e
          rw [← e]; exact putV_small h2
        · cases e
theorem prgV_len (m : Ma) (s p r : Int) (fs : List Int) : smallM (prgV m s p fs r) := by
  unfold prgV
  cases h : prgO m s p fs r with
  | none => exact smallM_z
  | some m' =>
    unfold prgO at h
    split at h
    · rename_i hv
      exact putN_small (mav_len hv.1) _ m' h
    · cases h
theorem EOwn.mine {α : Type} {E : Enc α} {e : TypeId} {w : World} {g B : Nat} {l : List α} (h : EOwn E e w g l) (hB : B ≤ g) : MineE E e B w (some ⟨g, 0, none⟩) l := by
  refine ⟨h.rs, fun hl => ?_⟩
  obtain ⟨cs, h1, h2, h3⟩ := h.own
  exact ⟨g, cs, rfl, hB, h1, by omega⟩
end Go.Proofs.YtnaagdmaggdbmaaGreatDoor
