/- A part of the proofs of this seat: Mk2, Open, PrI, RelA, RelB, RelC. -/
import Derived.Test.YtfbnokjdkhcgoaaGreatDoorRows
import Derived.ProofKit
import Derived.OpenShut
import Derived.ChangeOld
import Derived.Deep.SlicePairs
import Derived.Lib.SmallJoins
import Derived.Test.YtfbnokjdkhcgoaaGreatDoorVMk
set_option linter.unusedVariables false
set_option linter.unusedSimpArgs false
set_option maxRecDepth 1000000
namespace Go.Proofs.YtfbnokjdkhcgoaaGreatDoor
open Go.RowKit
section
variable {p : TypeId → Prop} {w w' w'' : World} {e e' : TypeId} {A : Option Addr} {n : Nat}
theorem oth_of (hg : w.grownBy w' (rowOf n A)) (ho : 0 < n → ∃ g cs, A = some ⟨g, 0, none⟩ ∧ Own w g e cs) : Oth (fun x => x = e) w w' := by
 refine ⟨hg.size, fun g e' cs o1 hne => (hg.block g o1.lt (fun hk => ?_)).trans o1⟩
 by_cases h0 : n = 0
 ·rw [h0] at hk; cases hk
 ·obtain ⟨g', cs', rfl, o2⟩ := ho (by omega)
  rw [rowOf_some h0] at hk
  injection hk with hk
  subst hk
  have h3 := o1.symm.trans o2
  injection h3 with h3
  injection h3 with _ h3
  exact hne h3
theorem Mk.oth {f : Nat → Value} {sz : Nat} (h : Mk f sz e w A n) (hg : Oth p w w') (hne : ¬ p e) : Mk f sz e w' A n :=
 ⟨fun hn => let ⟨g, cs, e1, o1, hs, hc⟩ := h.own hn; ⟨g, cs, e1, hg.2 g _ cs o1 hne, hs, hc⟩⟩
end
set_option maxHeartbeats 2000000 in
theorem markTable_any (B : Nat) (A1 A2 : Option Addr) (c1 c2 : Nat) (t : Tab) (w : World) (k0 : Int) (h1 : MineE intE 3 B w A1 t.bs) (h2 : MineE frE 80 B w A2 t.fs) (hi : Nat) (hr1 : ∀ k, rowOf t.bs.length A1 = some k → k < hi) (hr2 : ∀ k, rowOf t.fs.length A2 = some k → k < hi) (hk0 : 0 ≤ k0) (hk1 : k0 ≤ 536870912) (hl1 : t.bs.length ≤ 1048576) (hl2 : t.fs.length ≤ 1048576) :
  Calls Tryz.prog 115 #[.agg #[.slice A1 t.bs.length c1, .slice A2 t.fs.length c2], .int .i64 k0] w fun r w' => r = .returned (.int .i64 (k0 + (t.bs.length : Int) + 5 * (t.fs.length : Int))) ∧ Mk (mkE bInt 1 k0) 1 3 w' A1 t.bs.length ∧ Mk (mkE bFrame 5 (k0 + (t.bs.length : Int))) 5 80 w' A2 t.fs.length
   ∧ Tch B hi w w' ∧ Oth (fun e => e = 3 ∨ e = 80) w w' := by
 have hx := Own.new_ w 26 #[.slice A1 t.bs.length c1, .slice A2 t.fs.length c2]
 have hb0 : Below w.heap.size w (w.alloc (.cells #[.slice A1 t.bs.length c1, .slice A2 t.fs.length c2] 26)) := bA bR
 generalize hW0 : w.alloc (.cells #[.slice A1 t.bs.length c1, .slice A2 t.fs.length c2] 26) = W0 at hx hb0
 have x0 := hx.cell_ 0 (v := .slice A1 t.bs.length c1) rfl
 have HX := Hd hx
 have HB0 := Hd hb0
 have H1 := Hd h1
 have H2 := Hd h2
 clear hx hb0 h1 h2
 go_enter Tryz.func115, Tryz.ntmps115
 go_wp2_with fail
 refine (markIntS_any B A1 c1 t.bs.length t.bs _ k0 (H1.out.below HB0.out) rfl hk0 (by omega) hl1).mono ?_
 rintro e W1 ⟨rfl, hm1, hg1, ho1⟩
 have ot1 := oth_of hg1 ho1
 have x1 := (ot1.2 _ _ _ HX.out (by decide)).cell_ 1 (v := .slice A2 t.fs.length c2) rfl
 have HM1 := Hd hm1
 have HO1 := Hd ot1
 have HT1 := Hd ((Tch.of_below HB0.out).trans (Tch.grown hg1 (fun k hk => ⟨(H1.out.row k hk).1, hr1 k hk⟩)))
 clear hm1 hg1 ho1 ot1 x0
 go_wp2_with fail
 refine (markFrameS_any B A2 c2 t.fs.length t.fs _ (k0 + (t.bs.length : Int)) ((H2.out.below HB0.out).oth HO1.out (by decide)) rfl (by omega) (by omega) hl2).mono ?_
 rintro e W2 ⟨rfl, hm2, hg2, ho2⟩
 have HM2 := Hd hm2
 have HT2 := Hd (HT1.out.trans (Tch.grown hg2 (fun k hk => ⟨(H2.out.row k hk).1, hr2 k hk⟩)))
 have ot2 := oth_of hg2 ho2
 have HM3 := Hd (HM1.out.oth ot2 (by decide))
 have HO2 := Hd ((HO1.out.trans ot2).far HB0.out)
 clear hm2 hg2 ho2 ot2
 go_wp2
 go_ret
 exact ⟨rfl, HM3.out, HM2.out, HT2.out, HO2.out⟩
set_option maxHeartbeats 2000000 in
theorem markCache_any (B : Nat) (A1 : Option Addr) (c1 : Nat) (x y z : Int) (l : List (Ln)) (w : World) (k0 : Int) (h1 : MineE lnE 50 B w A1 l) (hi : Nat) (hr : ∀ k, rowOf l.length A1 = some k → k < hi) (hk0 : 0 ≤ k0) (hk1 : k0 ≤ 1073741824) (hl1 : l.length ≤ 1048576) :
  Calls Tryz.prog 116 #[.agg #[.slice A1 l.length c1, .int .i64 x], .int .i64 k0] w fun r w' => r = .returned (.int .i64 (k0 + 6 * (l.length : Int))) ∧ Mk (mkE bLine 6 k0) 6 50 w' A1 l.length
   ∧ Tch B hi w w' ∧ Oth (fun e => e = 50) w w' := by
 have H1 := Hd h1
 clear h1
 go_enter Tryz.func116, Tryz.ntmps116
 go_wp2_with fail
 refine (markLineS_any B A1 c1 l.length l _ k0 (H1.out.below (bA bR)) rfl hk0 (by omega) hl1).mono ?_
 rintro e W1 ⟨rfl, hm1, hg1, ho1⟩
 have HO1 := Hd ((oth_of hg1 ho1).far (bA bR))
 have HT1 := Hd ((Tch.of_below (bA bR)).trans (Tch.grown hg1 (fun k hk => ⟨(H1.out.row k hk).1, hr k hk⟩)))
 have HM1 := Hd hm1
 clear hm1 hg1 ho1
 go_wp2
 go_ret
 exact ⟨rfl, HM1.out, HT1.out, HO1.out⟩
set_option maxHeartbeats 2000000 in
theorem heldCache_any (A1 : Option Addr) (c1 n : Nat) (x y z : Int) (w : World) (k0 : Int) (h1 : Mk (mkE bLine 6 k0) 6 50 w A1 n) (hk0 : 0 ≤ k0) (hk1 : k0 ≤ 1073741824) (hl1 : n ≤ 1048576) :
  Calls Tryz.prog 119 #[.agg #[.slice A1 n c1, .int .i64 x], .int .i64 k0] w fun r w' => r = .returned (.int .i64 (k0 + 6 * (n : Int))) ∧ Below w.heap.size w w' := by
 have H1 := Hd h1
 have hq : ¬ k0 + 6 * (n : Int) < 0 := by omega
 clear h1
 go_enter Tryz.func119, Tryz.ntmps119
 go_wp2_with fail
 refine (heldLineS_any A1 n c1 _ k0 (H1.out.now (bA bR)) hk0 (by omega) hl1).mono ?_
 rintro e W1 ⟨rfl, hb1⟩
 have HB1 := Hd (bT (bA bR) hb1)
 clear hb1
 go_wp2
 go_ret
 exact ⟨rfl, HB1.out⟩
set_option maxHeartbeats 2000000 in
theorem markTags_any (B : Nat) (A1 : Option Addr) (c1 : Nat) (x y z : Int) (l : List (Int × Int)) (w : World) (k0 : Int) (h1 : MineE owE 186 B w A1 l) (hi : Nat) (hr : ∀ k, rowOf l.length A1 = some k → k < hi) (hk0 : 0 ≤ k0) (hk1 : k0 ≤ 1073741824) (hl1 : l.length ≤ 1048576) :
  Calls Tryz.prog 117 #[.agg #[.int .i64 x, .int .i64 y, .int .i64 z, .slice A1 l.length c1], .int .i64 k0] w fun r w' => r = .returned (.int .i64 (k0 + 2 * (l.length : Int))) ∧ Mk (mkE bOwn 2 k0) 2 186 w' A1 l.length
   ∧ Tch B hi w w' ∧ Oth (fun e => e = 186) w w' := by
 have H1 := Hd h1
 clear h1
 go_enter Tryz.func117, Tryz.ntmps117
 go_wp2_with fail
 refine (markOwnS_any B A1 c1 l.length l _ k0 (H1.out.below (bA bR)) rfl hk0 (by omega) hl1).mono ?_
 rintro e W1 ⟨rfl, hm1, hg1, ho1⟩
 have HO1 := Hd ((oth_of hg1 ho1).far (bA bR))
 have HT1 := Hd ((Tch.of_below (bA bR)).trans (Tch.grown hg1 (fun k hk => ⟨(H1.out.row k hk).1, hr k hk⟩)))
 have HM1 := Hd hm1
 clear hm1 hg1 ho1
 go_wp2
 go_ret
 exact ⟨rfl, HM1.out, HT1.out, HO1.out⟩
set_option maxHeartbeats 2000000 in
theorem heldTags_any (A1 : Option Addr) (c1 n : Nat) (x y z : Int) (w : World) (k0 : Int) (h1 : Mk (mkE bOwn 2 k0) 2 186 w A1 n) (hk0 : 0 ≤ k0) (hk1 : k0 ≤ 1073741824) (hl1 : n ≤ 1048576) :
  Calls Tryz.prog 120 #[.agg #[.int .i64 x, .int .i64 y, .int .i64 z, .slice A1 n c1], .int .i64 k0] w fun r w' => r = .returned (.int .i64 (k0 + 2 * (n : Int))) ∧ Below w.heap.size w w' := by
 have H1 := Hd h1
 have hq : ¬ k0 + 2 * (n : Int) < 0 := by omega
 clear h1
 go_enter Tryz.func120, Tryz.ntmps120
 go_wp2_with fail
 refine (heldOwnS_any A1 n c1 _ k0 (H1.out.now (bA bR)) hk0 (by omega) hl1).mono ?_
 rintro e W1 ⟨rfl, hb1⟩
 have HB1 := Hd (bT (bA bR) hb1)
 clear hb1
 go_wp2
 go_ret
 exact ⟨rfl, HB1.out⟩
set_option maxHeartbeats 2000000 in
theorem heldTable_any (A1 A2 : Option Addr) (c1 c2 n1 n2 : Nat) (w : World) (k0 : Int) (h1 : Mk (mkE bInt 1 k0) 1 3 w A1 n1) (h2 : Mk (mkE bFrame 5 (k0 + (n1 : Int))) 5 80 w A2 n2) (hk0 : 0 ≤ k0) (hk1 : k0 ≤ 536870912) (hl1 : n1 ≤ 1048576) (hl2 : n2 ≤ 1048576) :
  Calls Tryz.prog 118 #[.agg #[.slice A1 n1 c1, .slice A2 n2 c2], .int .i64 k0] w fun r w' => r = .returned (.int .i64 (k0 + (n1 : Int) + 5 * (n2 : Int))) ∧ Below w.heap.size w w' := by
 have hq1 : ¬ k0 + (n1 : Int) < 0 := by omega
 have hq2 : ¬ k0 + (n1 : Int) + 5 * (n2 : Int) < 0 := by omega
 have hx := Own.new_ w 26 #[.slice A1 n1 c1, .slice A2 n2 c2]
 have hb0 : Below w.heap.size w (w.alloc (.cells #[.slice A1 n1 c1, .slice A2 n2 c2] 26)) := bA bR
 generalize hW0 : w.alloc (.cells #[.slice A1 n1 c1, .slice A2 n2 c2] 26) = W0 at hx hb0
 have x0 := hx.cell_ 0 (v := .slice A1 n1 c1) rfl
 have HX := Hd hx
 have HB0 := Hd hb0
 have H1 := Hd h1
 have H2 := Hd h2
 clear hx hb0 h1 h2
 go_enter Tryz.func118, Tryz.ntmps118
 go_wp2_with fail
 refine (heldIntS_any A1 n1 c1 _ k0 (H1.out.now HB0.out) hk0 (by omega) hl1).mono ?_
 rintro e W1 ⟨rfl, hb1⟩
 have x1 := (HX.out.below hb1).cell_ 1 (v := .slice A2 n2 c2) rfl
 have HB1 := Hd (bT HB0.out hb1)
 clear hb1 x0
 go_wp2_with fail
 refine (heldFrameS_any A2 n2 c2 _ (k0 + (n1 : Int)) (H2.out.now HB1.out) (by omega) (by omega) hl2).mono ?_
 rintro e W2 ⟨rfl, hb2⟩
 have HB2 := Hd (bT HB1.out hb2)
 clear hb2
 go_wp2
 go_ret
 exact ⟨rfl, HB2.out⟩
structure MkM (k0 : Int) (w : World) (A1 A2 A3 A4 : Option Addr) (n1 n2 n3 n4 : Nat) : Prop where
 b : Mk (mkE bInt 1 k0) 1 3 w A1 n1
 f : Mk (mkE bFrame 5 (k0 + (n1 : Int))) 5 80 w A2 n2
 l : Mk (mkE bLine 6 (k0 + (n1 : Int) + 5 * (n2 : Int))) 6 50 w A3 n3
 o : Mk (mkE bOwn 2 (k0 + (n1 : Int) + 5 * (n2 : Int) + 6 * (n3 : Int))) 2 186 w A4 n4
theorem MkM.now {k0 : Int} {w w' : World} {A1 A2 A3 A4 : Option Addr} {n1 n2 n3 n4 : Nat} (h : MkM k0 w A1 A2 A3 A4 n1 n2 n3 n4) (hb : Below w.heap.size w w') : MkM k0 w' A1 A2 A3 A4 n1 n2 n3 n4 := ⟨h.b.now hb, h.f.now hb, h.l.now hb, h.o.now hb⟩
set_option maxHeartbeats 2000000 in
theorem markMachine_any (B : Nat) (A1 A2 A3 A4 : Option Addr) (c1 c2 c3 c4 : Nat) (m : Ma) (w : World) (k0 : Int) (h1 : MineE intE 3 B w A1 m.t.bs) (h2 : MineE frE 80 B w A2 m.t.fs) (h3 : MineE lnE 50 B w A3 m.c.ls) (h4 : MineE owE 186 B w A4 m.g.os)
  (hi : Nat) (hr1 : ∀ k, rowOf m.t.bs.length A1 = some k → k < hi) (hr2 : ∀ k, rowOf m.t.fs.length A2 = some k → k < hi) (hr3 : ∀ k, rowOf m.c.ls.length A3 = some k → k < hi) (hr4 : ∀ k, rowOf m.g.os.length A4 = some k → k < hi) (hk0 : 0 ≤ k0) (hk1 : k0 ≤ 536870912) (hl1 : m.t.bs.length ≤ 1048576) (hl2 : m.t.fs.length ≤ 1048576) (hl3 : m.c.ls.length ≤ 1048576) (hl4 : m.g.os.length ≤ 1048576) :
  Calls Tryz.prog 66 #[.agg #[.slice A1 m.t.bs.length c1, .slice A2 m.t.fs.length c2, .slice A3 m.c.ls.length c3, .int .i64 m.c.hand, .int .i64 m.g.count, .int .i64 m.g.next, .int .i64 m.g.round, .slice A4 m.g.os.length c4, .int .i64 m.sp], .int .i64 k0] w
   fun r w' => r = .returned (.int .i64 (k0 + (m.t.bs.length : Int) + 5 * (m.t.fs.length : Int) + 6 * (m.c.ls.length : Int) + 2 * (m.g.os.length : Int))) ∧ MkM k0 w' A1 A2 A3 A4 m.t.bs.length m.t.fs.length m.c.ls.length m.g.os.length ∧ Tch B hi w w' ∧ Oth (fun e => ((e = 3 ∨ e = 80) ∨ e = 50) ∨ e = 186) w w' := by
 have hx := Own.new_ w 34 #[.slice A1 m.t.bs.length c1, .slice A2 m.t.fs.length c2, .slice A3 m.c.ls.length c3, .int .i64 m.c.hand, .int .i64 m.g.count, .int .i64 m.g.next, .int .i64 m.g.round, .slice A4 m.g.os.length c4, .int .i64 m.sp]
 have hb0 : Below w.heap.size w (w.alloc (.cells #[.slice A1 m.t.bs.length c1, .slice A2 m.t.fs.length c2, .slice A3 m.c.ls.length c3, .int .i64 m.c.hand, .int .i64 m.g.count, .int .i64 m.g.next, .int .i64 m.g.round, .slice A4 m.g.os.length c4, .int .i64 m.sp] 34)) := bA bR
 generalize hW0 : w.alloc (.cells #[.slice A1 m.t.bs.length c1, .slice A2 m.t.fs.length c2, .slice A3 m.c.ls.length c3, .int .i64 m.c.hand, .int .i64 m.g.count, .int .i64 m.g.next, .int .i64 m.g.round, .slice A4 m.g.os.length c4, .int .i64 m.sp] 34) = W0 at hx hb0
 have x0 := hx.cell_ 0 (v := .slice A1 m.t.bs.length c1) rfl
 have x1 := hx.cell_ 1 (v := .slice A2 m.t.fs.length c2) rfl
 have HX := Hd hx
 have HB0 := Hd hb0
 clear hx hb0
 have H1 := Hd h1
 have H2 := Hd h2
 have H3 := Hd h3
 have H4 := Hd h4
 clear h1 h2 h3 h4
 go_enter Tryz.func66, Tryz.ntmps66
 go_wp2_with fail
 refine (markTable_any B A1 A2 c1 c2 m.t _ k0 (H1.out.below HB0.out) (H2.out.below HB0.out) hi hr1 hr2 hk0 hk1 hl1 hl2).mono ?_
 rintro e W1 ⟨rfl, hm1, hm2, ht1, ho1⟩
 have x2 := (ho1.2 _ _ _ HX.out (by decide)).cell_ 2 (v := .slice A3 m.c.ls.length c3) rfl
 have x3 := (ho1.2 _ _ _ HX.out (by decide)).cell_ 3 (v := .int .i64 m.c.hand) rfl
 have HX1 := Hd (ho1.2 _ _ _ HX.out (by decide))
 have HM1 := Hd hm1
 have HM2 := Hd hm2
 have HT1 := Hd ht1
 have HL1 := Hd ((H3.out.below HB0.out).oth ho1 (by decide))
 have HW1 := Hd ((H4.out.below HB0.out).oth ho1 (by decide))
 have HO1 := Hd ho1
 clear hm1 hm2 ht1 ho1 x0 x1
 go_wp2_with fail
 refine (markCache_any B A3 c3 m.c.hand 0 0 m.c.ls _ (k0 + (m.t.bs.length : Int) + 5 * (m.t.fs.length : Int)) HL1.out hi hr3 (by omega) (by omega) hl3).mono ?_
 rintro e W2 ⟨rfl, hm3, ht2, ho2⟩
 have HX2 := ho2.2 _ _ _ HX1.out (by decide)
 have x4 := HX2.cell_ 4 (v := .int .i64 m.g.count) rfl
 have x5 := HX2.cell_ 5 (v := .int .i64 m.g.next) rfl
 have x6 := HX2.cell_ 6 (v := .int .i64 m.g.round) rfl
 have x7 := HX2.cell_ 7 (v := .slice A4 m.g.os.length c4) rfl
 have HN1 := Hd (HM1.out.oth ho2 (by decide))
 have HN2 := Hd (HM2.out.oth ho2 (by decide))
 have HN3 := Hd hm3
 have HT2 := Hd ht2
 have HW2 := Hd (HW1.out.oth ho2 (by decide))
 have HO2 := Hd (HO1.out.trans ho2)
 clear hm3 ht2 ho2 x2 x3 HX2
 go_wp2_with fail
 refine (markTags_any B A4 c4 m.g.count m.g.next m.g.round m.g.os _ (k0 + (m.t.bs.length : Int) + 5 * (m.t.fs.length : Int) + 6 * (m.c.ls.length : Int)) HW2.out hi hr4 (by omega) (by omega) hl4).mono ?_
 rintro e W3 ⟨rfl, hm4, ht3, ho3⟩
 have HE := Hd (MkM.mk (HN1.out.oth ho3 (by decide)) (HN2.out.oth ho3 (by decide)) (HN3.out.oth ho3 (by decide)) hm4)
 have HT3 := Hd ht3
 have HO3 := Hd ((HO2.out.trans ho3).far HB0.out)
 clear hm4 ht3 ho3
 go_wp2
 go_ret
 exact ⟨rfl, HE.out, ((Tch.of_below HB0.out).trans HT1.out).trans (HT2.out.trans HT3.out), HO3.out⟩
set_option maxHeartbeats 2000000 in
theorem heldMachine_any (A1 A2 A3 A4 : Option Addr) (c1 c2 c3 c4 n1 n2 n3 n4 : Nat) (x y z u s : Int) (w : World) (k0 : Int) (h : MkM k0 w A1 A2 A3 A4 n1 n2 n3 n4) (hk0 : 0 ≤ k0) (hk1 : k0 ≤ 536870912) (hl1 : n1 ≤ 1048576) (hl2 : n2 ≤ 1048576) (hl3 : n3 ≤ 1048576) (hl4 : n4 ≤ 1048576) :
  Calls Tryz.prog 68 #[.agg #[.slice A1 n1 c1, .slice A2 n2 c2, .slice A3 n3 c3, .int .i64 x, .int .i64 y, .int .i64 z, .int .i64 u, .slice A4 n4 c4, .int .i64 s], .int .i64 k0] w
   fun r w' => r = .returned (.int .i64 (k0 + (n1 : Int) + 5 * (n2 : Int) + 6 * (n3 : Int) + 2 * (n4 : Int))) ∧ Below w.heap.size w w' := by
 have hq1 : ¬ k0 + (n1 : Int) + 5 * (n2 : Int) < 0 := by omega
 have hq2 : ¬ k0 + (n1 : Int) + 5 * (n2 : Int) + 6 * (n3 : Int) < 0 := by omega
 have hq3 : ¬ k0 + (n1 : Int) + 5 * (n2 : Int) + 6 * (n3 : Int) + 2 * (n4 : Int) < 0 := by omega
 have hx := Own.new_ w 34 #[.slice A1 n1 c1, .slice A2 n2 c2, .slice A3 n3 c3, .int .i64 x, .int .i64 y, .int .i64 z, .int .i64 u, .slice A4 n4 c4, .int .i64 s]
 have hb0 : Below w.heap.size w (w.alloc (.cells #[.slice A1 n1 c1, .slice A2 n2 c2, .slice A3 n3 c3, .int .i64 x, .int .i64 y, .int .i64 z, .int .i64 u, .slice A4 n4 c4, .int .i64 s] 34)) := bA bR
 generalize hW0 : w.alloc (.cells #[.slice A1 n1 c1, .slice A2 n2 c2, .slice A3 n3 c3, .int .i64 x, .int .i64 y, .int .i64 z, .int .i64 u, .slice A4 n4 c4, .int .i64 s] 34) = W0 at hx hb0
 have x0 := hx.cell_ 0 (v := .slice A1 n1 c1) rfl
 have x1 := hx.cell_ 1 (v := .slice A2 n2 c2) rfl
 have HX := Hd hx
 have HB0 := Hd hb0
 clear hx hb0
 have H := Hd h
 clear h
 go_enter Tryz.func68, Tryz.ntmps68
 go_wp2_with fail
 refine (heldTable_any A1 A2 c1 c2 n1 n2 _ k0 (H.out.b.now HB0.out) (H.out.f.now HB0.out) hk0 hk1 hl1 hl2).mono ?_
 rintro e W1 ⟨rfl, hb1⟩
 have x2 := (HX.out.below hb1).cell_ 2 (v := .slice A3 n3 c3) rfl
 have x3 := (HX.out.below hb1).cell_ 3 (v := .int .i64 x) rfl
 have HX1 := Hd (HX.out.below hb1)
 have HB1 := Hd (bT HB0.out hb1)
 clear hb1 x0 x1
 go_wp2_with fail
 refine (heldCache_any A3 c3 n3 x 0 0 _ (k0 + (n1 : Int) + 5 * (n2 : Int)) (H.out.l.now HB1.out) (by omega) (by omega) hl3).mono ?_
 rintro e W2 ⟨rfl, hb2⟩
 have HX2 := HX1.out.below hb2
 have x4 := HX2.cell_ 4 (v := .int .i64 y) rfl
 have x5 := HX2.cell_ 5 (v := .int .i64 z) rfl
 have x6 := HX2.cell_ 6 (v := .int .i64 u) rfl
 have x7 := HX2.cell_ 7 (v := .slice A4 n4 c4) rfl
 have HB2 := Hd (bT HB1.out hb2)
 clear hb2 x2 x3 HX2
 go_wp2_with fail
 refine (heldTags_any A4 c4 n4 y z u _ (k0 + (n1 : Int) + 5 * (n2 : Int) + 6 * (n3 : Int)) (H.out.o.now HB2.out) (by omega) (by omega) hl4).mono ?_
 rintro e W3 ⟨rfl, hb3⟩
 have HB3 := Hd (bT HB2.out hb3)
 clear hb3
 go_wp2
 go_ret
 exact ⟨rfl, HB3.out⟩
theorem MineE.farT {α : Type} {E : Enc α} {e ty : TypeId} {B g i : Nat} {w : World} {A : Option Addr} {l : List α} {cs : Array Value} {u : Value} (h : MineE E e B w A l) (ho : Own w g ty cs) (hne : ty ≠ e) : MineE E e B (w.setCell ⟨g, i, none⟩ u) A l := by
 rcases Nat.eq_zero_or_pos l.length with hl | hl
 ·exact ⟨⟨h.is.len, fun hn => absurd hn (by omega)⟩, fun hn => absurd hn (by omega)⟩
 ·obtain ⟨g2, cs2, rfl, _, ho2, _⟩ := h.own hl
  refine h.other (p := ⟨g, i, none⟩) (fun hg => ?_)
  replace hg : g = g2 := hg
  subst hg
  unfold Own at ho ho2
  rw [ho] at ho2
  injection ho2 with ho2
  injection ho2 with _ ho2
  exact hne ho2
theorem SlM.farT {α : Type} {E : Enc α} {e ty : TypeId} {B g i : Nat} {w : World} {v : Value} {l : List α} {cs : Array Value} {u : Value} (h : SlM E e B w v l) (ho : Own w g ty cs) (hne : ty ≠ e) : SlM E e B (w.setCell ⟨g, i, none⟩ u) v l := by
 obtain ⟨A, c, h1, h2, h3, h4⟩ := h
 exact ⟨A, c, h1, h2, h3, h4.farT ho hne⟩
theorem MaM.farT {B g i : Nat} {w : World} {vb vf vl vo : Value} {m : Ma} {cs : Array Value} {u : Value} (h : MaM B w vb vf vl vo m) (ho : Own w g 34 cs) : MaM B (w.setCell ⟨g, i, none⟩ u) vb vf vl vo m :=
 ⟨⟨h.t.b.farT ho (by decide), h.t.f.farT ho (by decide)⟩, h.l.farT ho (by decide), h.o.farT ho (by decide)⟩
theorem MaM.far9 {B g : Nat} {w : World} {vb vf vl vo : Value} {m : Ma} {cs : Array Value} (h : MaM B w vb vf vl vo m) (ho : Own w g 34 cs) (u0 u1 u2 u3 u4 u5 u6 u7 u8 : Value) :
  MaM B (((((((((w.setCell ⟨g, 0, none⟩ u0).setCell ⟨g, 1, none⟩ u1).setCell ⟨g, 2, none⟩ u2).setCell ⟨g, 3, none⟩ u3).setCell ⟨g, 4, none⟩ u4).setCell ⟨g, 5, none⟩ u5).setCell ⟨g, 6, none⟩ u6).setCell ⟨g, 7, none⟩ u7).setCell ⟨g, 8, none⟩ u8) vb vf vl vo m := by
 have o1 := ho.set_ 0 u0
 have o2 := o1.set_ 1 u1
 have o3 := o2.set_ 2 u2
 have o4 := o3.set_ 3 u3
 have o5 := o4.set_ 4 u4
 have o6 := o5.set_ 5 u5
 have o7 := o6.set_ 6 u6
 have o8 := o7.set_ 7 u7
 exact ((((((((h.farT ho).farT o1).farT o2).farT o3).farT o4).farT o5).farT o6).farT o7).farT o8
theorem Own.far9 {g h : Nat} {w : World} {ty : TypeId} {cs : Array Value} (ho : Own w h ty cs) (hne : h ≠ g) (u0 u1 u2 u3 u4 u5 u6 u7 u8 : Value) :
  Own (((((((((w.setCell ⟨g, 0, none⟩ u0).setCell ⟨g, 1, none⟩ u1).setCell ⟨g, 2, none⟩ u2).setCell ⟨g, 3, none⟩ u3).setCell ⟨g, 4, none⟩ u4).setCell ⟨g, 5, none⟩ u5).setCell ⟨g, 6, none⟩ u6).setCell ⟨g, 7, none⟩ u7).setCell ⟨g, 8, none⟩ u8) h ty cs :=
 ((((((((ho.far hne).far hne).far hne).far hne).far hne).far hne).far hne).far hne).far hne
theorem Own.set9 {g : Nat} {w : World} {ty : TypeId} {a0 a1 a2 a3 a4 a5 a6 a7 a8 : Value} (ho : Own w g ty #[a0, a1, a2, a3, a4, a5, a6, a7, a8]) (u0 u1 u2 u3 u4 u5 u6 u7 u8 : Value) :
  Own (((((((((w.setCell ⟨g, 0, none⟩ u0).setCell ⟨g, 1, none⟩ u1).setCell ⟨g, 2, none⟩ u2).setCell ⟨g, 3, none⟩ u3).setCell ⟨g, 4, none⟩ u4).setCell ⟨g, 5, none⟩ u5).setCell ⟨g, 6, none⟩ u6).setCell ⟨g, 7, none⟩ u7).setCell ⟨g, 8, none⟩ u8) g ty #[u0, u1, u2, u3, u4, u5, u6, u7, u8] := by
 have h := ((((((((ho.set_ 0 u0).set_ 1 u1).set_ 2 u2).set_ 3 u3).set_ 4 u4).set_ 5 u5).set_ 6 u6).set_ 7 u7).set_ 8 u8
 simpa using h
theorem EOwn.rs {α : Type} {E : Enc α} {e : TypeId} {w : World} {g : Nat} {l : List α} (h : EOwn E e w g l) : Rs E w.heap.size w (some ⟨g, 0, none⟩) l := by
 obtain ⟨cs, h1, h2, h3⟩ := h.own
 refine ⟨E.cells_length l, fun _ => ⟨g, 0, rfl, h1.lt, fun j u hu => ?_⟩⟩
 obtain ⟨hj, _⟩ := List.getElem?_eq_some_iff.1 hu
 rw [E.cells_length] at hj
 rw [Nat.zero_add, h1.cell, h3 j hj, hu]
theorem EOwn.oth {α : Type} {E : Enc α} {e : TypeId} {w w' : World} {g : Nat} {l : List α} {p : TypeId → Prop} (h : EOwn E e w g l) (ho : Oth p w w') (hp : ¬ p e) : EOwn E e w' g l :=
 let ⟨⟨cs, h1, h2, h3⟩⟩ := h; ⟨⟨cs, ho.2 g _ cs h1 hp, h2, h3⟩⟩
inductive RK where
 | eq (u : Value)
 | ma (m : Ma)
 | sl (fs : List Int)
 | tup (m : Ma) (o : Bool)
 | box
 | boxed (m : Ma)
def RK.at_ (b si j : Nat) : RK → Value → World → Prop
 | .eq u0, u, _ => u = u0
 | .ma m, u, v => ∃ e1 e2 e3 e4, u = .agg #[e1, e2, e3, .int .i64 m.c.hand, .int .i64 m.g.count, .int .i64 m.g.next, .int .i64 m.g.round, e4, .int .i64 m.sp] ∧ MaM b v e1 e2 e3 e4 m
 | .sl fs, u, v => ∃ g, u = .slice (some ⟨g, 0, none⟩) fs.length fs.length ∧ EOwn intE 3 v g fs
 | .tup m o, u, v => ∃ e1 e2 e3 e4, u = .tuple #[.agg #[e1, e2, e3, .int .i64 m.c.hand, .int .i64 m.g.count, .int .i64 m.g.next, .int .i64 m.g.round, e4, .int .i64 m.sp], .bool o] ∧ MaM b v e1 e2 e3 e4 m
 | .box, u, v => ∃ g a0 a1 a2 a3 a4 a5 a6 a7 a8, u = .pointer (some ⟨g, 0, none⟩) ∧ b ≤ g ∧ Own v g 34 #[a0, a1, a2, a3, a4, a5, a6, a7, a8]
 | .boxed m, u, v => j = si ∧ ∃ g e1 e2 e3 e4, u = .pointer (some ⟨g, 0, none⟩) ∧ b ≤ g ∧ Own v g 34 #[e1, e2, e3, .int .i64 m.c.hand, .int .i64 m.g.count, .int .i64 m.g.next, .int .i64 m.g.round, e4, .int .i64 m.sp] ∧ MaM b v e1 e2 e3 e4 m
def tA (si i : Nat) (v v' : World) : Prop := if i = si then Oth (fun e => e = 34) v v' ∧ (∀ g a0 a1 a2 a3 a4 a5 a6 a7 a8, Own v g 34 #[a0, a1, a2, a3, a4, a5, a6, a7, a8] → ∃ b0 b1 b2 b3 b4 b5 b6 b7 b8, Own v' g 34 #[b0, b1, b2, b3, b4, b5, b6, b7, b8]) else Below v.heap.size v v'
theorem tA.oth {si i : Nat} {v v' : World} (h : tA si i v v') : Oth (fun e => e = 34) v v' := by
 unfold tA at h
 split at h
 ·exact h.1
 ·exact Oth.of_below h
end Go.Proofs.YtfbnokjdkhcgoaaGreatDoor
namespace Go.Proofs.YtfbnokjdkhcgoaaGreatDoor
open Go.ChangeShapes Go.WideShapes Go.ChangeAt Go.RowKit Go.Joins
theorem own_ : ownKnob Tryz.prog.godebug = none := by kernel_rfl
theorem laidOut : laidOutB Tryz.prog = true := by kernel_rfl
theorem ce_int : Program.cellsOf Tryz.prog 3 = 1 := by kernel_rfl
theorem ce_bool : Program.cellsOf Tryz.prog 4 = 1 := by kernel_rfl
theorem ce_key : Program.cellsOf Tryz.prog 229 = 2 := by kernel_rfl
theorem ce_own : Program.cellsOf Tryz.prog 235 = 2 := by kernel_rfl
theorem ce_line : Program.cellsOf Tryz.prog 233 = 6 := by kernel_rfl
theorem ce_frame : Program.cellsOf Tryz.prog 231 = 5 := by kernel_rfl
theorem ce_sf : Program.cellsOf Tryz.prog 55 = 1 := by kernel_rfl
theorem ce_sl : Program.cellsOf Tryz.prog 58 = 1 := by kernel_rfl
theorem ce_so : Program.cellsOf Tryz.prog 61 = 1 := by kernel_rfl
theorem ce_si : Program.cellsOf Tryz.prog 23 = 1 := by kernel_rfl
theorem ce_table : Program.cellsOf Tryz.prog 57 = 2 := by kernel_rfl
theorem ce_cache : Program.cellsOf Tryz.prog 60 = 2 := by kernel_rfl
theorem ce_tags : Program.cellsOf Tryz.prog 63 = 4 := by kernel_rfl
theorem ce_machine : Program.cellsOf Tryz.prog 65 = 9 := by kernel_rfl
section
variable {H : Type} {enc : TypeId × Value → H} {w : World} {base : Nat} {spare : Nat → Bool} {held : Bool}
theorem fld {fs : Array Field} {t : TypeId} {fuel : Nat} {cs : List Value} {x : DataW H × List MemPlace} (ht : Tryz.prog.underlying t = some (.struct fs)) (h : DataW.trod enc Tryz.prog w base spare held fuel t cs = some x) :
  cs.length = Program.cellsOf Tryz.prog t ∧ ∃ n, ∀ (i : Nat) (f : Field), fs[i]? = some f → ∀ (ty off k : Nat), f.type = ty → f.offset = off → Program.cellsOf Tryz.prog ty = k → ∃ y, DataW.trod enc Tryz.prog w base spare held n ty ((cs.drop off).take k) = some y := by
 obtain ⟨xs, n, _, _, hl, hxl, hf⟩ := DataW.trod_struct ht h
 refine ⟨hl, n, fun i f hi ty off k e1 e2 e3 => ?_⟩
 subst e1 e2 e3
 have hlt : i < xs.length := by rw [hxl]; exact (Array.getElem?_eq_some_iff.1 hi).1
 exact ⟨xs[i], (hf i f hi).trans (List.getElem?_eq_getElem hlt)⟩
theorem one_int {n : Nat} {c : Value} {y : DataW H × List MemPlace} (h : DataW.trod enc Tryz.prog w base spare held n 3 [c] = some y) : ∃ a, c = .int .i64 a := by
 obtain ⟨a, e, _⟩ := DataW.trod_int Tryz.underlying3 h
 exact ⟨a, by simpa using e⟩
theorem one_bool {n : Nat} {c : Value} {y : DataW H × List MemPlace} (h : DataW.trod enc Tryz.prog w base spare held n 4 [c] = some y) : ∃ a, c = .bool a := by
 obtain ⟨a, e, _⟩ := DataW.trod_bool Tryz.underlying4 h
 exact ⟨a, by simpa using e⟩
theorem el_int {n : Nat} {cs : List Value} {y : DataW H × List MemPlace} (h : DataW.trod enc Tryz.prog w base spare held n 3 cs = some y) : ∃ a, cs = intE.cs a := by
 obtain ⟨a, e, _⟩ := DataW.trod_int Tryz.underlying3 h
 exact ⟨a, e⟩
theorem el_own {n : Nat} {cs : List Value} {y : DataW H × List MemPlace} (h : DataW.trod enc Tryz.prog w base spare held n 235 cs = some y) : ∃ a, cs = owE.cs a := by
 obtain ⟨hl, n, hf⟩ := fld Tryz.underlying235 h
 rw [ce_own] at hl
 match cs, hl with
 | [c0, c1], _ =>
  obtain ⟨y0, h0⟩ := hf 0 _ rfl 3 0 1 rfl rfl ce_int
  obtain ⟨y1, h1⟩ := hf 1 _ rfl 3 1 1 rfl rfl ce_int
  obtain ⟨a0, rfl⟩ := one_int (c := c0) h0
  obtain ⟨a1, rfl⟩ := one_int (c := c1) h1
  exact ⟨(a0, a1), rfl⟩
theorem el_line {n : Nat} {cs : List Value} {y : DataW H × List MemPlace} (h : DataW.trod enc Tryz.prog w base spare held n 233 cs = some y) : ∃ a, cs = lnE.cs a := by
 obtain ⟨hl, n, hf⟩ := fld Tryz.underlying233 h
 rw [ce_line] at hl
 match cs, hl with
 | [c0, c1, c2, c3, c4, c5], _ =>
  obtain ⟨y0, h0⟩ := hf 0 _ rfl 4 0 1 rfl rfl ce_bool
  obtain ⟨y1, h1⟩ := hf 1 _ rfl 3 1 1 rfl rfl ce_int
  obtain ⟨y2, h2⟩ := hf 2 _ rfl 3 2 1 rfl rfl ce_int
  obtain ⟨y3, h3⟩ := hf 3 _ rfl 3 3 1 rfl rfl ce_int
  obtain ⟨y4, h4⟩ := hf 4 _ rfl 3 4 1 rfl rfl ce_int
  obtain ⟨y5, h5⟩ := hf 5 _ rfl 4 5 1 rfl rfl ce_bool
  obtain ⟨a0, rfl⟩ := one_bool (c := c0) h0
  obtain ⟨a1, rfl⟩ := one_int (c := c1) h1
  obtain ⟨a2, rfl⟩ := one_int (c := c2) h2
  obtain ⟨a3, rfl⟩ := one_int (c := c3) h3
  obtain ⟨a4, rfl⟩ := one_int (c := c4) h4
  obtain ⟨a5, rfl⟩ := one_bool (c := c5) h5
  exact ⟨⟨a0, a1, a2, a3, a4, a5⟩, rfl⟩
theorem two_key {n : Nat} {cs : List Value} {y : DataW H × List MemPlace} (h : DataW.trod enc Tryz.prog w base spare held n 229 cs = some y) : ∃ a b, cs = [.int .i64 a, .int .i64 b] := by
 obtain ⟨hl, n, hf⟩ := fld Tryz.underlying229 h
 rw [ce_key] at hl
 match cs, hl with
 | [c0, c1], _ =>
  obtain ⟨y0, h0⟩ := hf 0 _ rfl 3 0 1 rfl rfl ce_int
  obtain ⟨y1, h1⟩ := hf 1 _ rfl 3 1 1 rfl rfl ce_int
  obtain ⟨a0, rfl⟩ := one_int (c := c0) h0
  obtain ⟨a1, rfl⟩ := one_int (c := c1) h1
  exact ⟨a0, a1, rfl⟩
theorem el_frame {n : Nat} {cs : List Value} {y : DataW H × List MemPlace} (h : DataW.trod enc Tryz.prog w base spare held n 231 cs = some y) : ∃ a, cs = frE.cs a := by
 obtain ⟨hl, n, hf⟩ := fld Tryz.underlying231 h
 rw [ce_frame] at hl
 match cs, hl with
 | [c0, c1, c2, c3, c4], _ =>
  obtain ⟨y0, h0⟩ := hf 0 _ rfl 4 0 1 rfl rfl ce_bool
  obtain ⟨y1, h1⟩ := hf 1 _ rfl 229 1 2 rfl rfl ce_key
  obtain ⟨y2, h2⟩ := hf 2 _ rfl 3 3 1 rfl rfl ce_int
  obtain ⟨y3, h3⟩ := hf 3 _ rfl 3 4 1 rfl rfl ce_int
  obtain ⟨a0, rfl⟩ := one_bool (c := c0) h0
  obtain ⟨a1, a2, e⟩ := two_key (cs := [c1, c2]) h1
  obtain ⟨a3, rfl⟩ := one_int (c := c3) h2
  obtain ⟨a4, rfl⟩ := one_int (c := c4) h3
  simp at e
  obtain ⟨rfl, rfl⟩ := e
  exact ⟨⟨a0, a1, a2, a3, a4⟩, rfl⟩
theorem open_rows {α : Type} [Inhabited α] {E : Enc α} {t e : TypeId} {fuel : Nat} {c : Value} {x : DataW H × List MemPlace} (ht : Tryz.prog.underlying t = some (.slice e)) (ce : Program.cellsOf Tryz.prog e = E.sz)
  (el : ∀ (n : Nat) (cs : List Value) (y : DataW H × List MemPlace), DataW.trod enc Tryz.prog w base spare held n e cs = some y → ∃ a, cs = E.cs a) (h : DataW.trod enc Tryz.prog w base spare held fuel t [c] = some x) : ∃ l, SlR E w c l := by
 rcases Go.Deep.open_slice ht h with ⟨hc, _⟩ | ⟨a, len, cap, m, n, D, Pl, hc, hb, hl, hm, hmm, hx, hcell⟩
 ·simp at hc
  subst hc
  exact ⟨[], SlR.nil_ _⟩
 ·simp at hc
  subst hc
  have each : ∀ i, i < len → ∃ b : α, ∀ j u, (E.cs b)[j]? = some u → w.cell? (a.add (i * E.sz + j)) = some u := by
   intro i hi
   obtain ⟨cs', h1, h2⟩ := hcell i (by have : len ≤ m := by { rw [hmm]; split <;> omega }; omega)
   obtain ⟨b, rfl⟩ := el _ _ _ h2
   obtain ⟨_, hlen, hcl⟩ := World.cells?_some h1
   refine ⟨b, fun j u hu => ?_⟩
   have hj : j < E.sz := by rw [← E.len b]; exact (List.getElem?_eq_some_iff.1 hu).1
   have := hcl j (by rw [ce]; exact hj)
   rw [Go.Deep.add_add, ce] at this
   rw [this]; exact hu
  obtain ⟨f, hf⟩ := Go.Deep.choose_lt each
  refine ⟨(List.range len).map f, some a, cap, by simp, by simpa using hl, hm, E.cells_length _, fun hn => ?_⟩
  have hn' : 0 < len := by simpa using hn
  obtain ⟨b, o, s⟩ := a
  obtain ⟨u0, hu0⟩ : ∃ u, (E.cs (f 0))[0]? = some u := ⟨_, List.getElem?_eq_getElem (by rw [E.len]; exact E.pos)⟩
  have hc0 := hf 0 hn' 0 u0 hu0
  rw [Nat.zero_mul] at hc0
  have hs : s = none := by simpa [Addr.add] using World.cell?_spot hc0
  subst hs
  rw [add_lit_] at hc0
  refine ⟨b, o, rfl, World.block_lt_of_cell? w _ hc0, fun j u hu => ?_⟩
  obtain ⟨hj, _⟩ := List.getElem?_eq_some_iff.1 hu
  rw [E.cells_length] at hj
  simp only [List.length_map, List.length_range] at hj
  have hk : j / E.sz < len := Nat.div_lt_of_lt_mul (by rw [Nat.mul_comm]; exact hj)
  have hd : j % E.sz < E.sz := Nat.mod_lt _ E.pos
  have hjj : j / E.sz * E.sz + j % E.sz = j := by rw [Nat.mul_comm]; exact Nat.div_add_mod j E.sz
  obtain ⟨u', hu'⟩ : ∃ u, (E.cs (f (j / E.sz)))[j % E.sz]? = some u := ⟨_, List.getElem?_eq_getElem (by rw [E.len]; exact hd)⟩
  have e1 : ((List.range len).map f)[j / E.sz]? = some (f (j / E.sz)) := by simp [hk]
  have h2 := E.cells_get e1 hu'
  rw [hjj, hu] at h2
  injection h2 with h2
  have h3 := hf _ hk _ _ hu'
  rw [hjj, add_lit_] at h3
  rw [h2]; exact h3
instance : Inhabited Fr := ⟨frz⟩
instance : Inhabited Ln := ⟨lnz⟩
theorem mach_cells {fuel : Nat} {cs : List Value} {y : DataW H × List MemPlace} (hsz : cs.length = 9) (hf : DataW.trod enc Tryz.prog w base spare held fuel 65 cs = some y) :
  ∃ vb vf vl vo m, cs = [vb, vf, vl, .int .i64 m.c.hand, .int .i64 m.g.count, .int .i64 m.g.next, .int .i64 m.g.round, vo, .int .i64 m.sp] ∧ MaR w vb vf vl vo m := by
 match cs, hsz with
 | [c0, c1, c2, c3, c4, c5, c6, c7, c8], _ =>
  obtain ⟨_, n, hf⟩ := fld Tryz.underlying65 hf
  obtain ⟨y0, h0⟩ := hf 0 _ rfl 57 0 2 rfl rfl ce_table
  obtain ⟨y1, h1⟩ := hf 1 _ rfl 60 2 2 rfl rfl ce_cache
  obtain ⟨y2, h2⟩ := hf 2 _ rfl 63 4 4 rfl rfl ce_tags
  obtain ⟨y3, h3⟩ := hf 3 _ rfl 3 8 1 rfl rfl ce_int
  obtain ⟨_, n0, g0⟩ := fld Tryz.underlying57 h0
  obtain ⟨_, n1, g1⟩ := fld Tryz.underlying60 h1
  obtain ⟨_, n2, g2⟩ := fld Tryz.underlying63 h2
  obtain ⟨z0, k0⟩ := g0 0 _ rfl 23 0 1 rfl rfl ce_si
  obtain ⟨z1, k1⟩ := g0 1 _ rfl 55 1 1 rfl rfl ce_sf
  obtain ⟨z2, k2⟩ := g1 0 _ rfl 58 0 1 rfl rfl ce_sl
  obtain ⟨z3, k3⟩ := g1 1 _ rfl 3 1 1 rfl rfl ce_int
  obtain ⟨z4, k4⟩ := g2 0 _ rfl 3 0 1 rfl rfl ce_int
  obtain ⟨z5, k5⟩ := g2 1 _ rfl 3 1 1 rfl rfl ce_int
  obtain ⟨z6, k6⟩ := g2 2 _ rfl 3 2 1 rfl rfl ce_int
  obtain ⟨z7, k7⟩ := g2 3 _ rfl 61 3 1 rfl rfl ce_so
  obtain ⟨l0, q0⟩ := open_rows (E := intE) Tryz.underlying23 ce_int (fun _ _ _ h => el_int h) (c := c0) k0
  obtain ⟨l1, q1⟩ := open_rows (E := frE) Tryz.underlying55 ce_frame (fun _ _ _ h => el_frame h) (c := c1) k1
  obtain ⟨l2, q2⟩ := open_rows (E := lnE) Tryz.underlying58 ce_line (fun _ _ _ h => el_line h) (c := c2) k2
  obtain ⟨l3, q3⟩ := open_rows (E := owE) Tryz.underlying61 ce_own (fun _ _ _ h => el_own h) (c := c7) k7
  obtain ⟨a3, rfl⟩ := one_int (c := c3) k3
  obtain ⟨a4, rfl⟩ := one_int (c := c4) k4
  obtain ⟨a5, rfl⟩ := one_int (c := c5) k5
  obtain ⟨a6, rfl⟩ := one_int (c := c6) k6
  obtain ⟨a8, rfl⟩ := one_int (c := c8) h3
  exact ⟨c0, c1, c2, c7, ⟨⟨l0, l1⟩, ⟨l2, a3⟩, ⟨a4, a5, a6, l3⟩, a8⟩, rfl, ⟨⟨q0, q1⟩, q2, q3⟩⟩
theorem open_ints_ {v : Value} {r : Reach} {b0 : Nat} {d : DataW H} {p : List MemPlace} (hv : Value.okWide Tryz.prog w r b0 23 v) (h : DataW.Trod enc Tryz.prog w base spare held 23 v d p) : ∃ l, SlR intE w v l := by
 obtain ⟨a0, len0, cap0, rfl⟩ := okWide_slice Tryz.underlying23 hv
 obtain ⟨fuel, hf⟩ := h
 exact open_rows (E := intE) Tryz.underlying23 ce_int (fun _ _ _ h => el_int h) hf
end
end Go.Proofs.YtfbnokjdkhcgoaaGreatDoor
namespace Go.Proofs.YtfbnokjdkhcgoaaGreatDoor
open Go.RowKit
theorem SlM.mine {α : Type} {E : Enc α} {e : TypeId} {B : Nat} {w : World} {A : Option Addr} {n c : Nat} {l : List α} (h : SlM E e B w (.slice A n c) l) : MineE E e B w A l := by
 obtain ⟨A', c', h1, _, _, h4⟩ := h
 injection h1 with h1 _ _
 rw [h1]; exact h4
theorem Tch.wide {lo hi hi' : Nat} {w w' : World} (h : Tch lo hi w w') (hh : hi ≤ hi') : Tch lo hi' w w' := ⟨h.os, h.tape, h.output, h.size, fun k hk hn => h.block k hk (fun x => hn ⟨x.1, Nat.lt_of_lt_of_le x.2 hh⟩)⟩
theorem EOwn.tch {α : Type} {E : Enc α} {e : TypeId} {w w' : World} {g lo hi : Nat} {l : List α} (h : EOwn E e w g l) (ht : Tch lo hi w w') (hg : ¬ (lo ≤ g ∧ g < hi)) : EOwn E e w' g l :=
 let ⟨⟨cs, h1, h2, h3⟩⟩ := h; ⟨⟨cs, h1.tch ht hg, h2, h3⟩⟩
theorem EOwn.mine {α : Type} {E : Enc α} {e : TypeId} {w : World} {g B : Nat} {l : List α} (h : EOwn E e w g l) (hB : B ≤ g) : MineE E e B w (some ⟨g, 0, none⟩) l := by
 refine ⟨h.rs, fun hl => ?_⟩
 obtain ⟨cs, h1, h2, h3⟩ := h.own
 exact ⟨g, cs, rfl, hB, h1, by omega⟩
inductive RL where
 | eq (u : Value)
 | ma (m : Ma)
 | tup (m : Ma) (rs : List Value)
 | box
 | boxed (m : Ma)
def RL.at_ (b si j : Nat) : RL → Value → World → Prop
 | .eq u0, u, _ => u = u0
 | .ma m, u, v => ∃ e1 e2 e3 e4, u = .agg #[e1, e2, e3, .int .i64 m.c.hand, .int .i64 m.g.count, .int .i64 m.g.next, .int .i64 m.g.round, e4, .int .i64 m.sp] ∧ MaM b v e1 e2 e3 e4 m
 | .tup m rs, u, v => ∃ e1 e2 e3 e4, u = .tuple (List.toArray (.agg #[e1, e2, e3, .int .i64 m.c.hand, .int .i64 m.g.count, .int .i64 m.g.next, .int .i64 m.g.round, e4, .int .i64 m.sp] :: rs)) ∧ MaM b v e1 e2 e3 e4 m
 | .box, u, v => ∃ g a0 a1 a2 a3 a4 a5 a6 a7 a8, u = .pointer (some ⟨g, 0, none⟩) ∧ b ≤ g ∧ Own v g 34 #[a0, a1, a2, a3, a4, a5, a6, a7, a8]
 | .boxed m, u, v => j = si ∧ ∃ g e1 e2 e3 e4, u = .pointer (some ⟨g, 0, none⟩) ∧ b ≤ g ∧ Own v g 34 #[e1, e2, e3, .int .i64 m.c.hand, .int .i64 m.g.count, .int .i64 m.g.next, .int .i64 m.g.round, e4, .int .i64 m.sp] ∧ MaM b v e1 e2 e3 e4 m
end Go.Proofs.YtfbnokjdkhcgoaaGreatDoor
