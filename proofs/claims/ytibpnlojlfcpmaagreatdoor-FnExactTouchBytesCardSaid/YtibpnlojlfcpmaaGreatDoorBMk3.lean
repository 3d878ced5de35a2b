/- A part of the proofs of this seat: Mk3. -/
import Derived.Deep.RegionHeldLaw
import Derived.Below
import Derived.Test.YtibpnlojlfcpmaaGreatDoorBTbI
set_option linter.unusedVariables false
set_option linter.unusedSimpArgs false
set_option maxRecDepth 1000000
namespace Go.Proofs.YtibpnlojlfcpmaaGreatDoor
open Go.RowKit
theorem MineE.ownk {α : Type} {E : Enc α} {e : TypeId} {B : Nat} {w w' : World} {A : Option Addr} {l : List α} (h : MineE E e B w A l) (hs : w.heap.size ≤ w'.heap.size) (hk : ∀ g cs, Own w g e cs → rowOf l.length A = some g → Own w' g e cs) : MineE E e B w' A l := by
 refine ⟨⟨h.is.len, fun hn => ?_⟩, fun hl => ?_⟩
 ·obtain ⟨g, cs, rfl, hbg, ho, _⟩ := h.own hn
  obtain ⟨b, o, e, hb, hc⟩ := h.is.at_ hn
  injection e with e
  injection e with e1 e2
  subst e1 e2
  have ho2 := hk _ _ ho (rowOf_some (by omega))
  refine ⟨g, 0, rfl, by omega, fun j u hu => ?_⟩
  have hh := hc j u hu
  rw [ho.cell] at hh
  rw [ho2.cell]
  exact hh
 ·obtain ⟨g, cs, e, hbg, ho, hs⟩ := h.own hl
  exact ⟨g, cs, e, hbg, hk _ _ ho (by rw [e]; exact rowOf_some (by omega)), hs⟩
theorem Mk.apart {f : Nat → Value} {sz : Nat} {e : TypeId} {w w' : World} {A : Option Addr} {n : Nat} {r : Option Nat} (h : Mk f sz e w A n) (hg : w.grownBy w' r) (hne : ∀ g, rowOf n A = some g → r ≠ some g) : Mk f sz e w' A n :=
 ⟨fun hn => let ⟨g, cs, e1, o1, hs, hc⟩ := h.own hn; ⟨g, cs, e1, own_other o1 hg (fun e2 => hne g (by rw [e1]; exact rowOf_some (by omega)) e2.symm), hs, hc⟩⟩
theorem MkM.beside {k0 : Int} {w w' : World} {A1 A2 A3 A4 A' : Option Addr} {n1 n2 n3 n4 n' : Nat} (h : MkM k0 w A1 A2 A3 A4 n1 n2 n3 n4) (hg : w.grownBy w' (rowOf n' A')) (ho : 0 < n' → ∃ g cs, A' = some ⟨g, 0, none⟩ ∧ Own w g 3 cs) (hne : ∀ g, rowOf n1 A1 = some g → rowOf n' A' ≠ some g) : MkM k0 w' A1 A2 A3 A4 n1 n2 n3 n4 :=
 ⟨h.b.apart hg hne, h.f.other hg ho (by decide), h.l.other hg ho (by decide), h.o.other hg ho (by decide)⟩
theorem apart_rows {A1 A : Option Addr} {n1 c1 n c : Nat} (h : Apart (.slice A1 n1 c1) (.slice A n c)) : ∀ g, rowOf n1 A1 = some g → rowOf n A ≠ some g := by
 intro g h1 h2
 unfold rowOf at h1 h2
 split at h1
 ·cases h1
 split at h2
 ·cases h2
 obtain ⟨a1, rfl⟩ : ∃ a, A1 = some a := by cases A1 with | none => cases h1 | some a => exact ⟨a, rfl⟩
 obtain ⟨a2, rfl⟩ : ∃ a, A = some a := by cases A with | none => cases h2 | some a => exact ⟨a, rfl⟩
 have e1 : a1.block = g := by injection h1
 have e2 : a2.block = g := by injection h2
 exact h a1 n1 c1 rfl (by omega) (by show some a2.block = some a1.block; rw [e1, e2])
set_option maxHeartbeats 2000000 in
theorem markTable_i (B : Nat) (A1 A2 : Option Addr) (c1 c2 : Nat) (t : Tab) (w : World) (k0 : Int) (h1 : MineE intE 3 B w A1 t.bs) (h2 : MineE frE 66 B w A2 t.fs) (hi : Nat) (hr1 : ∀ k, rowOf t.bs.length A1 = some k → k < hi) (hr2 : ∀ k, rowOf t.fs.length A2 = some k → k < hi) (hk0 : 0 ≤ k0) (hk1 : k0 ≤ 536870912) (hl1 : t.bs.length ≤ 1048576) (hl2 : t.fs.length ≤ 1048576) :
  Calls Tryz.prog 67 #[.agg #[.slice A1 t.bs.length c1, .slice A2 t.fs.length c2], .int .i64 k0] w fun r w' => r = .returned (.int .i64 (k0 + (t.bs.length : Int) + 5 * (t.fs.length : Int))) ∧ Mk (mkE bInt 1 k0) 1 3 w' A1 t.bs.length ∧ Mk (mkE bFrame 5 (k0 + (t.bs.length : Int))) 5 66 w' A2 t.fs.length
   ∧ Tch B hi w w' ∧ Oth (fun e => e = 3 ∨ e = 66) w w' ∧ (∀ g cs, Own w g 3 cs → rowOf t.bs.length A1 ≠ some g → Own w' g 3 cs) := by
 have hx := Own.new_ w 40 #[.slice A1 t.bs.length c1, .slice A2 t.fs.length c2]
 have hb0 : Below w.heap.size w (w.alloc (.cells #[.slice A1 t.bs.length c1, .slice A2 t.fs.length c2] 40)) := bA bR
 generalize hW0 : w.alloc (.cells #[.slice A1 t.bs.length c1, .slice A2 t.fs.length c2] 40) = W0 at hx hb0
 have x0 := hx.cell_ 0 (v := .slice A1 t.bs.length c1) rfl
 have HX := Hd hx
 have HB0 := Hd hb0
 have H1 := Hd h1
 have H2 := Hd h2
 clear hx hb0 h1 h2
 go_enter Tryz.func67, Tryz.ntmps67
 go_wp2_with fail
 refine (markIntS_any B A1 c1 t.bs.length t.bs _ k0 (H1.out.below HB0.out) rfl hk0 (by omega) hl1).mono ?_
 rintro e W1 ⟨rfl, hm1, hg1, ho1⟩
 have ot1 := oth_of hg1 ho1
 have x1 := (ot1.2 _ _ _ HX.out (by decide)).cell_ 1 (v := .slice A2 t.fs.length c2) rfl
 have HK1 : Hid (∀ g cs, Own w g 3 cs → rowOf t.bs.length A1 ≠ some g → Own W1 g 3 cs) := Hd (fun g cs o hne => own_other (o.below HB0.out) hg1 (fun e => hne e.symm))
 have HM1 := Hd hm1
 have HO1 := Hd ot1
 have HT1 := Hd ((Tch.of_below HB0.out).trans (Tch.grown hg1 (fun k hk => ⟨(H1.out.row k hk).1, hr1 k hk⟩)))
 clear hm1 hg1 ho1 ot1 x0
 go_wp2_with fail
 refine (markFrameS_any B A2 c2 t.fs.length t.fs _ (k0 + (t.bs.length : Int)) ((H2.out.below HB0.out).oth HO1.out (by decide)) rfl (by omega) (by omega) hl2).mono ?_
 rintro e W2 ⟨rfl, hm2, hg2, ho2⟩
 have HM2 := Hd hm2
 have HT2 := Hd (HT1.out.trans (Tch.grown hg2 (fun k hk => ⟨(H2.out.row k hk).1, hr2 k hk⟩)))
 have ot2 := oth_of hg2 ho2
 have HM3 := Hd (HM1.out.oth ot2 (by decide))
 have HK2 : Hid (∀ g cs, Own w g 3 cs → rowOf t.bs.length A1 ≠ some g → Own W2 g 3 cs) := Hd (fun g cs o hne => ot2.2 _ _ _ (HK1.out g cs o hne) (by decide))
 have HO2 := Hd ((HO1.out.trans ot2).far HB0.out)
 clear hm2 hg2 ho2 ot2
 go_wp2
 go_ret
 exact ⟨rfl, HM3.out, HM2.out, HT2.out, HO2.out, HK2.out⟩
set_option maxHeartbeats 2000000 in
theorem markMachine_i (B : Nat) (A1 A2 A3 A4 : Option Addr) (c1 c2 c3 c4 : Nat) (m : Ma) (w : World) (k0 : Int) (h1 : MineE intE 3 B w A1 m.t.bs) (h2 : MineE frE 66 B w A2 m.t.fs) (h3 : MineE lnE 129 B w A3 m.c.ls) (h4 : MineE owE 126 B w A4 m.g.os)
  (hi : Nat) (hr1 : ∀ k, rowOf m.t.bs.length A1 = some k → k < hi) (hr2 : ∀ k, rowOf m.t.fs.length A2 = some k → k < hi) (hr3 : ∀ k, rowOf m.c.ls.length A3 = some k → k < hi) (hr4 : ∀ k, rowOf m.g.os.length A4 = some k → k < hi) (hk0 : 0 ≤ k0) (hk1 : k0 ≤ 536870912) (hl1 : m.t.bs.length ≤ 1048576) (hl2 : m.t.fs.length ≤ 1048576) (hl3 : m.c.ls.length ≤ 1048576) (hl4 : m.g.os.length ≤ 1048576) :
  Calls Tryz.prog 19 #[.agg #[.slice A1 m.t.bs.length c1, .slice A2 m.t.fs.length c2, .slice A3 m.c.ls.length c3, .int .i64 m.c.hand, .int .i64 m.g.count, .int .i64 m.g.next, .int .i64 m.g.round, .slice A4 m.g.os.length c4, .int .i64 m.sp], .int .i64 k0] w
   fun r w' => r = .returned (.int .i64 (k0 + (m.t.bs.length : Int) + 5 * (m.t.fs.length : Int) + 6 * (m.c.ls.length : Int) + 2 * (m.g.os.length : Int))) ∧ MkM k0 w' A1 A2 A3 A4 m.t.bs.length m.t.fs.length m.c.ls.length m.g.os.length ∧ Tch B hi w w' ∧ Oth (fun e => ((e = 3 ∨ e = 66) ∨ e = 129) ∨ e = 126) w w' ∧ (∀ g cs, Own w g 3 cs → rowOf m.t.bs.length A1 ≠ some g → Own w' g 3 cs) := by
 have hx := Own.new_ w 48 #[.slice A1 m.t.bs.length c1, .slice A2 m.t.fs.length c2, .slice A3 m.c.ls.length c3, .int .i64 m.c.hand, .int .i64 m.g.count, .int .i64 m.g.next, .int .i64 m.g.round, .slice A4 m.g.os.length c4, .int .i64 m.sp]
 have hb0 : Below w.heap.size w (w.alloc (.cells #[.slice A1 m.t.bs.length c1, .slice A2 m.t.fs.length c2, .slice A3 m.c.ls.length c3, .int .i64 m.c.hand, .int .i64 m.g.count, .int .i64 m.g.next, .int .i64 m.g.round, .slice A4 m.g.os.length c4, .int .i64 m.sp] 48)) := bA bR
 generalize hW0 : w.alloc (.cells #[.slice A1 m.t.bs.length c1, .slice A2 m.t.fs.length c2, .slice A3 m.c.ls.length c3, .int .i64 m.c.hand, .int .i64 m.g.count, .int .i64 m.g.next, .int .i64 m.g.round, .slice A4 m.g.os.length c4, .int .i64 m.sp] 48) = W0 at hx hb0
 have x0 := hx.cell_ 0 (v := .slice A1 m.t.bs.length c1) rfl
 have x1 := hx.cell_ 1 (v := .slice A2 m.t.fs.length c2) rfl
 have HX := Hd hx
 have HB0 := Hd hb0
 clear hx hb0
 have H1 := Hd h1
 have H2 := Hd h2
 have H3 := Hd h3
 have H4 := Hd h4
 clear h1 h2 h3 h4
 go_enter Tryz.func19, Tryz.ntmps19
 go_wp2_with fail
 refine (markTable_i B A1 A2 c1 c2 m.t _ k0 (H1.out.below HB0.out) (H2.out.below HB0.out) hi hr1 hr2 hk0 hk1 hl1 hl2).mono ?_
 rintro e W1 ⟨rfl, hm1, hm2, ht1, ho1, hk1'⟩
 have HK1 := Hd hk1'
 clear hk1'
 have x2 := (ho1.2 _ _ _ HX.out (by decide)).cell_ 2 (v := .slice A3 m.c.ls.length c3) rfl
 have x3 := (ho1.2 _ _ _ HX.out (by decide)).cell_ 3 (v := .int .i64 m.c.hand) rfl
 have HX1 := Hd (ho1.2 _ _ _ HX.out (by decide))
 have HM1 := Hd hm1
 have HM2 := Hd hm2
 have HT1 := Hd ht1
 have HL1 := Hd ((H3.out.below HB0.out).oth ho1 (by decide))
 have HW1 := Hd ((H4.out.below HB0.out).oth ho1 (by decide))
 have HO1 := Hd ho1
 clear hm1 hm2 ht1 ho1 x0 x1
 go_wp2_with fail
 refine (markCache_any B A3 c3 m.c.hand 0 0 m.c.ls _ (k0 + (m.t.bs.length : Int) + 5 * (m.t.fs.length : Int)) HL1.out hi hr3 (by omega) (by omega) hl3).mono ?_
 rintro e W2 ⟨rfl, hm3, ht2, ho2⟩
 have HX2 := ho2.2 _ _ _ HX1.out (by decide)
 have x4 := HX2.cell_ 4 (v := .int .i64 m.g.count) rfl
 have x5 := HX2.cell_ 5 (v := .int .i64 m.g.next) rfl
 have x6 := HX2.cell_ 6 (v := .int .i64 m.g.round) rfl
 have x7 := HX2.cell_ 7 (v := .slice A4 m.g.os.length c4) rfl
 have HN1 := Hd (HM1.out.oth ho2 (by decide))
 have HN2 := Hd (HM2.out.oth ho2 (by decide))
 have HN3 := Hd hm3
 have HT2 := Hd ht2
 have HW2 := Hd (HW1.out.oth ho2 (by decide))
 have HO2 := Hd (HO1.out.trans ho2)
 have HK2 : Hid (∀ g cs, Own w g 3 cs → rowOf m.t.bs.length A1 ≠ some g → Own W2 g 3 cs) := Hd (fun g cs o hne => ho2.2 _ _ _ (HK1.out g cs (o.below HB0.out) hne) (by decide))
 clear hm3 ht2 ho2 x2 x3 HX2
 go_wp2_with fail
 refine (markTags_any B A4 c4 m.g.count m.g.next m.g.round m.g.os _ (k0 + (m.t.bs.length : Int) + 5 * (m.t.fs.length : Int) + 6 * (m.c.ls.length : Int)) HW2.out hi hr4 (by omega) (by omega) hl4).mono ?_
 rintro e W3 ⟨rfl, hm4, ht3, ho3⟩
 have HE := Hd (MkM.mk (HN1.out.oth ho3 (by decide)) (HN2.out.oth ho3 (by decide)) (HN3.out.oth ho3 (by decide)) hm4)
 have HT3 := Hd ht3
 have HO3 := Hd ((HO2.out.trans ho3).far HB0.out)
 have HK3 : Hid (∀ g cs, Own w g 3 cs → rowOf m.t.bs.length A1 ≠ some g → Own W3 g 3 cs) := Hd (fun g cs o hne => ho3.2 _ _ _ (HK2.out g cs o hne) (by decide))
 clear hm4 ht3 ho3
 go_wp2
 go_ret
 exact ⟨rfl, HE.out, ((Tch.of_below HB0.out).trans HT1.out).trans (HT2.out.trans HT3.out), HO3.out, HK3.out⟩
end Go.Proofs.YtibpnlojlfcpmaaGreatDoor
