/- A part of the proofs of this seat: Mk2, RelA, RelB, RelC. -/
import Derived.Deep.RegionHeldLaw
import Derived.Test.YtibpnlojlfcpmaaGreatDoorRMkv1
import Derived.Test.YtibpnlojlfcpmaaGreatDoorRRelA
set_option linter.unusedVariables false
set_option linter.unusedSimpArgs false
set_option maxRecDepth 1000000
namespace Go.Proofs.YtibpnlojlfcpmaaGreatDoor
open Go.RowKit
section
variable {p : TypeId → Prop} {w w' w'' : World} {e e' : TypeId} {A : Option Addr} {n : Nat}
theorem oth_of (hg : w.grownBy w' (rowOf n A)) (ho : 0 < n → ∃ g cs, A = some ⟨g, 0, none⟩ ∧ Own w g e cs) : Oth (fun x => x = e) w w' := by
 refine ⟨hg.size, fun g e' cs o1 hne => (hg.block g o1.lt (fun hk => ?_)).trans o1⟩
 by_cases h0 : n = 0
 ·rw [h0] at hk; cases hk
 ·obtain ⟨g', cs', rfl, o2⟩ := ho (by omega)
  rw [rowOf_some h0] at hk
  injection hk with hk
  subst hk
  have h3 := o1.symm.trans o2
  injection h3 with h3
  injection h3 with _ h3
  exact hne h3
end
set_option maxHeartbeats 2000000 in
theorem markTable_any (B : Nat) (A1 A2 : Option Addr) (c1 c2 : Nat) (t : Tab) (w : World) (k0 : Int) (h1 : MineE intE 3 B w A1 t.bs) (h2 : MineE frE 66 B w A2 t.fs) (hi : Nat) (hr1 : ∀ k, rowOf t.bs.length A1 = some k → k < hi) (hr2 : ∀ k, rowOf t.fs.length A2 = some k → k < hi) (hk0 : 0 ≤ k0) (hk1 : k0 ≤ 536870912) (hl1 : t.bs.length ≤ 1048576) (hl2 : t.fs.length ≤ 1048576) :
  Calls Tryz.prog 67 #[.agg #[.slice A1 t.bs.length c1, .slice A2 t.fs.length c2], .int .i64 k0] w fun r w' => r = .returned (.int .i64 (k0 + (t.bs.length : Int) + 5 * (t.fs.length : Int))) ∧ Mk (mkE bInt 1 k0) 1 3 w' A1 t.bs.length ∧ Mk (mkE bFrame 5 (k0 + (t.bs.length : Int))) 5 66 w' A2 t.fs.length
   ∧ Tch B hi w w' ∧ Oth (fun e => e = 3 ∨ e = 66) w w' := by
 have hx := Own.new_ w 40 #[.slice A1 t.bs.length c1, .slice A2 t.fs.length c2]
 have hb0 : Below w.heap.size w (w.alloc (.cells #[.slice A1 t.bs.length c1, .slice A2 t.fs.length c2] 40)) := bA bR
 generalize hW0 : w.alloc (.cells #[.slice A1 t.bs.length c1, .slice A2 t.fs.length c2] 40) = W0 at hx hb0
 have x0 := hx.cell_ 0 (v := .slice A1 t.bs.length c1) rfl
 have HX := Hd hx
 have HB0 := Hd hb0
 have H1 := Hd h1
 have H2 := Hd h2
 clear hx hb0 h1 h2
 go_enter Tryz.func67, Tryz.ntmps67
 go_wp2_with fail
 refine (markIntS_any B A1 c1 t.bs.length t.bs _ k0 (H1.out.below HB0.out) rfl hk0 (by omega) hl1).mono ?_
 rintro e W1 ⟨rfl, hm1, hg1, ho1⟩
 have ot1 := oth_of hg1 ho1
 have x1 := (ot1.2 _ _ _ HX.out (by decide)).cell_ 1 (v := .slice A2 t.fs.length c2) rfl
 have HM1 := Hd hm1
 have HO1 := Hd ot1
 have HT1 := Hd ((Tch.of_below HB0.out).trans (Tch.grown hg1 (fun k hk => ⟨(H1.out.row k hk).1, hr1 k hk⟩)))
 clear hm1 hg1 ho1 ot1 x0
 go_wp2_with fail
 refine (markFrameS_any B A2 c2 t.fs.length t.fs _ (k0 + (t.bs.length : Int)) ((H2.out.below HB0.out).oth HO1.out (by decide)) rfl (by omega) (by omega) hl2).mono ?_
 rintro e W2 ⟨rfl, hm2, hg2, ho2⟩
 have HM2 := Hd hm2
 have HT2 := Hd (HT1.out.trans (Tch.grown hg2 (fun k hk => ⟨(H2.out.row k hk).1, hr2 k hk⟩)))
 have ot2 := oth_of hg2 ho2
 have HM3 := Hd (HM1.out.oth ot2 (by decide))
 have HO2 := Hd ((HO1.out.trans ot2).far HB0.out)
 clear hm2 hg2 ho2 ot2
 go_wp2
 go_ret
 exact ⟨rfl, HM3.out, HM2.out, HT2.out, HO2.out⟩
set_option maxHeartbeats 2000000 in
theorem markCache_any (B : Nat) (A1 : Option Addr) (c1 : Nat) (x y z : Int) (l : List (Ln)) (w : World) (k0 : Int) (h1 : MineE lnE 129 B w A1 l) (hi : Nat) (hr : ∀ k, rowOf l.length A1 = some k → k < hi) (hk0 : 0 ≤ k0) (hk1 : k0 ≤ 1073741824) (hl1 : l.length ≤ 1048576) :
  Calls Tryz.prog 68 #[.agg #[.slice A1 l.length c1, .int .i64 x], .int .i64 k0] w fun r w' => r = .returned (.int .i64 (k0 + 6 * (l.length : Int))) ∧ Mk (mkE bLine 6 k0) 6 129 w' A1 l.length
   ∧ Tch B hi w w' ∧ Oth (fun e => e = 129) w w' := by
 have H1 := Hd h1
 clear h1
 go_enter Tryz.func68, Tryz.ntmps68
 go_wp2_with fail
 refine (markLineS_any B A1 c1 l.length l _ k0 (H1.out.below (bA bR)) rfl hk0 (by omega) hl1).mono ?_
 rintro e W1 ⟨rfl, hm1, hg1, ho1⟩
 have HO1 := Hd ((oth_of hg1 ho1).far (bA bR))
 have HT1 := Hd ((Tch.of_below (bA bR)).trans (Tch.grown hg1 (fun k hk => ⟨(H1.out.row k hk).1, hr k hk⟩)))
 have HM1 := Hd hm1
 clear hm1 hg1 ho1
 go_wp2
 go_ret
 exact ⟨rfl, HM1.out, HT1.out, HO1.out⟩
set_option maxHeartbeats 2000000 in
theorem markTags_any (B : Nat) (A1 : Option Addr) (c1 : Nat) (x y z : Int) (l : List (Int × Int)) (w : World) (k0 : Int) (h1 : MineE owE 126 B w A1 l) (hi : Nat) (hr : ∀ k, rowOf l.length A1 = some k → k < hi) (hk0 : 0 ≤ k0) (hk1 : k0 ≤ 1073741824) (hl1 : l.length ≤ 1048576) :
  Calls Tryz.prog 69 #[.agg #[.int .i64 x, .int .i64 y, .int .i64 z, .slice A1 l.length c1], .int .i64 k0] w fun r w' => r = .returned (.int .i64 (k0 + 2 * (l.length : Int))) ∧ Mk (mkE bOwn 2 k0) 2 126 w' A1 l.length
   ∧ Tch B hi w w' ∧ Oth (fun e => e = 126) w w' := by
 have H1 := Hd h1
 clear h1
 go_enter Tryz.func69, Tryz.ntmps69
 go_wp2_with fail
 refine (markOwnS_any B A1 c1 l.length l _ k0 (H1.out.below (bA bR)) rfl hk0 (by omega) hl1).mono ?_
 rintro e W1 ⟨rfl, hm1, hg1, ho1⟩
 have HO1 := Hd ((oth_of hg1 ho1).far (bA bR))
 have HT1 := Hd ((Tch.of_below (bA bR)).trans (Tch.grown hg1 (fun k hk => ⟨(H1.out.row k hk).1, hr k hk⟩)))
 have HM1 := Hd hm1
 clear hm1 hg1 ho1
 go_wp2
 go_ret
 exact ⟨rfl, HM1.out, HT1.out, HO1.out⟩
set_option maxHeartbeats 2000000 in
theorem markMachine_any (B : Nat) (A1 A2 A3 A4 : Option Addr) (c1 c2 c3 c4 : Nat) (m : Ma) (w : World) (k0 : Int) (h1 : MineE intE 3 B w A1 m.t.bs) (h2 : MineE frE 66 B w A2 m.t.fs) (h3 : MineE lnE 129 B w A3 m.c.ls) (h4 : MineE owE 126 B w A4 m.g.os)
  (hi : Nat) (hr1 : ∀ k, rowOf m.t.bs.length A1 = some k → k < hi) (hr2 : ∀ k, rowOf m.t.fs.length A2 = some k → k < hi) (hr3 : ∀ k, rowOf m.c.ls.length A3 = some k → k < hi) (hr4 : ∀ k, rowOf m.g.os.length A4 = some k → k < hi) (hk0 : 0 ≤ k0) (hk1 : k0 ≤ 536870912) (hl1 : m.t.bs.length ≤ 1048576) (hl2 : m.t.fs.length ≤ 1048576) (hl3 : m.c.ls.length ≤ 1048576) (hl4 : m.g.os.length ≤ 1048576) :
  Calls Tryz.prog 19 #[.agg #[.slice A1 m.t.bs.length c1, .slice A2 m.t.fs.length c2, .slice A3 m.c.ls.length c3, .int .i64 m.c.hand, .int .i64 m.g.count, .int .i64 m.g.next, .int .i64 m.g.round, .slice A4 m.g.os.length c4, .int .i64 m.sp], .int .i64 k0] w
   fun r w' => r = .returned (.int .i64 (k0 + (m.t.bs.length : Int) + 5 * (m.t.fs.length : Int) + 6 * (m.c.ls.length : Int) + 2 * (m.g.os.length : Int))) ∧ MkM k0 w' A1 A2 A3 A4 m.t.bs.length m.t.fs.length m.c.ls.length m.g.os.length ∧ Tch B hi w w' ∧ Oth (fun e => ((e = 3 ∨ e = 66) ∨ e = 129) ∨ e = 126) w w' := by
 have hx := Own.new_ w 48 #[.slice A1 m.t.bs.length c1, .slice A2 m.t.fs.length c2, .slice A3 m.c.ls.length c3, .int .i64 m.c.hand, .int .i64 m.g.count, .int .i64 m.g.next, .int .i64 m.g.round, .slice A4 m.g.os.length c4, .int .i64 m.sp]
 have hb0 : Below w.heap.size w (w.alloc (.cells #[.slice A1 m.t.bs.length c1, .slice A2 m.t.fs.length c2, .slice A3 m.c.ls.length c3, .int .i64 m.c.hand, .int .i64 m.g.count, .int .i64 m.g.next, .int .i64 m.g.round, .slice A4 m.g.os.length c4, .int .i64 m.sp] 48)) := bA bR
 generalize hW0 : w.alloc (.cells #[.slice A1 m.t.bs.length c1, .slice A2 m.t.fs.length c2, .slice A3 m.c.ls.length c3, .int .i64 m.c.hand, .int .i64 m.g.count, .int .i64 m.g.next, .int .i64 m.g.round, .slice A4 m.g.os.length c4, .int .i64 m.sp] 48) = W0 at hx hb0
 have x0 := hx.cell_ 0 (v := .slice A1 m.t.bs.length c1) rfl
 have x1 := hx.cell_ 1 (v := .slice A2 m.t.fs.length c2) rfl
 have HX := Hd hx
 have HB0 := Hd hb0
 clear hx hb0
 have H1 := Hd h1
 have H2 := Hd h2
 have H3 := Hd h3
 have H4 := Hd h4
 clear h1 h2 h3 h4
 go_enter Tryz.func19, Tryz.ntmps19
 go_wp2_with fail
 refine (markTable_any B A1 A2 c1 c2 m.t _ k0 (H1.out.below HB0.out) (H2.out.below HB0.out) hi hr1 hr2 hk0 hk1 hl1 hl2).mono ?_
 rintro e W1 ⟨rfl, hm1, hm2, ht1, ho1⟩
 have x2 := (ho1.2 _ _ _ HX.out (by decide)).cell_ 2 (v := .slice A3 m.c.ls.length c3) rfl
 have x3 := (ho1.2 _ _ _ HX.out (by decide)).cell_ 3 (v := .int .i64 m.c.hand) rfl
 have HX1 := Hd (ho1.2 _ _ _ HX.out (by decide))
 have HM1 := Hd hm1
 have HM2 := Hd hm2
 have HT1 := Hd ht1
 have HL1 := Hd ((H3.out.below HB0.out).oth ho1 (by decide))
 have HW1 := Hd ((H4.out.below HB0.out).oth ho1 (by decide))
 have HO1 := Hd ho1
 clear hm1 hm2 ht1 ho1 x0 x1
 go_wp2_with fail
 refine (markCache_any B A3 c3 m.c.hand 0 0 m.c.ls _ (k0 + (m.t.bs.length : Int) + 5 * (m.t.fs.length : Int)) HL1.out hi hr3 (by omega) (by omega) hl3).mono ?_
 rintro e W2 ⟨rfl, hm3, ht2, ho2⟩
 have HX2 := ho2.2 _ _ _ HX1.out (by decide)
 have x4 := HX2.cell_ 4 (v := .int .i64 m.g.count) rfl
 have x5 := HX2.cell_ 5 (v := .int .i64 m.g.next) rfl
 have x6 := HX2.cell_ 6 (v := .int .i64 m.g.round) rfl
 have x7 := HX2.cell_ 7 (v := .slice A4 m.g.os.length c4) rfl
 have HN1 := Hd (HM1.out.oth ho2 (by decide))
 have HN2 := Hd (HM2.out.oth ho2 (by decide))
 have HN3 := Hd hm3
 have HT2 := Hd ht2
 have HW2 := Hd (HW1.out.oth ho2 (by decide))
 have HO2 := Hd (HO1.out.trans ho2)
 clear hm3 ht2 ho2 x2 x3 HX2
 go_wp2_with fail
 refine (markTags_any B A4 c4 m.g.count m.g.next m.g.round m.g.os _ (k0 + (m.t.bs.length : Int) + 5 * (m.t.fs.length : Int) + 6 * (m.c.ls.length : Int)) HW2.out hi hr4 (by omega) (by omega) hl4).mono ?_
 rintro e W3 ⟨rfl, hm4, ht3, ho3⟩
 have HE := Hd (MkM.mk (HN1.out.oth ho3 (by decide)) (HN2.out.oth ho3 (by decide)) (HN3.out.oth ho3 (by decide)) hm4)
 have HT3 := Hd ht3
 have HO3 := Hd ((HO2.out.trans ho3).far HB0.out)
 clear hm4 ht3 ho3
 go_wp2
 go_ret
 exact ⟨rfl, HE.out, ((Tch.of_below HB0.out).trans HT1.out).trans (HT2.out.trans HT3.out), HO3.out⟩
theorem MaM.othM {b : Nat} {w w' : World} {v1 v2 v3 v4 : Value} {m : Ma} (h : MaM b w v1 v2 v3 v4 m) (ho : Oth (fun e => e = 48) w w') : MaM b w' v1 v2 v3 v4 m := h.oth ho (by decide) (by decide) (by decide) (by decide)
theorem tA_same {si i : Nat} {v : World} : tA si i v v := by
 unfold tA
 split
 ·exact ⟨Oth.of_below bR, fun g a0 a1 a2 a3 a4 a5 a6 a7 a8 h => ⟨_, _, _, _, _, _, _, _, _, h⟩⟩
 ·exact bR
theorem tA_below {si i : Nat} {v v' : World} (hi : i ≠ si) (h : Below v.heap.size v v') : tA si i v v' := by
 unfold tA
 rw [if_neg hi]
 exact h
theorem SlM.mine {α : Type} {E : Enc α} {e : TypeId} {B : Nat} {w : World} {A : Option Addr} {n c : Nat} {l : List α} (h : SlM E e B w (.slice A n c) l) : MineE E e B w A l := by
 obtain ⟨A', c', h1, _, _, h4⟩ := h
 injection h1 with h1 _ _
 rw [h1]; exact h4
theorem EOwn.tch {α : Type} {E : Enc α} {e : TypeId} {w w' : World} {g lo hi : Nat} {l : List α} (h : EOwn E e w g l) (ht : Tch lo hi w w') (hg : ¬ (lo ≤ g ∧ g < hi)) : EOwn E e w' g l :=
 let ⟨⟨cs, h1, h2, h3⟩⟩ := h; ⟨⟨cs, h1.tch ht hg, h2, h3⟩⟩
theorem EOwn.mine {α : Type} {E : Enc α} {e : TypeId} {w : World} {g B : Nat} {l : List α} (h : EOwn E e w g l) (hB : B ≤ g) : MineE E e B w (some ⟨g, 0, none⟩) l := by
 refine ⟨h.rs, fun hl => ?_⟩
 obtain ⟨cs, h1, h2, h3⟩ := h.own
 exact ⟨g, cs, rfl, hB, h1, by omega⟩
inductive RL where
 | eq (u : Value)
 | ma (m : Ma)
 | tup (m : Ma) (rs : List Value)
 | box
 | boxed (m : Ma)
def RL.at_ (b si j : Nat) : RL → Value → World → Prop
 | .eq u0, u, _ => u = u0
 | .ma m, u, v => ∃ e1 e2 e3 e4, u = .agg #[e1, e2, e3, .int .i64 m.c.hand, .int .i64 m.g.count, .int .i64 m.g.next, .int .i64 m.g.round, e4, .int .i64 m.sp] ∧ MaM b v e1 e2 e3 e4 m
 | .tup m rs, u, v => ∃ e1 e2 e3 e4, u = .tuple (List.toArray (.agg #[e1, e2, e3, .int .i64 m.c.hand, .int .i64 m.g.count, .int .i64 m.g.next, .int .i64 m.g.round, e4, .int .i64 m.sp] :: rs)) ∧ MaM b v e1 e2 e3 e4 m
 | .box, u, v => ∃ g a0 a1 a2 a3 a4 a5 a6 a7 a8, u = .pointer (some ⟨g, 0, none⟩) ∧ b ≤ g ∧ Own v g 48 #[a0, a1, a2, a3, a4, a5, a6, a7, a8]
 | .boxed m, u, v => j = si ∧ ∃ g e1 e2 e3 e4, u = .pointer (some ⟨g, 0, none⟩) ∧ b ≤ g ∧ Own v g 48 #[e1, e2, e3, .int .i64 m.c.hand, .int .i64 m.g.count, .int .i64 m.g.next, .int .i64 m.g.round, e4, .int .i64 m.sp] ∧ MaM b v e1 e2 e3 e4 m
def rls (b si : Nat) (ks : List RL) (j : Nat) (u : Value) (v : World) : Prop := match ks[j]? with | some k => k.at_ b si j u v | none => True
theorem rls_keep {b si : Nat} {ks : List RL} {i j : Nat} {u : Value} {v v' : World} (hij : i ≠ j) (h : rls b si ks j u v) (ht : tA si i v v') : rls b si ks j u v' := by
 have ho := ht.oth
 unfold rls at h ⊢
 cases hk : ks[j]? with
 | none => trivial
 | some k =>
  rw [hk] at h
  cases k with
  | eq u0 => exact h
  | ma m => obtain ⟨e1, e2, e3, e4, h1, h2⟩ := h; exact ⟨e1, e2, e3, e4, h1, h2.othM ho⟩
  | tup m o => obtain ⟨e1, e2, e3, e4, h1, h2⟩ := h; exact ⟨e1, e2, e3, e4, h1, h2.othM ho⟩
  | box =>
   obtain ⟨g, a0, a1, a2, a3, a4, a5, a6, a7, a8, h1, h2, h3⟩ := h
   unfold tA at ht
   split at ht
   ·obtain ⟨b0, b1, b2, b3, b4, b5, b6, b7, b8, h4⟩ := ht.2 g _ _ _ _ _ _ _ _ _ h3
    exact ⟨g, b0, b1, b2, b3, b4, b5, b6, b7, b8, h1, h2, h4⟩
   ·exact ⟨g, a0, a1, a2, a3, a4, a5, a6, a7, a8, h1, h2, h3.below ht⟩
  | boxed m =>
   obtain ⟨hj, g, e1, e2, e3, e4, h1, h2, h3, h4⟩ := h
   unfold tA at ht
   rw [if_neg (by omega)] at ht
   exact ⟨hj, g, e1, e2, e3, e4, h1, h2, h3.below ht, h4.othM ho⟩
end Go.Proofs.YtibpnlojlfcpmaaGreatDoor
