/- A part of the proofs of this seat: Cp7, MeK, OpenM, RelM. -/
import Derived.Deep.CutRange
import Derived.Test.YtfbnokjdkhcgoaaGreatDoorVFree
import Derived.Test.YtfbnokjdkhcgoaaGreatDoorVMeL
set_option linter.unusedVariables false
set_option linter.unusedSimpArgs false
set_option maxRecDepth 1000000
namespace Go.Proofs.YtfbnokjdkhcgoaaGreatDoor
open Go.RowKit
set_option maxHeartbeats 2000000 in
theorem markMemory_i (B : Nat) (A1 A2 A3 A4 A5 : Option Addr) (c1 c2 c3 c4 c5 : Nat) (M : Me) (w : World) (k0 : Int) (h1 : MineE intE 3 B w A1 M.m.t.bs) (h2 : MineE frE 80 B w A2 M.m.t.fs) (h3 : MineE lnE 50 B w A3 M.m.c.ls) (h4 : MineE owE 186 B w A4 M.m.g.os) (h5 : MineE boE 4 B w A5 M.mk)
  (hi : Nat) (hr1 : ∀ k, rowOf M.m.t.bs.length A1 = some k → k < hi) (hr2 : ∀ k, rowOf M.m.t.fs.length A2 = some k → k < hi) (hr3 : ∀ k, rowOf M.m.c.ls.length A3 = some k → k < hi) (hr4 : ∀ k, rowOf M.m.g.os.length A4 = some k → k < hi) (hr5 : ∀ k, rowOf M.mk.length A5 = some k → k < hi) (hk0 : 0 ≤ k0) (hk1 : k0 ≤ 536870912) (hl1 : M.m.t.bs.length ≤ 1048576) (hl2 : M.m.t.fs.length ≤ 1048576) (hl3 : M.m.c.ls.length ≤ 1048576) (hl4 : M.m.g.os.length ≤ 1048576) (hl5 : M.mk.length ≤ 1048576) :
  Calls Tryz.prog 20 #[.agg #[.slice A1 M.m.t.bs.length c1, .slice A2 M.m.t.fs.length c2, .slice A3 M.m.c.ls.length c3, .int .i64 M.m.c.hand, .int .i64 M.m.g.count, .int .i64 M.m.g.next, .int .i64 M.m.g.round, .slice A4 M.m.g.os.length c4, .int .i64 M.m.sp, .slice A5 M.mk.length c5, .int .i64 M.h], .int .i64 k0] w
   fun r w' => r = .returned (.int .i64 (k0 + (M.m.t.bs.length : Int) + 5 * (M.m.t.fs.length : Int) + 6 * (M.m.c.ls.length : Int) + 2 * (M.m.g.os.length : Int) + (M.mk.length : Int))) ∧ MkM k0 w' A1 A2 A3 A4 M.m.t.bs.length M.m.t.fs.length M.m.c.ls.length M.m.g.os.length ∧ Mk (mkE bBool 1 (k0 + (M.m.t.bs.length : Int) + 5 * (M.m.t.fs.length : Int) + 6 * (M.m.c.ls.length : Int) + 2 * (M.m.g.os.length : Int))) 1 4 w' A5 M.mk.length ∧ Tch B hi w w' ∧ Oth (fun e => (((e = 3 ∨ e = 80) ∨ e = 50) ∨ e = 186) ∨ e = 4) w w' ∧ (∀ g cs, Own w g 3 cs → rowOf M.m.t.bs.length A1 ≠ some g → Own w' g 3 cs) := by
 obtain ⟨W0, hW, hbx, hb0, _⟩ := box1 w #[.slice A1 M.m.t.bs.length c1, .slice A2 M.m.t.fs.length c2, .slice A3 M.m.c.ls.length c3, .int .i64 M.m.c.hand, .int .i64 M.m.g.count, .int .i64 M.m.g.next, .int .i64 M.m.g.round, .slice A4 M.m.g.os.length c4, .int .i64 M.m.sp, .slice A5 M.mk.length c5, .int .i64 M.h] 37
 obtain ⟨p0, p1, p2, p3, p4, p5, p6, p7, p8, p9, p10⟩ := c11 hbx
 have HX := Hd hbx
 have HB0 := Hd hb0
 have H1 := Hd h1
 have H2 := Hd h2
 have H3 := Hd h3
 have H4 := Hd h4
 have H5 := Hd h5
 clear hbx hb0 h1 h2 h3 h4 h5
 go_enter Tryz.func20, Tryz.ntmps20
 go_wp2_with fail
 refine (markMachine_i B A1 A2 A3 A4 c1 c2 c3 c4 M.m _ k0 (H1.out.below HB0.out) (H2.out.below HB0.out) (H3.out.below HB0.out) (H4.out.below HB0.out) hi hr1 hr2 hr3 hr4 hk0 hk1 hl1 hl2 hl3 hl4).mono ?_
 rintro e W1 ⟨rfl, hm1, ht1, ho1, hk1⟩
 have p91 := (ho1.2 _ _ _ HX.out (by decide)).cell_ 9 (v := .slice A5 M.mk.length c5) rfl
 have HM1 := Hd hm1
 have HT1 := Hd ((Tch.of_below HB0.out).trans ht1)
 have HO1 := Hd ho1
 have HK1 := Hd ((H5.out.below HB0.out).oth ho1 (by decide))
 have HKK := Hd (fun (g : Nat) (cs : Array Value) (o : Own w g 3 cs) (hne : rowOf M.m.t.bs.length A1 ≠ some g) => hk1 g cs (o.below HB0.out) hne)
 clear hk1 hm1 ht1 ho1 p0 p1 p2 p3 p4 p5 p6 p7 p8 p9 p10 hW
 go_wp2_with fail
 refine (markBoolS_any B A5 c5 M.mk.length M.mk _ (k0 + (M.m.t.bs.length : Int) + 5 * (M.m.t.fs.length : Int) + 6 * (M.m.c.ls.length : Int) + 2 * (M.m.g.os.length : Int)) HK1.out rfl (by omega) (by omega) hl5).mono ?_
 rintro e W2 ⟨rfl, hm2, hg2, ho2⟩
 have HM2 := Hd hm2
 have HT2 := Hd (HT1.out.trans (Tch.grown hg2 (fun k hk => ⟨(H5.out.row k hk).1, hr5 k hk⟩)))
 have ot2 := oth_of hg2 ho2
 have HM3 : Hid (MkM k0 W2 A1 A2 A3 A4 M.m.t.bs.length M.m.t.fs.length M.m.c.ls.length M.m.g.os.length) := ⟨HM1.out.b.oth ot2 (by decide), HM1.out.f.oth ot2 (by decide), HM1.out.l.oth ot2 (by decide), HM1.out.o.oth ot2 (by decide)⟩
 have HO2 := Hd ((HO1.out.trans ot2).far HB0.out)
 have HK2 : Hid (∀ g cs, Own w g 3 cs → rowOf M.m.t.bs.length A1 ≠ some g → Own W2 g 3 cs) := fun g cs o hne => ot2.2 _ _ _ (HKK.out g cs o hne) (by decide)
 clear hm2 hg2 ho2 ot2 p91
 go_wp2
 go_ret
 exact ⟨rfl, HM3.out, HM2.out, HT2.out, HO2.out, HK2.out⟩
def tM (si i : Nat) (v v' : World) : Prop := if i = si then Oth (fun e => e = 37) v v' ∧ (∀ g cs, cs.size = 11 → Own v g 37 cs → ∃ cs', cs'.size = 11 ∧ Own v' g 37 cs') else Below v.heap.size v v'
theorem tM.oth {si i : Nat} {v v' : World} (h : tM si i v v') : Oth (fun e => e = 37) v v' := by
 unfold tM at h
 split at h
 ·exact h.1
 ·exact Oth.of_below h
inductive RLM where
 | eq (u : Value)
 | me (M : Me)
 | li (l : List Int)
 | tup (M : Me) (rs : List Value)
 | tul (M : Me) (l : List Int) (rs : List Value)
 | box
 | boxed (M : Me)
def RLM.at_ (b si j : Nat) : RLM → Value → World → Prop
 | .eq u0, u, _ => u = u0
 | .me M, u, v => ∃ e1 e2 e3 e4 e5, u = .agg #[e1, e2, e3, .int .i64 M.m.c.hand, .int .i64 M.m.g.count, .int .i64 M.m.g.next, .int .i64 M.m.g.round, e4, .int .i64 M.m.sp, e5, .int .i64 M.h] ∧ MeM b v e1 e2 e3 e4 e5 M
 | .li l, u, v => SlM intE 3 b v u l
 | .tup M rs, u, v => ∃ e1 e2 e3 e4 e5, u = .tuple (List.toArray (.agg #[e1, e2, e3, .int .i64 M.m.c.hand, .int .i64 M.m.g.count, .int .i64 M.m.g.next, .int .i64 M.m.g.round, e4, .int .i64 M.m.sp, e5, .int .i64 M.h] :: rs)) ∧ MeM b v e1 e2 e3 e4 e5 M
 | .tul M l rs, u, v => ∃ e1 e2 e3 e4 e5 pl, u = .tuple (List.toArray (.agg #[e1, e2, e3, .int .i64 M.m.c.hand, .int .i64 M.m.g.count, .int .i64 M.m.g.next, .int .i64 M.m.g.round, e4, .int .i64 M.m.sp, e5, .int .i64 M.h] :: pl :: rs)) ∧ MeM b v e1 e2 e3 e4 e5 M ∧ SlM intE 3 b v pl l
 | .box, u, v => ∃ g cs, u = .pointer (some ⟨g, 0, none⟩) ∧ b ≤ g ∧ cs.size = 11 ∧ Own v g 37 cs
 | .boxed M, u, v => j = si ∧ ∃ g e1 e2 e3 e4 e5, u = .pointer (some ⟨g, 0, none⟩) ∧ b ≤ g ∧ Own v g 37 #[e1, e2, e3, .int .i64 M.m.c.hand, .int .i64 M.m.g.count, .int .i64 M.m.g.next, .int .i64 M.m.g.round, e4, .int .i64 M.m.sp, e5, .int .i64 M.h] ∧ MeM b v e1 e2 e3 e4 e5 M
theorem arr11 {cs : Array Value} (h : cs.size = 11) : ∃ a0 a1 a2 a3 a4 a5 a6 a7 a8 a9 a10, cs = #[a0, a1, a2, a3, a4, a5, a6, a7, a8, a9, a10] := by
 refine ⟨cs[0], cs[1], cs[2], cs[3], cs[4], cs[5], cs[6], cs[7], cs[8], cs[9], cs[10], ?_⟩
 refine Array.ext (by simpa using h) fun i hi hj => ?_
 rcases i with _ | _ | _ | _ | _ | _ | _ | _ | _ | _ | _ | i <;> first | rfl | omega
def smallE (V : Me) : Prop := V.m.t.bs.length ≤ 1048576 ∧ V.m.t.fs.length ≤ 1048576 ∧ V.m.c.ls.length ≤ 1048576 ∧ V.m.g.os.length ≤ 1048576 ∧ V.mk.length ≤ 1048576
theorem MeM.tch {lo hi B : Nat} {w w' : World} {v1 v2 v3 v4 v5 : Value} {M : Me} (h : MeM B w v1 v2 v3 v4 v5 M) (ht : Tch lo hi w w') (hB : hi ≤ B) : MeM B w' v1 v2 v3 v4 v5 M := ⟨h.m.tch ht hB, h.k.tch ht hB⟩
theorem smallE_z : smallE mez := by unfold smallE; decide
set_option maxHeartbeats 4000000 in
theorem l7Copy_any (vb vf vl vo vk : Value) (M : Me) (w : World) (hM : MeR w vb vf vl vo vk M) (h1 : M.m.t.bs.length ≤ 1048576) (h2 : M.m.t.fs.length ≤ 1048576) (h3 : M.m.c.ls.length ≤ 1048576) (h4 : M.m.g.os.length ≤ 1048576) (h5 : M.mk.length ≤ 1048576) (h6 : 1 ≤ M.mk.length) :
  Calls Tryz.prog 50 #[.agg #[vb, vf, vl, .int .i64 M.m.c.hand, .int .i64 M.m.g.count, .int .i64 M.m.g.next, .int .i64 M.m.g.round, vo, .int .i64 M.m.sp, vk, .int .i64 M.h]] w (Post2 fun v w' => ∃ v1 v2 v3 v4 v5, v = .agg #[v1, v2, v3, .int .i64 M.m.c.hand, .int .i64 M.m.g.count, .int .i64 M.m.g.next, .int .i64 M.m.g.round, v4, .int .i64 M.m.sp, v5, .int .i64 M.h] ∧ MeM w.heap.size w' v1 v2 v3 v4 v5 M ∧ Below w.heap.size w w') := by
 obtain ⟨W0, hW, hbx, hbo, hb0, hs0⟩ := box2 w #[vb, vf, vl, .int .i64 M.m.c.hand, .int .i64 M.m.g.count, .int .i64 M.m.g.next, .int .i64 M.m.g.round, vo, .int .i64 M.m.sp, vk, .int .i64 M.h] 37 #[.slice none 0 0, .slice none 0 0, .slice none 0 0, .int .i64 0, .int .i64 0, .int .i64 0, .int .i64 0, .slice none 0 0, .int .i64 0, .slice none 0 0, .int .i64 0] 37
 have HX0 := Hd hbx
 have HO0 := Hd hbo
 have HB0 := Hd hb0
 have HM := Hd hM
 clear hbx hbo hb0 hM
 go_enter Tryz.func50, Tryz.ntmps50
 go_upto_region 1 with fail
 try rw [hW]
 clear hW
 refine wp_region_kp (by kernel_rfl) [3, 4, 5, 6, 7, 8, 9, 10, 11, 12] [3, 4, 5, 6, 7, 8, 9, 10, 11, 12, 3] 37 (fun g => g ≠ w.heap.size + 1) (w.heap.size) 10 [KP.eq (.pointer (some ⟨w.heap.size, 0, none⟩)), KP.eq (.agg #[vb, vf, vl, .int .i64 M.m.c.hand, .int .i64 M.m.g.count, .int .i64 M.m.g.next, .int .i64 M.m.g.round, vo, .int .i64 M.m.sp]), KP.ma okT_me (w.heap.size) (M.m), KP.lit okT_me (w.heap.size), KP.eq (.pointer (some ⟨w.heap.size, 9, none⟩)), KP.eq (vk), KP.bo okT_me (w.heap.size) (M.mk), KP.eq (.pointer (some ⟨w.heap.size, 10, none⟩)), KP.eq (.int .i64 M.h), KP.me okT_me (w.heap.size) (M), KP.eq (.bool true)] (fun u v => ∃ e1 e2 e3 e4 e5, Own v (w.heap.size + 1) 37 #[e1, e2, e3, .int .i64 M.m.c.hand, .int .i64 M.m.g.count, .int .i64 M.m.g.next, .int .i64 M.m.g.round, e4, .int .i64 M.m.sp, e5, .int .i64 M.h] ∧ MeM w.heap.size v e1 e2 e3 e4 e5 M) (fun v => (Below (w.heap.size) w v) ∧ (Own v (w.heap.size) 37 #[vb, vf, vl, .int .i64 M.m.c.hand, .int .i64 M.m.g.count, .int .i64 M.m.g.next, .int .i64 M.m.g.round, vo, .int .i64 M.m.sp, vk, .int .i64 M.h]) ∧ (∃ cs : Array Value, cs.size = 11 ∧ Own v (w.heap.size + 1) 37 cs)) (by kernel_rfl) rfl ⟨bD HB0.out, HX0.out.drew, ⟨_, rfl, HO0.out.drew⟩⟩ (fun v h => Nat.le_trans (by omega) h.1.size) (fun v v' ht ⟨hb, h_x, hcr⟩ => ⟨hb.trans ht.bel, ht.own _ _ (show w.heap.size ≠ w.heap.size + 1 by omega) h_x, (let ⟨cs, h1, h2⟩ := hcr; let ⟨cs', h3, h4⟩ := ht.any _ cs h2; ⟨cs', h3.trans h1, h4⟩)⟩) (fun u v v' hb ⟨e1, e2, e3, e4, e5, ho, hm⟩ => ⟨e1, e2, e3, e4, e5, ho.below hb, hm.now hb⟩) ?_ ?_
 ·intro i o ho x v hC hd K hK
  match i, ho with
  | 0, ho =>
   cases ho
   simp only [fillA, Act.put, sA9, sB9, sC9] at hK ⊢
   go_simp
   exact hK _ _ kpT_same rfl
  | 1, ho =>
   cases ho
   simp only [fillA, Act.put, sA9, sB9, sC9] at hK ⊢
   obtain ⟨hbw, hx_x, hcr⟩ := hC
   obtain ⟨z0, z1, z2, z3, z4, z5, z6, z7, z8, z9, z10⟩ := c11 hx_x
   have d0 := hd 0 ⟨⟨0, .data⟩, by simp, rfl, rfl⟩ (by decide)
   change x 3 = .pointer (some ⟨w.heap.size, 0, none⟩) at d0
   simp only [d0] at hK ⊢
   go_simp
   exact hK _ _ kpT_same rfl
  | 2, ho =>
   cases ho
   simp only [fillA, Act.put, sA9, sB9, sC9] at hK ⊢
   obtain ⟨hbw, hx_x, hcr⟩ := hC
   have d0 := hd 1 ⟨⟨1, .data⟩, by simp, rfl, rfl⟩ (by decide)
   change x 4 = .agg #[vb, vf, vl, .int .i64 M.m.c.hand, .int .i64 M.m.g.count, .int .i64 M.m.g.next, .int .i64 M.m.g.round, vo, .int .i64 M.m.sp] at d0
   simp only [d0] at hK ⊢
   go_wp2_with fail
   refine (l6Copy_any vb vf vl vo M.m _ (HM.out.m.now hbw) h1 h2 h3 h4).mono ?_
   rintro e v' ⟨_, rfl, f1, f2, f3, f4, rfl, hm1, hb⟩
   go_simp
   exact hK _ _ (kpT_below (by decide) hb) ⟨_, _, _, _, rfl, hm1.mono hbw.size⟩
  | 3, ho =>
   cases ho
   simp only [fillA, Act.put, sA9, sB9, sC9] at hK ⊢
   go_simp
   exact hK _ _ (kpT_below (by decide) (bA bR)) ⟨_, rfl, (by have := hC.1.size; omega), Own.new_ _ _ _⟩
  | 4, ho =>
   cases ho
   simp only [fillA, Act.put, sA9, sB9, sC9] at hK ⊢
   go_simp
   exact hK _ _ kpT_same rfl
  | 5, ho =>
   cases ho
   simp only [fillA, Act.put, sA9, sB9, sC9] at hK ⊢
   obtain ⟨hbw, hx_x, hcr⟩ := hC
   have z9 := hx_x.cell_ 9 (v := vk) rfl
   have d0 := hd 4 ⟨⟨4, .data⟩, by simp, rfl, rfl⟩ (by decide)
   change x 7 = .pointer (some ⟨w.heap.size, 9, none⟩) at d0
   simp only [d0] at hK ⊢
   go_simp
   exact hK _ _ kpT_same rfl
  | 6, ho =>
   cases ho
   simp only [fillA, Act.put, sA9, sB9, sC9] at hK ⊢
   obtain ⟨hbw, hx_x, hcr⟩ := hC
   have d0 := hd 3 ⟨⟨3, .data⟩, by simp, rfl, rfl⟩ (by decide)
   obtain ⟨gl, d0, hgl, hol⟩ := d0
   change x 6 = _ at d0
   have d1 := hd 5 ⟨⟨5, .data⟩, by simp, rfl, rfl⟩ (by decide)
   change x 8 = vk at d1
   simp only [d0, d1] at hK ⊢
   obtain ⟨Ak, ck, hvk, _, _, hRk⟩ := HM.out.k.now hbw
   obtain ⟨v', w', e1, e2, e3⟩ := run_copyB v gl Ak ck M.mk hRk h6 h5
   refine op_run (.tmp 6) (.tmp 8) 35 rfl _ _ v' w' rfl hvk e1 ?_
   exact hK _ _ (kpT_below (by decide) e3) (e2.mono hbw.size)
  | 7, ho =>
   cases ho
   simp only [fillA, Act.put, sA9, sB9, sC9] at hK ⊢
   go_simp
   exact hK _ _ kpT_same rfl
  | 8, ho =>
   cases ho
   simp only [fillA, Act.put, sA9, sB9, sC9] at hK ⊢
   obtain ⟨hbw, hx_x, hcr⟩ := hC
   have z10 := hx_x.cell_ 10 (v := .int .i64 M.h) rfl
   have d0 := hd 7 ⟨⟨7, .data⟩, by simp, rfl, rfl⟩ (by decide)
   change x 10 = .pointer (some ⟨w.heap.size, 10, none⟩) at d0
   simp only [d0] at hK ⊢
   go_simp
   exact hK _ _ kpT_same rfl
  | 9, ho =>
   cases ho
   simp only [fillA, Act.put, sA9, sB9, sC9] at hK ⊢
   have d0 := hd 2 ⟨⟨2, .data⟩, by simp, rfl, rfl⟩ (by decide)
   obtain ⟨e1, e2, e3, e4, d0, hmX⟩ := d0
   change x 5 = _ at d0
   have d1 := hd 6 ⟨⟨6, .data⟩, by simp, rfl, rfl⟩ (by decide)
   obtain ⟨Ab, cb, d1, hcb, hmb, hRb⟩ := d1
   change x 9 = _ at d1
   have d2 := hd 8 ⟨⟨8, .data⟩, by simp, rfl, rfl⟩ (by decide)
   change x 11 = .int .i64 M.h at d2
   simp only [d0, d1, d2] at hK ⊢
   go_simp
   exact hK _ _ kpT_same ⟨_, _, _, _, _, rfl, hmX, ⟨_, _, rfl, hcb, hmb, hRb⟩⟩
  | 10, ho =>
   cases ho
   simp only [fillA, Act.put, sA9, sB9, sC9] at hK ⊢
   obtain ⟨hbw, hx_x, cs, hcs, hob⟩ := hC
   have d1 := hd 9 ⟨⟨9, .data⟩, by simp, rfl, rfl⟩ (by decide)
   obtain ⟨e1, e2, e3, e4, e5, d1, hmX⟩ := d1
   change x 12 = _ at d1
   obtain ⟨A1, c1, rfl, _⟩ := hmX.m.t.b
   obtain ⟨A2, c2, rfl, _⟩ := hmX.m.t.f
   obtain ⟨A3, c3, rfl, _⟩ := hmX.m.l
   obtain ⟨A4, c4, rfl, _⟩ := hmX.m.o
   obtain ⟨A5, c5, rfl, _⟩ := id hmX.k
   obtain ⟨a0, a1, a2, a3, a4, a5, a6, a7, a8, a9, a10, rfl⟩ := arr11 hcs
   obtain ⟨q0y, q1y, q2y, q3y, q4y, q5y, q6y, q7y, q8y, q9y, q10y⟩ := c11 hob
   obtain ⟨z0y, z1y, z2y, z3y, z4y, z5y, z6y, z7y, z8y, z9y, z10y⟩ := f11 hob
   have hlo := hob.lt
   simp only [d1] at hK ⊢
   go_simp
   have hS : tS 37 (fun g => g ≠ w.heap.size + 1) w.heap.size v (sets (w.heap.size + 1) 0 [.slice A1 M.m.t.bs.length c1, .slice A2 M.m.t.fs.length c2, .slice A3 M.m.c.ls.length c3, .int .i64 M.m.c.hand, .int .i64 M.m.g.count, .int .i64 M.m.g.next, .int .i64 M.m.g.round, .slice A4 M.m.g.os.length c4, .int .i64 M.m.sp, .slice A5 M.mk.length c5, .int .i64 M.h] v) := tS.sets hob (by omega) (by simp) 0 _
   exact hK undef _ (kpT_store hS) ⟨_, _, _, _, _, set11 hob (.slice A1 M.m.t.bs.length c1) (.slice A2 M.m.t.fs.length c2) (.slice A3 M.m.c.ls.length c3) (.int .i64 M.m.c.hand) (.int .i64 M.m.g.count) (.int .i64 M.m.g.next) (.int .i64 M.m.g.round) (.slice A4 M.m.g.os.length c4) (.int .i64 M.m.sp) (.slice A5 M.mk.length c5) (.int .i64 M.h), hmX.tS okT_me hS⟩
  | _ + 11, ho => simp at ho
 intro xa wz hC hd
 obtain ⟨e1, e2, e3, e4, e5, ho, hm⟩ := hd 10 (by decide)
 have HBZ := Hd hC.1
 simp only [fillA, Act.put, sA9, sB9, sC9]
 obtain ⟨q0t, q1t, q2t, q3t, q4t, q5t, q6t, q7t, q8t, q9t, q10t⟩ := c11 ho
 clear hd hC
 go_wp2
 refine bodyPost_ret (v := .agg #[e1, e2, e3, .int .i64 M.m.c.hand, .int .i64 M.m.g.count, .int .i64 M.m.g.next, .int .i64 M.m.g.round, e4, .int .i64 M.m.sp, e5, .int .i64 M.h]) (by simp [results, Tryz.results50, go_sem, q0t, q1t, q2t, q3t, q4t, q5t, q6t, q7t, q8t, q9t, q10t]) rfl ⟨_, rfl, _, _, _, _, _, rfl, hm, HBZ.out⟩
end Go.Proofs.YtfbnokjdkhcgoaaGreatDoor
namespace Go.Proofs.YtfbnokjdkhcgoaaGreatDoor
open Go.ChangeShapes Go.WideShapes Go.ChangeAt Go.RowKit Go.Joins
theorem ce_sb : Program.cellsOf Tryz.prog 35 = 1 := by kernel_rfl
theorem ce_memory : Program.cellsOf Tryz.prog 67 = 11 := by kernel_rfl
section
variable {H : Type} {enc : TypeId × Value → H} {w : World} {base : Nat} {spare : Nat → Bool} {held : Bool}
theorem el_bool {n : Nat} {cs : List Value} {y : DataW H × List MemPlace} (h : DataW.trod enc Tryz.prog w base spare held n 4 cs = some y) : ∃ a, cs = boE.cs a := by
 obtain ⟨a, e, _⟩ := DataW.trod_bool Tryz.underlying4 h
 exact ⟨a, e⟩
theorem open_memory {r : Reach} {b0 : Nat} {v : Value} {d : DataW H} {p : List MemPlace} (hv : Value.okWide Tryz.prog w r b0 67 v) (h : DataW.Trod enc Tryz.prog w base spare held 67 v d p) :
  ∃ vb vf vl vo vk M, v = .agg #[vb, vf, vl, .int .i64 M.m.c.hand, .int .i64 M.m.g.count, .int .i64 M.m.g.next, .int .i64 M.m.g.round, vo, .int .i64 M.m.sp, vk, .int .i64 M.h] ∧ MeR w vb vf vl vo vk M := by
 obtain ⟨cs, rfl, hsz⟩ := okWide_struct Tryz.underlying67 hv
 rw [ce_memory] at hsz
 obtain ⟨cs⟩ := cs
 obtain ⟨fuel, hf⟩ := h
 match cs, hsz with
 | [c0, c1, c2, c3, c4, c5, c6, c7, c8, c9, c10], _ =>
  obtain ⟨_, n, hf⟩ := fld Tryz.underlying67 hf
  obtain ⟨y0, h0⟩ := hf 0 _ rfl 65 0 9 rfl rfl ce_machine
  obtain ⟨y1, h1⟩ := hf 1 _ rfl 35 9 1 rfl rfl ce_sb
  obtain ⟨y2, h2⟩ := hf 2 _ rfl 3 10 1 rfl rfl ce_int
  obtain ⟨vb, vf, vl, vo, m, e, hm⟩ := mach_cells (cs := [c0, c1, c2, c3, c4, c5, c6, c7, c8]) rfl h0
  obtain ⟨l1, q1⟩ := open_rows (E := boE) Tryz.underlying35 ce_bool (fun _ _ _ h => el_bool h) (c := c9) h1
  obtain ⟨a10, rfl⟩ := one_int (c := c10) h2
  injection e with e0 e
  injection e with e1 e
  injection e with e2 e
  injection e with e3 e
  injection e with e4 e
  injection e with e5 e
  injection e with e6 e
  injection e with e7 e
  injection e with e8 e
  subst e0 e1 e2 e3 e4 e5 e6 e7 e8
  exact ⟨c0, c1, c2, c7, c9, ⟨m, l1, a10⟩, rfl, ⟨hm, q1⟩⟩
end
end Go.Proofs.YtfbnokjdkhcgoaaGreatDoor
