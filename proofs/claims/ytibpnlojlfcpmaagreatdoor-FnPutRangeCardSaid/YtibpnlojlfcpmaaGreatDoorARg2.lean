/- A part of the proofs of this seat: Dpr, Dpr2, Ip, LPrD, Plr, PrT, Rg2, TbI. -/
import Derived.Deep.RegionHeldLaw
import Derived.Deep.CutRange
import Derived.Test.YtibpnlojlfcpmaaGreatDoorAPr1
import Derived.Test.YtibpnlojlfcpmaaGreatDoorARgP
import Derived.Test.YtibpnlojlfcpmaaGreatDoorAPlrv2
set_option linter.unusedVariables false
set_option linter.unusedSimpArgs false
set_option maxRecDepth 1000000
namespace Go.Proofs.YtibpnlojlfcpmaaGreatDoor
open Go.RowKit
set_option maxHeartbeats 2000000 in
theorem PutRange_any (vb vf vl vo : Value) (m : Ma) (s p r : Int) (A : Option Addr) (c : Nat) (fs : List Int) (w : World) (hM : MaR w vb vf vl vo m) (hfree : Free w) (hR : Rs intE w.heap.size w A fs) (hl : fs.length ≤ 1048576) :
  Calls Tryz.prog 33 #[.agg #[vb, vf, vl, .int .i64 m.c.hand, .int .i64 m.g.count, .int .i64 m.g.next, .int .i64 m.g.round, vo, .int .i64 m.sp], .agg #[.int .i64 s, .int .i64 p], .slice A fs.length c, .int .i64 r] w (Post2 fun v w' => ∃ v1 v2 v3 v4, v = .tuple #[.agg #[v1, v2, v3, .int .i64 (prgV m s p fs r).c.hand, .int .i64 (prgV m s p fs r).g.count, .int .i64 (prgV m s p fs r).g.next, .int .i64 (prgV m s p fs r).g.round, v4, .int .i64 (prgV m s p fs r).sp], .bool (prgO m s p fs r).isSome] ∧ MaM w.heap.size w' v1 v2 v3 v4 (prgV m s p fs r) ∧ Below w.heap.size w w') := by
 have hfr := ((ownAt (W := ((w.alloc (.cells #[vb, vf, vl, .int .i64 m.c.hand, .int .i64 m.g.count, .int .i64 m.g.next, .int .i64 m.g.round, vo, .int .i64 m.sp] 48)).alloc (.cells #[.int .i64 s, .int .i64 p] 61))) (g := w.heap.size + 1 + 1) (t := 22) (cs := #[.slice A fs.length c]) (by simp)).alloc (o := (.cells #[.int .i64 r] 3))).alloc (o := (.cells #[.slice none 0 0, .slice none 0 0, .slice none 0 0, .int .i64 0, .int .i64 0, .int .i64 0, .int .i64 0, .slice none 0 0, .int .i64 0] 48))
 have hri := (ownAt (W := (((w.alloc (.cells #[vb, vf, vl, .int .i64 m.c.hand, .int .i64 m.g.count, .int .i64 m.g.next, .int .i64 m.g.round, vo, .int .i64 m.sp] 48)).alloc (.cells #[.int .i64 s, .int .i64 p] 61)).alloc (.cells #[.slice A fs.length c] 22))) (g := w.heap.size + 1 + 1 + 1) (t := 3) (cs := #[.int .i64 r]) (by simp)).alloc (o := (.cells #[.slice none 0 0, .slice none 0 0, .slice none 0 0, .int .i64 0, .int .i64 0, .int .i64 0, .int .i64 0, .slice none 0 0, .int .i64 0] 48))
 have hro := ownAt (W := ((((w.alloc (.cells #[vb, vf, vl, .int .i64 m.c.hand, .int .i64 m.g.count, .int .i64 m.g.next, .int .i64 m.g.round, vo, .int .i64 m.sp] 48)).alloc (.cells #[.int .i64 s, .int .i64 p] 61)).alloc (.cells #[.slice A fs.length c] 22)).alloc (.cells #[.int .i64 r] 3))) (g := w.heap.size + 1 + 1 + 1 + 1) (t := 48) (cs := #[.slice none 0 0, .slice none 0 0, .slice none 0 0, .int .i64 0, .int .i64 0, .int .i64 0, .int .i64 0, .slice none 0 0, .int .i64 0]) (by simp)
 have hb0 : Below w.heap.size w (((((w.alloc (.cells #[vb, vf, vl, .int .i64 m.c.hand, .int .i64 m.g.count, .int .i64 m.g.next, .int .i64 m.g.round, vo, .int .i64 m.sp] 48)).alloc (.cells #[.int .i64 s, .int .i64 p] 61)).alloc (.cells #[.slice A fs.length c] 22)).alloc (.cells #[.int .i64 r] 3)).alloc (.cells #[.slice none 0 0, .slice none 0 0, .slice none 0 0, .int .i64 0, .int .i64 0, .int .i64 0, .int .i64 0, .slice none 0 0, .int .i64 0] 48)) := bA (bA (bA (bA (bA bR))))
 have hs0 : (((((w.alloc (.cells #[vb, vf, vl, .int .i64 m.c.hand, .int .i64 m.g.count, .int .i64 m.g.next, .int .i64 m.g.round, vo, .int .i64 m.sp] 48)).alloc (.cells #[.int .i64 s, .int .i64 p] 61)).alloc (.cells #[.slice A fs.length c] 22)).alloc (.cells #[.int .i64 r] 3)).alloc (.cells #[.slice none 0 0, .slice none 0 0, .slice none 0 0, .int .i64 0, .int .i64 0, .int .i64 0, .int .i64 0, .slice none 0 0, .int .i64 0] 48)).heap.size = w.heap.size + 5 := by simp
 generalize hW : (((((w.alloc (.cells #[vb, vf, vl, .int .i64 m.c.hand, .int .i64 m.g.count, .int .i64 m.g.next, .int .i64 m.g.round, vo, .int .i64 m.sp] 48)).alloc (.cells #[.int .i64 s, .int .i64 p] 61)).alloc (.cells #[.slice A fs.length c] 22)).alloc (.cells #[.int .i64 r] 3)).alloc (.cells #[.slice none 0 0, .slice none 0 0, .slice none 0 0, .int .i64 0, .int .i64 0, .int .i64 0, .int .i64 0, .slice none 0 0, .int .i64 0] 48)) = W0 at hfr hri hro hb0 hs0
 have HR0 := Hd hro
 have HB0 := Hd hb0
 have HC := Hd (putRanged_any vb vf vl vo m s p r (w.heap.size + 1 + 1) (w.heap.size + 1 + 1 + 1) A c fs W0 (hM.now hb0) (hfree.now hb0) hfr.lt hri.lt (hfr.cell_ 0 rfl) (hri.cell_ 0 rfl) (hR.now (Nat.le_refl _) hb0) hl)
 have f0 := hfr.cell_ 0 (v := .slice A fs.length c) rfl
 clear hro hb0 hfr hri hM hfree hR
 subst hW
 go_enter Tryz.func33, Tryz.ntmps33
 go_wp2_with fail
 refine HC.out.mono ?_
 rintro e w1 ⟨_, rfl, e1, e2, e3, e4, rfl, hM1, hb1⟩
 have HB1 := Hd (bT HB0.out hb1)
 have HR1 := Hd (HR0.out.below hb1)
 have HM1 := Hd (hM1.mono (B' := w.heap.size + 5) (Nat.le_of_eq hs0.symm))
 obtain ⟨r0x, r1x, r2x, r3x, r4x, r5x, r6x, r7x, r8x⟩ := cells9 HR1.out
 obtain ⟨z0x, z1x, z2x, z3x, z4x, z5x, z6x, z7x, z8x⟩ := free9 HR1.out
 obtain ⟨E1, n1, rfl, _⟩ := HM1.out.t.b
 obtain ⟨E2, n2, rfl, _⟩ := HM1.out.t.f
 obtain ⟨E3, n3, rfl, _⟩ := HM1.out.l
 obtain ⟨E4, n4, rfl, _⟩ := HM1.out.o
 clear hM1 hb1 f0
 go_wp2
 have o3 := HR1.out.set9 (.slice E1 (prgV m s p fs r).t.bs.length n1) (.slice E2 (prgV m s p fs r).t.fs.length n2) (.slice E3 (prgV m s p fs r).c.ls.length n3) (.int .i64 (prgV m s p fs r).c.hand) (.int .i64 (prgV m s p fs r).g.count) (.int .i64 (prgV m s p fs r).g.next) (.int .i64 (prgV m s p fs r).g.round) (.slice E4 (prgV m s p fs r).g.os.length n4) (.int .i64 (prgV m s p fs r).sp)
 obtain ⟨p0t, p1t, p2t, p3t, p4t, p5t, p6t, p7t, p8t⟩ := cells9 o3
 refine bodyPost_ret (v := .tuple #[.agg #[.slice E1 (prgV m s p fs r).t.bs.length n1, .slice E2 (prgV m s p fs r).t.fs.length n2, .slice E3 (prgV m s p fs r).c.ls.length n3, .int .i64 (prgV m s p fs r).c.hand, .int .i64 (prgV m s p fs r).g.count, .int .i64 (prgV m s p fs r).g.next, .int .i64 (prgV m s p fs r).g.round, .slice E4 (prgV m s p fs r).g.os.length n4, .int .i64 (prgV m s p fs r).sp], .bool (prgO m s p fs r).isSome]) (by simp [results, Tryz.results33, go_sem, p0t, p1t, p2t, p3t, p4t, p5t, p6t, p7t, p8t]) rfl ⟨_, rfl, _, _, _, _, rfl, ?_, ?_⟩
 ·exact (HM1.out.far9 HR1.out _ _ _ _ _ _ _ _ _).mono (by omega)
 ·repeat (refine bS ?_ (by simp <;> omega))
  exact HB1.out
theorem intR_below {v v' : World} (h : Below v.heap.size v v') : intR v v' := fun _ _ o => o.below h
theorem intR_oth {v v' : World} {t : TypeId} (h : Oth (fun e => e = t) v v') (hn : ¬ 3 = t) : intR v v' := fun _ _ o => h.2 _ _ _ o hn
def kis (ks : List KI) (j : Nat) (x : Nat → Value) (v : World) : Prop := match ks[j]? with | some k => k.P x v | none => True
theorem kis_loc {ks : List KI} : ∀ j x y v, (∀ s ∈ (ks.map KI.rd).getD j [], x s = y s) → kis ks j x v → kis ks j y v := by
 intro j x y v h hp
 unfold kis at hp ⊢
 cases hk : ks[j]? with
 | none => trivial
 | some k =>
  rw [hk] at hp
  refine k.loc x y v (fun s hs => h s ?_) hp
  rw [List.getD_eq_getElem?_getD, List.getElem?_map, hk]
  exact hs
theorem kis_keep {ks : List KI} : ∀ (i j : Nat) x v v', i ≠ j → kis ks j x v → intR v v' → kis ks j x v' := by
 intro i j x v v' hij hp ht
 unfold kis at hp ⊢
 cases hk : ks[j]? with
 | none => trivial
 | some k =>
  rw [hk] at hp
  exact k.keep x v v' hp ht
theorem stS9_mach {v : World} {b : Nat} {cs : Array Value} (ho : Own v b 48 cs) (u0 u1 u2 u3 u4 u5 u6 u7 u8 : Value) :
  intR v (((((((((v.setCell ⟨b, 0, none⟩ u0).setCell ⟨b, 1, none⟩ u1).setCell ⟨b, 2, none⟩ u2).setCell ⟨b, 3, none⟩ u3).setCell ⟨b, 4, none⟩ u4).setCell ⟨b, 5, none⟩ u5).setCell ⟨b, 6, none⟩ u6).setCell ⟨b, 7, none⟩ u7).setCell ⟨b, 8, none⟩ u8) :=
 intR_oth (stS_set9 ho u0 u1 u2 u3 u4 u5 u6 u7 u8).1 (by decide)
theorem intR_key {v : World} {b : Nat} {cs : Array Value} (ho : Own v b 61 cs) (u0 u1 : Value) : intR v ((v.setCell ⟨b, 0, none⟩ u0).setCell ⟨b, 1, none⟩ u1) := by
 have o1 := ho.set_ 0 u0
 exact fun c cs h => (stS_set (n := 0) (i := 1) (u := u1) o1).1.2 _ _ _ ((stS_set (n := 0) (i := 0) (u := u0) ho).1.2 _ _ _ h (by decide)) (by decide)
theorem MineE.mv {α : Type} {E : Enc α} {e : TypeId} {B : Nat} {w w' : World} {A : Option Addr} {l : List α} (h : MineE E e B w A l) (hs : w.heap.size ≤ w'.heap.size) (hk : ∀ g cs, A = some ⟨g, 0, none⟩ → Own w g e cs → Own w' g e cs) : MineE E e B w' A l := by
 refine ⟨⟨h.is.len, fun hn => ?_⟩, fun hl => ?_⟩
 ·obtain ⟨g, cs, rfl, hbg, ho, _⟩ := h.own hn
  obtain ⟨b, o, e, hb, hc⟩ := h.is.at_ hn
  injection e with e
  injection e with e1 e2
  subst e1 e2
  refine ⟨g, 0, rfl, by omega, fun j u hu => ?_⟩
  have hh := hc j u hu
  rw [ho.cell] at hh
  rw [(hk g cs rfl ho).cell]
  exact hh
 ·obtain ⟨g, cs, e, hbg, ho, hs⟩ := h.own hl
  exact ⟨g, cs, e, hbg, hk g cs e ho, hs⟩
theorem SlM.mv {α : Type} {E : Enc α} {e : TypeId} {B n c : Nat} {w w' : World} {A : Option Addr} {l : List α} (h : SlM E e B w (.slice A n c) l) (hs : w.heap.size ≤ w'.heap.size) (hk : ∀ g cs, A = some ⟨g, 0, none⟩ → Own w g e cs → Own w' g e cs) : SlM E e B w' (.slice A n c) l := by
 obtain ⟨A', c', e', h2, h3, h4⟩ := h
 injection e' with e1 e2 e3
 subst e1
 exact ⟨A, c', by rw [e2, e3], h2, h3, h4.mv hs hk⟩
def isS (u : Value) : Prop := ∃ z : Int, u = .int .i64 z ∧ small z
def isKS (u : Value) : Prop := ∃ a b : Int, u = .agg #[.int .i64 a, .int .i64 b] ∧ small b
theorem sm_of {zs : List Int} (h : ∀ z ∈ zs, -1000 ≤ z ∧ z ≤ 1000001) {z : Int} (hz : z ∈ zs) : small z := h z hz
def DPR (w : World) (v : Value) (w' : World) : Prop := ∃ (m : Ma) (v1 v2 v3 v4 : Value) (a b r : Int) (A : Option Addr) (c : Nat) (fs : List Int), v = .tuple #[.agg #[v1, v2, v3, .int .i64 m.c.hand, .int .i64 m.g.count, .int .i64 m.g.next, .int .i64 m.g.round, v4, .int .i64 m.sp], .agg #[.int .i64 a, .int .i64 b], .slice A fs.length c, .int .i64 r] ∧ MaM w.heap.size w' v1 v2 v3 v4 m ∧ Sz 19 m ∧ SlM intE 3 w.heap.size w' (.slice A fs.length c) fs ∧ fs.length ≤ 3 ∧ small b ∧ Below w.heap.size w w'
set_option maxHeartbeats 4000000 in
theorem DrawPutRange_any (A : Option Addr) (n c : Nat) (w : World) (hb : Bytes w.heap.size w A n) (hc : n ≤ c) (hn : n ≤ 1048576) :
  Calls Tryz.prog 32 #[.slice A n c] w (Post2 fun v w' => DPR w v w') := by
 have ho := (Own.new_ w 48 #[.slice none 0 0, .slice none 0 0, .slice none 0 0, .int .i64 0, .int .i64 0, .int .i64 0, .int .i64 0, .slice none 0 0, .int .i64 0]).alloc (o := .cells #[.int .i64 0, .int .i64 0] 61)
 have hk := ownAt (W := w.alloc (.cells #[.slice none 0 0, .slice none 0 0, .slice none 0 0, .int .i64 0, .int .i64 0, .int .i64 0, .int .i64 0, .slice none 0 0, .int .i64 0] 48)) (g := w.heap.size + 1) (t := 61) (cs := #[.int .i64 0, .int .i64 0]) (by simp)
 have hb0 : Below w.heap.size w ((w.alloc (.cells #[.slice none 0 0, .slice none 0 0, .slice none 0 0, .int .i64 0, .int .i64 0, .int .i64 0, .int .i64 0, .slice none 0 0, .int .i64 0] 48)).alloc (.cells #[.int .i64 0, .int .i64 0] 61)) := bA (bA bR)
 have hs0 : ((w.alloc (.cells #[.slice none 0 0, .slice none 0 0, .slice none 0 0, .int .i64 0, .int .i64 0, .int .i64 0, .int .i64 0, .slice none 0 0, .int .i64 0] 48)).alloc (.cells #[.int .i64 0, .int .i64 0] 61)).heap.size = w.heap.size + 2 := by simp
 generalize hW : (w.alloc (.cells #[.slice none 0 0, .slice none 0 0, .slice none 0 0, .int .i64 0, .int .i64 0, .int .i64 0, .int .i64 0, .slice none 0 0, .int .i64 0] 48)).alloc (.cells #[.int .i64 0, .int .i64 0] 61) = W0 at ho hk hb0 hs0
 have KO := Hd (l12Open_low w.heap.size A n c W0 (hb.keep fun q hq => hb0.cell hq) (by omega) hc hn)
 have HN := Hd ho
 have HK := Hd hk
 have HB := Hd hb0
 clear ho hk hb0 hb
 go_enter Tryz.func32, Tryz.ntmps32
 go_wp2_with fail
 refine KO.out.mono ?_
 rintro e w1 ⟨rfl, hrd, hb1⟩
 have hn := HN.out.below hb1
 have hk := HK.out.below hb1
 have hbl := bT HB.out hb1
 rw [hs0] at hrd ⊢
 clear HN HK HB KO hb1
 have HRD := Hd hrd
 have HN := Hd hn
 have HK := Hd hk
 have HB := Hd hbl
 clear hrd hn hk hbl
 have hs1 := HB.out.size
 clear hW
 generalize hg : w.heap.size + 2 = g at *
 go_wp2_with fail
 refine (l6Draw_any w.heap.size g 0 w1 HRD.out (by omega) hs1).mono ?_
 rintro e w2 ⟨_, rfl, m0, q1, q2, q3, q4, p2, rfl, hM2, hz2, hrd, hp2, hgr⟩
 have hn := own_gr HN.out hgr (by omega)
 have hk := own_gr HK.out hgr (by omega)
 have hb2 := bG HB.out hgr (by intro k hk; injection hk with hk; omega)
 clear HRD HN HK
 have HRD := Hd hrd
 have HN := Hd hn
 have HK := Hd hk
 clear hrd hn hk
 have HM := Hd hM2
 have HB2 := Hd hb2
 have hs2 := hb2.size
 clear HB hgr hM2 hb2
 go_wp2_with fail
 refine (l6Wrong_any w.heap.size g p2 17 _ _ _ _ m0 w2 HRD.out (by omega) HM.out hz2 (by omega) hs2).mono ?_
 clear hz2
 rintro e w3 ⟨_, rfl, m, q1, q2, q3, q4, p3, rfl, hM3, hz3, hrd, hp3, hgr⟩
 obtain ⟨A1, c1, rfl, _⟩ := hM3.t.b
 obtain ⟨A2, c2, rfl, _⟩ := hM3.t.f
 obtain ⟨A3, c3, rfl, _⟩ := hM3.l
 obtain ⟨A4, c4, rfl, _⟩ := hM3.o
 have HZ := Hd hz3
 have HA : Hid (∀ b : Nat, A1 = some ⟨b, 0, none⟩ → b < w3.heap.size) := by
  intro b e
  obtain ⟨A', c', e', _, _, h4⟩ := hM3.t.b
  injection e' with e1
  subst e1
  obtain ⟨ga, csa, hA, _, hoA, _⟩ := h4.own hz3.b1
  rw [hA] at e
  injection e with e
  injection e with e
  subst e
  exact hoA.lt
 have hg3 : g < w3.heap.size := rdr_lt hrd
 have ho4 := (Own.new_ w3 48 #[.slice A1 m.t.bs.length c1, .slice A2 m.t.fs.length c2, .slice A3 m.c.ls.length c3, .int .i64 m.c.hand, .int .i64 m.g.count, .int .i64 m.g.next, .int .i64 m.g.round, .slice A4 m.g.os.length c4, .int .i64 m.sp]).alloc (o := .cells #[] 3)
 have hs4 : (w3.alloc (.cells #[.slice A1 m.t.bs.length c1, .slice A2 m.t.fs.length c2, .slice A3 m.c.ls.length c3, .int .i64 m.c.hand, .int .i64 m.g.count, .int .i64 m.g.next, .int .i64 m.g.round, .slice A4 m.g.os.length c4, .int .i64 m.sp] 48)).heap.size = w3.heap.size + 1 := by simp
 have hx4 := owns_lit (base := w3.heap.size + 1) (e := 3) (w3.alloc (.cells #[.slice A1 m.t.bs.length c1, .slice A2 m.t.fs.length c2, .slice A3 m.c.ls.length c3, .int .i64 m.c.hand, .int .i64 m.g.count, .int .i64 m.g.next, .int .i64 m.g.round, .slice A4 m.g.os.length c4, .int .i64 m.sp] 48)) 1 (by omega)
 rw [hs4] at hx4
 have hb4 : Below w3.heap.size w3 ((w3.alloc (.cells #[.slice A1 m.t.bs.length c1, .slice A2 m.t.fs.length c2, .slice A3 m.c.ls.length c3, .int .i64 m.c.hand, .int .i64 m.g.count, .int .i64 m.g.next, .int .i64 m.g.round, .slice A4 m.g.os.length c4, .int .i64 m.sp] 48)).alloc (.cells #[] 3)) := bA (bA bR)
 generalize hW4 : (w3.alloc (.cells #[.slice A1 m.t.bs.length c1, .slice A2 m.t.fs.length c2, .slice A3 m.c.ls.length c3, .int .i64 m.c.hand, .int .i64 m.g.count, .int .i64 m.g.next, .int .i64 m.g.round, .slice A4 m.g.os.length c4, .int .i64 m.sp] 48)).alloc (.cells #[] 3) = w4 at ho4 hx4 hb4
 have hn := (own_gr HN.out hgr (by omega)).below hb4
 have hk := (own_gr HK.out hgr (by omega)).below hb4
 have hbb := bT (bG HB2.out hgr (by intro k hk; injection hk with hk; omega)) hb4
 have hrd := rdr_below hrd hb4
 clear HRD HN HK
 have HRD := Hd hrd
 have HN := Hd hn
 have HK := Hd hk
 clear hrd hn hk
 clear HM HB2
 have HM := Hd (hM3.now hb4)
 have HB := Hd hbb
 have HX := Hd ho4
 have HL := Hd hx4
 have hs5 := hbb.size
 clear hgr hM3 hb4 hbb ho4 hx4 hz3
 generalize hmb : w3.heap.size = mb at *
 go_wp2_with fail
 refine (pick_any w.heap.size g p3 6 w4 HRD.out (by omega) (by omega)).mono ?_
 rintro e w5 ⟨x, rfl, hx0, hx1, hrd, hgr⟩
 have hx2 := hx1 (by omega)
 obtain ⟨x, rfl⟩ := Int.eq_ofNat_of_zero_le hx0
 have hx3 : x ≤ 5 := by omega
 have hn := own_gr HN.out hgr (by omega)
 have hk := own_gr HK.out hgr (by omega)
 have hxo := own_gr HX.out hgr (by omega)
 have hl := ownsRow_gr HL.out HRD.out hgr (by decide)
 have hm := HM.out.gr HRD.out hgr
 have hbb := bG HB.out hgr (by intro k hk; injection hk with hk; omega)
 clear HRD HN HK
 have HRD := Hd hrd
 have HN := Hd hn
 have HK := Hd hk
 clear hrd hn hk
 clear HX HL HM HB hgr hx0 hx1 hx2
 have HX := Hd hxo
 have HL := Hd hl
 have HM := Hd hm
 have HB := Hd hbb
 clear hxo hl hm hbb hW4
 go_wp2_with fail
 refine (num_lit w.heap.size g (p3 + 1) [2, 1, 3, 0] w5 _ _ rfl rfl HRD.out (by omega) (by simp) (by simp)).mono ?_
 rintro e w6 ⟨z, rfl, hz6, hrd, hgr⟩
 obtain ⟨k0, rfl, hk0, hk1⟩ := nat_of (a := 0) (b := 3) (by decide) hz6
 have hn := own_gr HN.out hgr (by omega)
 have hk := own_gr HK.out hgr (by omega)
 have hxo := own_gr HX.out hgr (by omega)
 have hl := ownsRow_gr HL.out HRD.out hgr (by decide)
 have hm := HM.out.gr HRD.out hgr
 have hbb := bG HB.out hgr (by intro k hk; injection hk with hk; omega)
 clear HRD HN HK
 have HRD := Hd hrd
 have HN := Hd hn
 have HK := Hd hk
 clear hrd hn hk
 clear HX HL HM HB hgr hz6
 have HX := Hd hxo
 have HL := Hd hl
 have HM := Hd hm
 have HB := Hd hbb
 clear hxo hl hm hbb
 have hp6 : p3 + 1 + 1 ≤ 200 := by omega
 generalize hp : p3 + 1 + 1 = p at *
 go_wp2
 go_loopw [8, 10] (fun u8 u wr => ∃ (k : Nat) (l : List Int), k + l.length ≤ 3 ∧ u = .int .i64 k ∧ wr.ownsRow (mb + 1) 3 1 u8 l.length (intE.cells l) ∧ Own wr mb 48 #[.slice A1 m.t.bs.length c1, .slice A2 m.t.fs.length c2, .slice A3 m.c.ls.length c3, .int .i64 m.c.hand, .int .i64 m.g.count, .int .i64 m.g.next, .int .i64 m.g.round, .slice A4 m.g.os.length c4, .int .i64 m.sp] ∧ Own wr w.heap.size 48 #[.slice none 0 0, .slice none 0 0, .slice none 0 0, .int .i64 0, .int .i64 0, .int .i64 0, .int .i64 0, .slice none 0 0, .int .i64 0] ∧ Own wr (w.heap.size + 1) 61 #[.int .i64 0, .int .i64 0] ∧ MaM w.heap.size wr (.slice A1 m.t.bs.length c1) (.slice A2 m.t.fs.length c2) (.slice A3 m.c.ls.length c3) (.slice A4 m.g.os.length c4) m ∧ Rdr w.heap.size wr g p ∧ Below w.heap.size w wr) (fun _ u _ => (intOf u).toNat)
 case atStart => exact ⟨k0, [], by simpa using hk1, rfl, HL.out, HX.out, HN.out, HK.out, HM.out, HRD.out, HB.out⟩
 case round =>
  obtain ⟨k, l, hkl, rfl, hL, hX, hN, hK, hM, hR, hB⟩ := hrel
  clear HX HL HM HB HRD HN HK
  obtain ⟨A8, c8, rfl, _⟩ := own_rd hL
  have hsB := hX.lt
  by_cases hlt : 0 < k
  ·have hki : (0 : Int) < (k : Int) := by omega
   have hll : ((l.length : Nat) : Int) ≤ 3 := by omega
   have hll0 : (0 : Int) ≤ ((l.length : Nat) : Int) := by omega
   obtain ⟨v7, w7, hrun, hown7, hg7, _⟩ := run_append_i (mb + 1) wr (.slice A8 l.length c8) l.length l (Int.tmod ((x : Int) + (l.length : Int)) 6) hL rfl (by omega) hsB
   have hbl : ∀ b, (Value.slice A8 l.length c8).ownBlock = some b → mb + 1 ≤ b := own_block hL
   have hne : ∀ {b : Nat} {t : TypeId} {cs : Array Value}, Own wr b t cs → 3 ≠ t → some b ≠ (Value.slice A8 l.length c8).ownBlock := by
    intro b t cs h ht
    rcases own_ne hL h ht with h2 | h2
    ·rw [h2]; simp
    ·exact fun e => h2 e.symm
   have hgn : some g ≠ (Value.slice A8 l.length c8).ownBlock := by
    obtain ⟨_, _, _, hor, _⟩ := hR.ok
    exact hne hor (by decide)
   have hx7 := own_other (hX.alloc (o := .cells #[.int .i64 (Int.tmod ((x : Int) + (l.length : Int)) 6)] 3)) hg7 (hne hX (by decide))
   have hn7 := own_other (hN.alloc (o := .cells #[.int .i64 (Int.tmod ((x : Int) + (l.length : Int)) 6)] 3)) hg7 (hne hN (by decide))
   have hk7 := own_other (hK.alloc (o := .cells #[.int .i64 (Int.tmod ((x : Int) + (l.length : Int)) 6)] 3)) hg7 (hne hK (by decide))
   have hr7 := rdr_row (rdr_alloc hR (.cells #[.int .i64 (Int.tmod ((x : Int) + (l.length : Int)) 6)] 3)) hg7 hgn (fun b hb => by have := hbl b hb; omega)
   have hb7 := bG (bA hB (o := .cells #[.int .i64 (Int.tmod ((x : Int) + (l.length : Int)) 6)] 3)) hg7 (fun b hb => by have := hbl b hb; omega)
   have hm7 : MaM w.heap.size w7 (.slice A1 m.t.bs.length c1) (.slice A2 m.t.fs.length c2) (.slice A3 m.c.ls.length c3) (.slice A4 m.g.os.length c4) m := by
    have hot : Oth (fun e => e = 3) wr w7 := ⟨Nat.le_trans (by simp) hg7.size, fun b e cs h hn => own_other (h.alloc (o := .cells #[.int .i64 (Int.tmod ((x : Int) + (l.length : Int)) 6)] 3)) hg7 (hne h (fun e => hn e.symm))⟩
    refine ⟨⟨hM.t.b.mv hot.1 (fun b cs e h => own_other (h.alloc (o := .cells #[.int .i64 (Int.tmod ((x : Int) + (l.length : Int)) 6)] 3)) hg7 (fun h2 => ?_)), hM.t.f.oth hot (by decide)⟩, hM.l.oth hot (by decide), hM.o.oth hot (by decide)⟩
    have h3 := hbl b h2.symm
    have h4 := HA.out b e
    omega
   obtain ⟨A9, c9, rfl, _⟩ := own_rd hown7
   have HL := Hd hown7
   have HX := Hd hx7
   have HN := Hd hn7
   have HK := Hd hk7
   have HM := Hd hm7
   have HRD := Hd hr7
   have HB := Hd hb7
   clear hown7 hx7 hn7 hk7 hm7 hr7 hb7 hg7 hgn hne hbl hL hX hN hK hM hR hB
   go_wp2_with (at_builtin; refine wpList_append_run _ rfl (.tmp 27) (.tmp 33) 22 rfl _ _ _ _ rfl rfl hrun ?_)
   go_roundw
   case rel =>
    exact ⟨k - 1, l ++ [Int.tmod ((x : Int) + (l.length : Int)) 6], by simp; omega, by rw [show ((k - 1 : Nat) : Int) = (k : Int) - 1 by omega], by simpa using HL.out, HX.out, HN.out, HK.out, HM.out, HRD.out, HB.out⟩
   case measure => simp [intOf]; omega
  ·obtain rfl : k = 0 := by omega
   have hgm : g < mb := by omega
   go_wp2
   refine wp_region_rel2 (by kernel_rfl) [35, 36, 37, 38, 39, 40, 41, 42, 43, 44, 45, 4, 5] [[35], [36], [37], [38], [39], [40], [41], [42], [43], [44], [45], [], [], [4], [5]] (PC w g mb w.heap.size (w.heap.size + 1) 11 [2, 5, 10] (.slice A1 m.t.bs.length c1) (.slice A2 m.t.fs.length c2) (.slice A3 m.c.ls.length c3) (.slice A4 m.g.os.length c4) m (.slice A8 l.length c8) l p) (kis [KI.eq 35 (.agg #[.slice A1 m.t.bs.length c1, .slice A2 m.t.fs.length c2, .slice A3 m.c.ls.length c3, .int .i64 m.c.hand, .int .i64 m.g.count, .int .i64 m.g.next, .int .i64 m.g.round, .slice A4 m.g.os.length c4, .int .i64 m.sp]), KI.eq 36 (.pointer (some ⟨g, 0, none⟩)), KI.sat 37 isN, KI.eq 38 (.pointer (some ⟨g, 0, none⟩)), KI.lit 39 #[.int .i64 10, .int .i64 20, .int .i64 210, .int .i64 127, .int .i64 254] 5, KI.sat 40 isS, KI.sat 41 isKS, KI.eq 42 (.slice A8 l.length c8), KI.eq 43 (.pointer (some ⟨g, 0, none⟩)), KI.lit 44 #[.int .i64 3, .int .i64 1, .int .i64 7, .int .i64 8] 4, KI.sat 45 isN, KI.no, KI.no, KI.eq 4 (.slice A8 l.length c8), KI.sat 5 isN]) (fun _ => intR) (by kernel_rfl) ?_ (kis_loc (ks := [KI.eq 35 (.agg #[.slice A1 m.t.bs.length c1, .slice A2 m.t.fs.length c2, .slice A3 m.c.ls.length c3, .int .i64 m.c.hand, .int .i64 m.g.count, .int .i64 m.g.next, .int .i64 m.g.round, .slice A4 m.g.os.length c4, .int .i64 m.sp]), KI.eq 36 (.pointer (some ⟨g, 0, none⟩)), KI.sat 37 isN, KI.eq 38 (.pointer (some ⟨g, 0, none⟩)), KI.lit 39 #[.int .i64 10, .int .i64 20, .int .i64 210, .int .i64 127, .int .i64 254] 5, KI.sat 40 isS, KI.sat 41 isKS, KI.eq 42 (.slice A8 l.length c8), KI.eq 43 (.pointer (some ⟨g, 0, none⟩)), KI.lit 44 #[.int .i64 3, .int .i64 1, .int .i64 7, .int .i64 8] 4, KI.sat 45 isN, KI.no, KI.no, KI.eq 4 (.slice A8 l.length c8), KI.sat 5 isN])) (fun i j x v v' h1 h2 h3 => kis_keep i j x v v' h1 h2 h3) ?_ ?_
   ·refine ⟨⟨?_, bD hB, hM.now (bD bR), (((slm_own (l := l) rfl hL).mono (show w.heap.size ≤ mb + 1 by omega)).now (bD bR)), hX.drew⟩, hN.drew, 0, 0, hK.drew, by unfold small; omega⟩
    rw [cn_zero]
    exact rdr_below hR (bD bR)
   ·intro i o ho D x v hD hC hd K hK
    match i, ho with
    | 0, ho =>
     cases ho
     simp only [fillA, Act.put, sA9, sB9, sC9] at hK ⊢
     have hx := hC.1.ob
     obtain ⟨z0, z1, z2, z3, z4, z5, z6, z7, z8⟩ := cells9 hx
     go_simp
     exact hK _ _ (intR_below bR) (hC.same (by decide) (by decide)) rfl
    | 1, ho =>
     cases ho
     simp only [fillA, Act.put, sA9, sB9, sC9] at hK ⊢
     go_simp
     exact hK _ _ (intR_below bR) (hC.same (by decide) (by decide)) rfl
    | 2, ho =>
     cases ho
     simp only [fillA, Act.put, sA9, sB9, sC9] at hK ⊢
     have d0 := hd 1 ⟨⟨1, .data⟩, by simp, rfl, rfl⟩
     change x 36 = .pointer (some ⟨g, 0, none⟩) at d0
     simp only [d0] at hK ⊢
     have hcn : cn D [2, 5, 10] ≤ 3 := cn_le D _
     go_wp2_with fail
     refine (pick_any w.heap.size g (p + cn D [2, 5, 10]) 4 v hC.1.rd (by omega) (by omega)).mono ?_
     rintro e v' ⟨z, rfl, _, _, hrd, hgr⟩
     go_simp
     exact hK _ _ (intR_oth (hC.1.oth hgr) (by decide)) (hC.read hD (by decide) (by decide) (by decide) hrd hgr) ⟨_, rfl⟩
    | 3, ho =>
     cases ho
     simp only [fillA, Act.put, sA9, sB9, sC9] at hK ⊢
     go_simp
     exact hK _ _ (intR_below bR) (hC.same (by decide) (by decide)) rfl
    | 4, ho =>
     cases ho
     simp only [fillA, Act.put, sA9, sB9, sC9] at hK ⊢
     go_simp
     exact hK _ _ (intR_below (bA bR)) (hC.below (bA bR) (by decide) (by decide)) ⟨_, rfl, Own.new_ _ _ _⟩
    | 5, ho =>
     cases ho
     simp only [fillA, Act.put, sA9, sB9, sC9] at hK ⊢
     have d0 := hd 3 ⟨⟨3, .data⟩, by simp, rfl, rfl⟩
     change x 38 = .pointer (some ⟨g, 0, none⟩) at d0
     have d1 := hd 4 ⟨⟨4, .data⟩, by simp, rfl, rfl⟩
     obtain ⟨gd1, d1, od1⟩ := d1
     change x 39 = .slice (some ⟨gd1, 0, none⟩) 5 5 at d1
     simp only [d0, d1] at hK ⊢
     have hcn : cn D [2, 5, 10] ≤ 3 := cn_le D _
     obtain ⟨Ar, nr, cr, hor, _⟩ := hC.1.rd.ok
     go_wp2_with fail
     refine (num_any w.heap.size g (p + cn D [2, 5, 10]) gd1 [10, 20, 210, 127, 254] v hC.1.rd od1 (od1.ne hor (by decide)) (by omega) (by simp) (by simp)).mono ?_
     rintro e v' ⟨z, rfl, hz, hrd, hgr⟩
     go_simp
     exact hK _ _ (intR_oth (hC.1.oth hgr) (by decide)) (hC.read hD (by decide) (by decide) (by decide) hrd hgr) ⟨_, rfl, sm_of (by decide) hz⟩
    | 6, ho =>
     cases ho
     simp only [fillA, Act.put, sA9, sB9, sC9] at hK ⊢
     have d0 := hd 2 ⟨⟨2, .data⟩, by simp, rfl, rfl⟩
     obtain ⟨n0, d0⟩ := d0
     change x 37 = .int .i64 n0 at d0
     have d1 := hd 5 ⟨⟨5, .data⟩, by simp, rfl, rfl⟩
     obtain ⟨n1, d1, hs1⟩ := d1
     change x 40 = .int .i64 n1 at d1
     simp only [d0, d1] at hK ⊢
     go_wp2_with fail
     refine (sKeyFor_any n0 n1 _).mono ?_
     rintro e v' ⟨rfl, hb⟩
     go_simp
     exact hK _ _ (intR_below hb) (hC.below hb (by decide) (by decide)) ⟨_, _, rfl, hs1⟩
    | 7, ho =>
     cases ho
     simp only [fillA, Act.put, sA9, sB9, sC9] at hK ⊢
     go_simp
     exact hK _ _ (intR_below bR) (hC.same (by decide) (by decide)) rfl
    | 8, ho =>
     cases ho
     simp only [fillA, Act.put, sA9, sB9, sC9] at hK ⊢
     go_simp
     exact hK _ _ (intR_below bR) (hC.same (by decide) (by decide)) rfl
    | 9, ho =>
     cases ho
     simp only [fillA, Act.put, sA9, sB9, sC9] at hK ⊢
     go_simp
     exact hK _ _ (intR_below (bA bR)) (hC.below (bA bR) (by decide) (by decide)) ⟨_, rfl, Own.new_ _ _ _⟩
    | 10, ho =>
     cases ho
     simp only [fillA, Act.put, sA9, sB9, sC9] at hK ⊢
     have d0 := hd 8 ⟨⟨8, .data⟩, by simp, rfl, rfl⟩
     change x 43 = .pointer (some ⟨g, 0, none⟩) at d0
     have d1 := hd 9 ⟨⟨9, .data⟩, by simp, rfl, rfl⟩
     obtain ⟨gd1, d1, od1⟩ := d1
     change x 44 = .slice (some ⟨gd1, 0, none⟩) 4 4 at d1
     simp only [d0, d1] at hK ⊢
     have hcn : cn D [2, 5, 10] ≤ 3 := cn_le D _
     obtain ⟨Ar, nr, cr, hor, _⟩ := hC.1.rd.ok
     go_wp2_with fail
     refine (num_any w.heap.size g (p + cn D [2, 5, 10]) gd1 [3, 1, 7, 8] v hC.1.rd od1 (od1.ne hor (by decide)) (by omega) (by simp) (by simp)).mono ?_
     rintro e v' ⟨z, rfl, hz, hrd, hgr⟩
     go_simp
     exact hK _ _ (intR_oth (hC.1.oth hgr) (by decide)) (hC.read hD (by decide) (by decide) (by decide) hrd hgr) ⟨_, rfl⟩
    | 11, ho =>
     cases ho
     simp only [fillA, Act.put, sA9, sB9, sC9] at hK ⊢
     have d0 := hd 0 ⟨⟨0, .data⟩, by simp, rfl, rfl⟩
     change x 35 = .agg #[.slice A1 m.t.bs.length c1, .slice A2 m.t.fs.length c2, .slice A3 m.c.ls.length c3, .int .i64 m.c.hand, .int .i64 m.g.count, .int .i64 m.g.next, .int .i64 m.g.round, .slice A4 m.g.os.length c4, .int .i64 m.sp] at d0
     have ho2 := hC.2.1
     rw [hD] at ho2
     simp only [Bool.false_eq_true, if_false] at ho2
     obtain ⟨r0x, r1x, r2x, r3x, r4x, r5x, r6x, r7x, r8x⟩ := cells9 ho2
     obtain ⟨z0x, z1x, z2x, z3x, z4x, z5x, z6x, z7x, z8x⟩ := free9 ho2
     have hlo := ho2.lt
     simp only [d0] at hK ⊢
     go_simp
     exact hK undef _ (stS9_mach ho2 _ _ _ _ _ _ _ _ _) (hC.store hD (by decide) (Nat.le_refl _) (by omega) (by omega) (by omega)) trivial
    | 12, ho =>
     cases ho
     simp only [fillA, Act.put, sA9, sB9, sC9] at hK ⊢
     have d0 := hd 6 ⟨⟨6, .data⟩, by simp, rfl, rfl⟩
     obtain ⟨ka, kb, d0, hs1⟩ := d0
     change x 41 = .agg #[.int .i64 ka, .int .i64 kb] at d0
     obtain ⟨a0, b0, ho2, hs2⟩ := hC.2.2
     have z0 := ho2.cell_ 0 (v := .int .i64 a0) rfl
     have z1 := ho2.cell_ 1 (v := .int .i64 b0) rfl
     have y0 := ho2.free 0
     have y1 := ho2.free 1
     have hlo := ho2.lt
     simp only [d0] at hK ⊢
     go_simp
     exact hK undef _ (intR_key ho2 _ _) (hC.key (by decide) (by decide) (by omega) (by omega) (by omega) (by omega) ka kb hs1) trivial
    | 13, ho =>
     cases ho
     simp only [fillA, Act.put, sA9, sB9, sC9] at hK ⊢
     have d0 := hd 7 ⟨⟨7, .data⟩, by simp, rfl, rfl⟩
     change x 42 = .slice A8 l.length c8 at d0
     simp only [d0] at hK ⊢
     go_simp
     exact hK _ _ (intR_below bR) (hC.same (by decide) (by decide)) rfl
    | 14, ho =>
     cases ho
     simp only [fillA, Act.put, sA9, sB9, sC9] at hK ⊢
     have d0 := hd 10 ⟨⟨10, .data⟩, by simp, rfl, rfl⟩
     obtain ⟨n0, d0⟩ := d0
     change x 45 = .int .i64 n0 at d0
     simp only [d0] at hK ⊢
     go_simp
     exact hK _ _ (intR_below bR) (hC.same (by decide) (by decide)) ⟨_, rfl⟩
    | _ + 15, ho => simp at ho
   intro D xa w9 hD hC hd
   obtain ⟨hps, hon, a, b, hok, hsb⟩ := hC
   rw [hD 11 (by decide)] at hon
   simp only [if_true] at hon
   have d13 := hd 13 (by decide)
   change xa 4 = .slice A8 l.length c8 at d13
   obtain ⟨r, d14⟩ := hd 14 (by decide)
   change xa 5 = .int .i64 r at d14
   simp only [fillA, Act.put, sA9, sB9, sC9, d13, d14]
   clear hd d13 d14 hD hL hX hN hK hM hR hB
   obtain ⟨p0t, p1t, p2t, p3t, p4t, p5t, p6t, p7t, p8t⟩ := cells9 hon
   have k0 := hok.cell_ 0 (v := .int .i64 a) rfl
   have k1 := hok.cell_ 1 (v := .int .i64 b) rfl
   have HPS := Hd hps
   clear hps hon hok
   go_wp2
   refine bodyPost_ret (v := .tuple #[.agg #[.slice A1 m.t.bs.length c1, .slice A2 m.t.fs.length c2, .slice A3 m.c.ls.length c3, .int .i64 m.c.hand, .int .i64 m.g.count, .int .i64 m.g.next, .int .i64 m.g.round, .slice A4 m.g.os.length c4, .int .i64 m.sp], .agg #[.int .i64 a, .int .i64 b], .slice A8 l.length c8, .int .i64 r]) (by simp [results, Tryz.results32, go_sem, p0t, p1t, p2t, p3t, p4t, p5t, p6t, p7t, p8t, k0, k1]) rfl ⟨_, rfl, m, _, _, _, _, a, b, r, A8, c8, l, rfl, HPS.out.mm, HZ.out, HPS.out.fr, by omega, hsb, HPS.out.bl⟩
theorem tak_all {s p : Int} {m : Ma} : ∀ (n : Nat), ((rgN (fun m k => takO m s (p + k)) (fun m k => takV m s (p + k)) m n).isSome = true ↔ ∀ k, k < n → takO m s (p + (k : Nat)) = true) ∧
    ∀ x, rgN (fun m k => takO m s (p + k)) (fun m k => takV m s (p + k)) m n = some x → ∀ b, p + n ≤ b → takO x s b = takO m s b
  | 0 => ⟨⟨fun _ k hk => by omega, fun _ => rfl⟩, fun x h b _ => by injection h with h; rw [h]⟩
  | n + 1 => by
    obtain ⟨i1, i2⟩ := tak_all (s := s) (p := p) (m := m) n
    cases e : rgN (fun m k => takO m s (p + k)) (fun m k => takV m s (p + k)) m n with
    | none =>
      have hn : rgN (fun m k => takO m s (p + k)) (fun m k => takV m s (p + k)) m (n + 1) = none := rgN_none e (by omega)
      rw [hn]
      refine ⟨⟨(fun h => by cases h), fun h => ?_⟩, (fun x h => by cases h)⟩
      have := i1.2 (fun k hk => h k (by omega))
      rw [e] at this; cases this
    | some m' =>
      have h2 := i2 m' e
      have h1 := i1.1 (by rw [e]; rfl)
      cases hok : takO m' s (p + (n : Nat)) with
      | false =>
        have hn : rgN (fun m k => takO m s (p + k)) (fun m k => takV m s (p + k)) m (n + 1) = none := rgN_bad e hok
        rw [hn]
        refine ⟨⟨(fun h => by cases h), fun h => ?_⟩, (fun x h => by cases h)⟩
        have h3 := h n (by omega)
        rw [← h2 (p + n) (by omega), hok] at h3
        cases h3
      | true =>
        have hn : rgN (fun m k => takO m s (p + k)) (fun m k => takV m s (p + k)) m (n + 1) = some (takV m' s (p + n)) := rgN_step e hok
        rw [hn]
        refine ⟨⟨fun _ k hk => ?_, fun _ => rfl⟩, fun x h b hb => ?_⟩
        · rcases Nat.lt_or_ge k n with h3 | h3
          · exact h1 k h3
          · obtain rfl : k = n := by omega
            rw [← h2 (p + k) (by omega)]; exact hok
        · injection h with h
          rw [← h, tak_keeps hok (by intro h'; injection h' with _ h'; omega), h2 b (by omega)]
theorem put_at {m : Ma} {s p fr r : Int} (h : putOK m s p fr r = true) : ∃ (k : Nat) (f0 : Fr), fr = (k : Int) ∧ m.t.fs[k]? = some f0 ∧ f0.used = false ∧ mav m = true ∧ keyI s p = s ∧ kval (s, p) = true ∧ fnd m.t.fs s p = none ∧
  putV m s p fr r = { m with t := ⟨m.t.bs.set (bkt m.t s p) k, m.t.fs.set k ⟨true, s, p, r, m.t.bs.getD (bkt m.t s p) 0⟩⟩ } := by
 have hV : putV m s p fr r = { m with t := mapV m.t s p fr r } := by unfold putV; rw [if_pos h]
 unfold putOK at h
 simp only [Bool.and_eq_true, decide_eq_true_eq] at h
 obtain ⟨⟨hm, hk⟩, hok⟩ := h
 have hT : mapV m.t s p fr r = mapT m.t s p fr r := by unfold mapV; rw [if_pos hok]
 unfold mapOK at hok
 simp only [Bool.and_eq_true] at hok
 obtain ⟨⟨⟨⟨⟨htv, hkv⟩, hnf⟩, hin⟩, hu⟩, hr⟩ := hok
 have hnf' : fnd m.t.fs s p = none := by
  cases e : fnd m.t.fs s p with
  | none => rfl
  | some i => unfold fndI at hnf; rw [e] at hnf; simp at hnf
 obtain ⟨hi0, hi1⟩ := inR_iff.1 hin
 obtain ⟨k, rfl⟩ := Int.eq_ofNat_of_zero_le hi0
 rw [Int.toNat_natCast] at hu
 cases ef : m.t.fs[k]? with
 | none => rw [ef] at hu; cases hu
 | some f0 =>
 rw [ef] at hu
 refine ⟨k, f0, rfl, ef, by simpa using hu, hm, hk, hkv, hnf', ?_⟩
 rw [hV, hT]
 unfold mapT
 rw [Int.toNat_natCast]
theorem drp_none {m : Ma} (M : MV m) {s q : Int} (hk : keyI s q = s) (hn : fnd m.t.fs s q = none) : drpC m s q = m.c := by
 unfold drpC
 split
 ·rename_i h
  exfalso
  obtain ⟨k, x, e1, e2, e3⟩ := plcI_lt h.2
  obtain ⟨hv, hp, ht⟩ := fits_iff.1 e3
  obtain ⟨s0, i, hs0, hf, _, _, hsh, _⟩ := lnM_some hv (M.l k x e2)
  have hkey : keyI s0 x.p = s := by
   by_cases h128 : 128 ≤ q
   ·unfold keyI at hk ⊢
    rw [if_pos h128] at hk
    rw [if_pos (by omega)]
    exact hk
   ·have ht1 : ¬ x.t = -1 := fun he => h128 (by have := hsh.2 he; omega)
    have ht2 : x.t = tagT m s q := by
     rcases ht with e | e
     ·exact e
     ·exact absurd e ht1
    have hO := h.1
    unfold tagO at hO
    unfold tagT at ht2
    rw [if_neg h128] at hO ht2
    have ho : 0 ≤ ownI m.g.os s := by
     unfold tgO at hO
     rw [Bool.and_eq_true] at hO
     exact of_decide_eq_true hO.2
    obtain ⟨j, o, f1, f2, f3⟩ := ownI_lt ho
    have f4 := (tgO_yes M.g f1 f2).2
    have f5 := spc_own M.g f2
    unfold lnSp at hs0
    rw [if_neg (by omega), ht2, f4, f5] at hs0
    simp only [List.getD_eq_getElem?_getD, f2] at hs0
    injection hs0 with hs0
    have hs0' : o.1 = s0 := hs0
    rw [← hs0', f3, hp]
    exact hk
  rw [hkey, hp, hn] at hf
  cases hf
 ·rfl
structure PutS (s p r : Int) (fs : List Int) (m : Ma) (k : Nat) (y : Ma) : Prop where
 v : mav y = true
 c : y.c = m.c
 g : y.g = m.g
 n : y.t.fs.countP (·.used) = m.t.fs.countP (·.used) + k
 f : ∀ i : Nat, i < k → ∃ a : Nat, fs[i]? = some (a : Int) ∧ fnd y.t.fs s (p + i) = some a ∧ kval (s, p + i) = true
 no : ∀ i : Nat, i < k → drpC m s (p + i) = m.c
theorem put_state {s p r : Int} {fs : List Int} {m : Ma} (hm : mav m = true) : ∀ (n : Nat) (x : Ma), putN s p r fs m n = some x → PutS s p r fs m n x
  | 0, x, h => by
    injection h with h
    subst h
    exact ⟨hm, rfl, rfl, rfl, fun i h => absurd h (by omega), fun i h => absurd h (by omega)⟩
  | n + 1, x, h => by
    unfold putN at h
    cases e : putN s p r fs m n with
    | none => rw [e] at h; cases h
    | some y =>
      rw [e] at h
      have P := put_state hm n y e
      cases ef : fs[n]? with
      | none => rw [ef] at h; cases h
      | some a =>
        rw [ef] at h
        simp only at h
        split at h
        · rename_i hok
          injection h with h
          have hv := mav_put hok
          obtain ⟨k, f0, rfl, ek, hu, _, hkk, hkv, hnone, hV⟩ := put_at hok
          rw [h] at hv hV
          have M := mav_MV.1 P.v
          have hkl := (List.getElem?_eq_some_iff.1 ek).1
          have hfs : x.t.fs = y.t.fs.set k ⟨true, s, p + n, r, y.t.bs.getD (bkt y.t s (p + n)) 0⟩ := by rw [hV]
          have T := (mav_MV.1 hv).t
          refine ⟨hv, by rw [hV]; exact P.c, by rw [hV]; exact P.g, ?_, fun i hi => ?_, fun i hi => ?_⟩
          · have := count_set (⟨true, s, p + n, r, y.t.bs.getD (bkt y.t s (p + n)) 0⟩ : Fr) ek
            rw [if_neg (by rw [hu]; decide), if_pos rfl] at this
            rw [hfs]
            have := P.n
            omega
          · rcases Nat.lt_or_ge i n with hlt | hge
            · obtain ⟨b, b1, b2, b3⟩ := P.f i hlt
              obtain ⟨g, g1, g2, g3⟩ := fnd_some b2
              have hne : k ≠ b := by rintro rfl; rw [ek] at g1; injection g1 with g1; rw [g1, g2] at hu; cases hu
              exact ⟨b, b1, T.fnd (by rw [hfs, set_ne hne]; exact g1) g2 g3, b3⟩
            · obtain rfl : i = n := by omega
              exact ⟨k, ef, T.fnd (by rw [hfs]; exact set_eq hkl) rfl rfl, hkv⟩
          · rcases Nat.lt_or_ge i n with hlt | hge
            · exact P.no i hlt
            · obtain rfl : i = n := by omega
              rw [← drpC_cg P.c P.g, drp_none M hkk hnone]
              exact P.c
        · cases h
theorem put_back {m x : Ma} {s p r : Int} {fs : List Int} (h : prgO m s p fs r = some x) :
  mav x = true ∧ (∀ i : Nat, i < fs.length → ∃ a : Nat, fs[i]? = some (a : Int) ∧ fOK x.t s (p + i) = true ∧ fndI x.t.fs s (p + i) = (a : Int)) ∧
  ∃ b, rgO (fun m k => takO m s (p + k)) (fun m k => takV m s (p + k)) x fs.length = some b ∧ (kys b.t).length = (kys m.t).length ∧ b.c = m.c := by
 have hc : mav m = true ∧ 1 ≤ fs.length ∧ fs.length ≤ 16 := by
  apply Decidable.byContradiction
  intro hc
  rw [prgO_no hc] at h; cases h
 obtain ⟨hm, h1, h2⟩ := hc
 rw [prgO_yes hm h1 h2] at h
 have P := put_state hm _ _ h
 have htv := (mav_parts P.v).1
 have hall : ∀ k, k < fs.length → takO x s (p + (k : Nat)) = true := fun k hk => by
  obtain ⟨a, _, a2, a3⟩ := P.f k hk
  exact takO_iff.2 ⟨P.v, fOK_iff.2 ⟨htv, a3, by rw [fndI_some a2]; omega⟩⟩
 refine ⟨P.v, fun i hi => ?_, ?_⟩
 ·obtain ⟨a, a1, a2, a3⟩ := P.f i hi
  exact ⟨a, a1, (takO_iff.1 (hall i hi)).2, fndI_some a2⟩
 ·rw [rgO_yes P.v h1 h2]
  cases e : rgN (fun m k => takO m s (p + k)) (fun m k => takV m s (p + k)) x fs.length with
  | none =>
   have := ((tak_all (m := x) (s := s) (p := p) fs.length).1).2 hall
   rw [e] at this; cases this
  | some b =>
   have Q := tak_state P.v _ _ e
   refine ⟨b, rfl, ?_, ?_⟩
   ·rw [kys_count (mav_parts Q.v).1, kys_count (mav_parts hm).1]
    have := Q.n
    have := P.n
    omega
   ·have := Q.c (fun i hi => by rw [drpC_cg P.c P.g, P.no i hi, P.c])
    rw [this, P.c]
end Go.Proofs.YtibpnlojlfcpmaaGreatDoor
namespace Go.Proofs.YtibpnlojlfcpmaaGreatDoor.lPutRange
open Go.ChangeShapes Go.WideShapes Go.ChangeAt Go.RowKit Go.Joins
set_option maxRecDepth 100000 in
theorem closed : joinedFacts Tryz.prog 7 Tryz.f7 Rows.fnPutRangeSpec Rows.fnPutRangeRow = true := by
 unfold joinedFacts
 rw [may_enter, lifts_final, make_cut]
 refine Eq.trans ?_ (Eq.refl _)
 kernel_rfl
end Go.Proofs.YtibpnlojlfcpmaaGreatDoor.lPutRange
namespace Go.Proofs.YtibpnlojlfcpmaaGreatDoor
open Go.RowKit
theorem row_oth {q : TypeId → Prop} {base n : Nat} {e : TypeId} {sz : Nat} {w v : World} {rv : Value} {xs : List Value} (h : w.ownsRow base e sz rv n xs) (ho : Oth q w v) (he : ¬ q e) : v.ownsRow base e sz rv n xs := by
 obtain ⟨h1, h2⟩ := h
 rcases h2 with ⟨e1, h0⟩ | ⟨g', cap, cur, e1, hb, hoo, hc⟩
 ·exact ⟨h1, .inl ⟨e1, h0⟩⟩
 ·exact ⟨h1, .inr ⟨g', cap, cur, e1, hb, ho.2 _ _ _ (show Own w g' e cur from hoo) he, hc⟩⟩
theorem MineE.grow {α : Type} {E : Enc α} {e : TypeId} {B : Nat} {w w' : World} {A : Option Addr} {l : List α} {row : Option Nat} (h : MineE E e B w A l) (hg : w.grownBy w' row) (hr : ∀ k, row = some k → k < B) : MineE E e B w' A l := by
 refine ⟨⟨h.is.len, fun hn => ?_⟩, fun hl => ?_⟩
 ·obtain ⟨g, cs, rfl, hbg, ho, _⟩ := h.own hn
  obtain ⟨b, o, e, hb, hc⟩ := h.is.at_ hn
  injection e with e
  injection e with e1 e2
  subst e1 e2
  have ho2 := own_other ho hg (fun e => by have := hr _ e.symm; omega)
  refine ⟨g, 0, rfl, by have := hg.size; omega, fun j u hu => ?_⟩
  have hh := hc j u hu
  rw [ho.cell] at hh
  rw [ho2.cell]
  exact hh
 ·obtain ⟨g, cs, e, hbg, ho, hs⟩ := h.own hl
  exact ⟨g, cs, e, hbg, own_other ho hg (fun e => by have := hr _ e.symm; omega), hs⟩
theorem MaM.grow {B : Nat} {w w' : World} {v1 v2 v3 v4 : Value} {m : Ma} {row : Option Nat} (h : MaM B w v1 v2 v3 v4 m) (hg : w.grownBy w' row) (hr : ∀ k, row = some k → k < B) : MaM B w' v1 v2 v3 v4 m := by
 obtain ⟨⟨⟨A1, c1, r1, l1, k1, m1⟩, ⟨A2, c2, r2, l2, k2, m2⟩⟩, ⟨A3, c3, r3, l3, k3, m3⟩, ⟨A4, c4, r4, l4, k4, m4⟩⟩ := h
 exact ⟨⟨⟨A1, c1, r1, l1, k1, m1.grow hg hr⟩, ⟨A2, c2, r2, l2, k2, m2.grow hg hr⟩⟩, ⟨A3, c3, r3, l3, k3, m3.grow hg hr⟩, ⟨A4, c4, r4, l4, k4, m4.grow hg hr⟩⟩
structure TBs (w w3 : World) (k : Nat) (mk : Ma) (l : List Int) (c1 c2 c3 c4 pl : Value) (v : World) : Prop where
 ob : Own v w3.heap.size 48 #[c1, c2, c3, .int .i64 mk.c.hand, .int .i64 mk.g.count, .int .i64 mk.g.next, .int .i64 mk.g.round, c4, .int .i64 mk.sp]
 mr : MaR v c1 c2 c3 c4 mk
 mm : 0 < k → MaM w.heap.size v c1 c2 c3 c4 mk
 row : v.ownsRow (w3.heap.size + 1) 3 1 pl l.length (intE.cells l)
 rb : Own v (w.heap.size + 1) 48 #[.slice none 0 0, .slice none 0 0, .slice none 0 0, .int .i64 0, .int .i64 0, .int .i64 0, .int .i64 0, .slice none 0 0, .int .i64 0]
 bl : Below w3.heap.size w3 v
theorem TBs.below {w w3 : World} {k : Nat} {mk : Ma} {l : List Int} {c1 c2 c3 c4 pl : Value} {v v' : World} (h : TBs w w3 k mk l c1 c2 c3 c4 pl v) (hb : Below v.heap.size v v') : TBs w w3 k mk l c1 c2 c3 c4 pl v' :=
 ⟨h.ob.below hb, h.mr.now hb, fun hk => (h.mm hk).now hb, own_kept h.row hb, h.rb.below hb, bT h.bl hb⟩
theorem TBs.put {w w3 : World} {k : Nat} {mk m2 : Ma} {l : List Int} {c1 c2 c3 c4 pl : Value} {v : World} (h : TBs w w3 k mk l c1 c2 c3 c4 pl v) (hw : w.heap.size + 2 ≤ w3.heap.size) {u1 u2 u3 u4 : Value} (hm : MaM w.heap.size v u1 u2 u3 u4 m2) :
  TBs w w3 (k + 1) m2 l u1 u2 u3 u4 pl (((((((((v.setCell ⟨w3.heap.size, 0, none⟩ u1).setCell ⟨w3.heap.size, 1, none⟩ u2).setCell ⟨w3.heap.size, 2, none⟩ u3).setCell ⟨w3.heap.size, 3, none⟩ (.int .i64 m2.c.hand)).setCell ⟨w3.heap.size, 4, none⟩ (.int .i64 m2.g.count)).setCell ⟨w3.heap.size, 5, none⟩ (.int .i64 m2.g.next)).setCell ⟨w3.heap.size, 6, none⟩ (.int .i64 m2.g.round)).setCell ⟨w3.heap.size, 7, none⟩ u4).setCell ⟨w3.heap.size, 8, none⟩ (.int .i64 m2.sp)) := by
 have hT := GT.set9 (q := chg) (B := w3.heap.size) h.ob chg_ma (by decide) (Nat.le_refl _) u1 u2 u3 (.int .i64 m2.c.hand) (.int .i64 m2.g.count) (.int .i64 m2.g.next) (.int .i64 m2.g.round) u4 (.int .i64 m2.sp)
 have hm2 := hm.chg hT.oth
 exact ⟨h.ob.set9 _ _ _ _ _ _ _ _ _, hm2.r, fun _ => hm2, row_oth h.row hT.oth chg_int, hT.own _ _ _ h.rb (by decide) (by intro e; injection e with e; omega), h.bl.trans hT.bel⟩
theorem slm_rs2 {B n c : Nat} {e : TypeId} {w : World} {A : Option Addr} {l : List Int} (h : SlM intE e B w (.slice A n c) l) : Rs intE w.heap.size w A l := by
 obtain ⟨A', c', e', _, _, h4⟩ := h
 injection e' with e1
 subst e1
 exact h4.is
end Go.Proofs.YtibpnlojlfcpmaaGreatDoor
