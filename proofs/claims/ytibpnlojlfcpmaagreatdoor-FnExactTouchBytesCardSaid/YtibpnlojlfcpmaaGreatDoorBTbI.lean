/- A part of the proofs of this seat: TbI. -/
import Derived.Deep.CutRange
import Derived.Deep.RegionHeldLaw
import Derived.Below
import Derived.Test.YtibpnlojlfcpmaaGreatDoorBW4
import Derived.Test.YtibpnlojlfcpmaaGreatDoorBFb
set_option linter.unusedVariables false
set_option linter.unusedSimpArgs false
set_option maxRecDepth 1000000
namespace Go.Proofs.YtibpnlojlfcpmaaGreatDoor
open Go.RowKit
theorem row_oth {q : TypeId → Prop} {base n : Nat} {e : TypeId} {sz : Nat} {w v : World} {rv : Value} {xs : List Value} (h : w.ownsRow base e sz rv n xs) (ho : Oth q w v) (he : ¬ q e) : v.ownsRow base e sz rv n xs := by
 obtain ⟨h1, h2⟩ := h
 rcases h2 with ⟨e1, h0⟩ | ⟨g', cap, cur, e1, hb, hoo, hc⟩
 ·exact ⟨h1, .inl ⟨e1, h0⟩⟩
 ·exact ⟨h1, .inr ⟨g', cap, cur, e1, hb, ho.2 _ _ _ (show Own w g' e cur from hoo) he, hc⟩⟩
theorem SlM.clip {B n c : Nat} {w : World} {A : Option Addr} {l : List Int} (h : SlM intE 3 B w (.slice A n c) l) : SlM intE 3 B w (.slice A n n) l := by
 obtain ⟨A', c', e', h2, h3, h4⟩ := h
 injection e' with e1 e2 e3
 subst e1 e2
 exact ⟨A, l.length, rfl, Nat.le_refl _, by omega, h4⟩
theorem MineE.grow {α : Type} {E : Enc α} {e : TypeId} {B : Nat} {w w' : World} {A : Option Addr} {l : List α} {row : Option Nat} (h : MineE E e B w A l) (hg : w.grownBy w' row) (hr : ∀ k, row = some k → k < B) : MineE E e B w' A l := by
 refine ⟨⟨h.is.len, fun hn => ?_⟩, fun hl => ?_⟩
 ·obtain ⟨g, cs, rfl, hbg, ho, _⟩ := h.own hn
  obtain ⟨b, o, e, hb, hc⟩ := h.is.at_ hn
  injection e with e
  injection e with e1 e2
  subst e1 e2
  have ho2 := own_other ho hg (fun e => by have := hr _ e.symm; omega)
  refine ⟨g, 0, rfl, by have := hg.size; omega, fun j u hu => ?_⟩
  have hh := hc j u hu
  rw [ho.cell] at hh
  rw [ho2.cell]
  exact hh
 ·obtain ⟨g, cs, e, hbg, ho, hs⟩ := h.own hl
  exact ⟨g, cs, e, hbg, own_other ho hg (fun e => by have := hr _ e.symm; omega), hs⟩
theorem MaM.grow {B : Nat} {w w' : World} {v1 v2 v3 v4 : Value} {m : Ma} {row : Option Nat} (h : MaM B w v1 v2 v3 v4 m) (hg : w.grownBy w' row) (hr : ∀ k, row = some k → k < B) : MaM B w' v1 v2 v3 v4 m := by
 obtain ⟨⟨⟨A1, c1, r1, l1, k1, m1⟩, ⟨A2, c2, r2, l2, k2, m2⟩⟩, ⟨A3, c3, r3, l3, k3, m3⟩, ⟨A4, c4, r4, l4, k4, m4⟩⟩ := h
 exact ⟨⟨⟨A1, c1, r1, l1, k1, m1.grow hg hr⟩, ⟨A2, c2, r2, l2, k2, m2.grow hg hr⟩⟩, ⟨A3, c3, r3, l3, k3, m3.grow hg hr⟩, ⟨A4, c4, r4, l4, k4, m4.grow hg hr⟩⟩
theorem row_lt {base n : Nat} {e : TypeId} {sz : Nat} {w : World} {rv : Value} {xs : List Value} (h : w.ownsRow base e sz rv n xs) : ∀ k, rv.ownBlock = some k → k < w.heap.size := by
 intro k hk
 rcases h.2 with ⟨e1, _⟩ | ⟨g, cap, cur, e1, _, ho, _⟩
 ·rw [e1] at hk; cases hk
 ·rw [e1] at hk
  injection hk with hk
  subst hk
  exact (show Own w _ _ cur from ho).lt
def Apart (c1 pl : Value) : Prop := ∀ (a : Addr) (n c : Nat), c1 = .slice (some a) n c → 0 < n → pl.ownBlock ≠ some a.block
theorem apart_none {c1 : Value} {n c : Nat} : Apart c1 (.slice none n c) := fun _ _ _ _ _ h => by cases h
theorem Apart.clip {c1 : Value} {A : Option Addr} {n c n' c' : Nat} (h : Apart c1 (.slice A n c)) : Apart c1 (.slice A n' c') := by
 cases A with
 | none => exact apart_none
 | some a => exact h
theorem apart_new {B : Nat} {w : World} {v1 v2 v3 v4 pl : Value} {m : Ma} (h : MaM B w v1 v2 v3 v4 m) (hr : ∀ k, pl.ownBlock = some k → k < B) : Apart v1 pl := by
 intro a n c e hn hp
 obtain ⟨A, c', e', _, _, hm⟩ := h.t.b
 rw [e'] at e
 injection e with e1 e2 e3
 obtain ⟨g', cs, e4, hb, _⟩ := hm.own (by omega)
 rw [e1] at e4
 injection e4 with e4
 subst e4
 have := hr _ hp
 simp only at this
 omega
theorem apart_app {B : Nat} {w : World} {v1 v2 v3 v4 pl pl' : Value} {m : Ma} (h : MaM B w v1 v2 v3 v4 m) (ha : Apart v1 pl) (h4 : pl'.ownBlock = pl.ownBlock ∨ pl'.ownBlock = some (w.heap.size + 1)) : Apart v1 pl' := by
 intro a n c e hn hp
 rcases h4 with h4 | h4
 ·rw [h4] at hp; exact ha a n c e hn hp
 ·rw [h4] at hp
  injection hp with hp
  obtain ⟨A, c', e', _, _, hm⟩ := h.t.b
  rw [e'] at e
  injection e with e1 e2 e3
  obtain ⟨g', cs, e4, _, ho, _⟩ := hm.own (by omega)
  rw [e1] at e4
  injection e4 with e4
  subst e4
  have := ho.lt
  simp only at hp
  omega
theorem apart_far {B : Nat} {w : World} {v1 v2 v3 v4 pl : Value} {m : Ma} (h : MaM B w v1 v2 v3 v4 m) (hr : ∀ k, pl.ownBlock = some k → w.heap.size ≤ k) : Apart v1 pl := by
 intro a n c e hn hp
 obtain ⟨A, c', e', _, _, hm⟩ := h.t.b
 rw [e'] at e
 injection e with e1 e2 e3
 obtain ⟨g', cs, e4, _, ho, _⟩ := hm.own (by omega)
 rw [e1] at e4
 injection e4 with e4
 subst e4
 have h1 := ho.lt
 have h2 := hr _ hp
 simp only at h2
 omega
def TBQ (B : Nat) (X : Ma × List Int × Int) (ok : Bool) (v : Value) (w' : World) : Prop := ∃ (v1 v2 v3 v4 : Value) (A : Option Addr) (c : Nat), v = .tuple #[.agg #[v1, v2, v3, .int .i64 X.1.c.hand, .int .i64 X.1.g.count, .int .i64 X.1.g.next, .int .i64 X.1.g.round, v4, .int .i64 X.1.sp], .slice A X.2.1.length c, .int .i64 X.2.2, .bool ok] ∧ MaM B w' v1 v2 v3 v4 X.1 ∧ SlM intE 3 B w' (.slice A X.2.1.length c) X.2.1 ∧ Apart v1 (.slice A X.2.1.length c)
structure TBs (w w3 : World) (k : Nat) (mk : Ma) (l : List Int) (c1 c2 c3 c4 pl : Value) (v : World) : Prop where
 ob : Own v w3.heap.size 48 #[c1, c2, c3, .int .i64 mk.c.hand, .int .i64 mk.g.count, .int .i64 mk.g.next, .int .i64 mk.g.round, c4, .int .i64 mk.sp]
 mr : MaR v c1 c2 c3 c4 mk
 mm : 0 < k → MaM w.heap.size v c1 c2 c3 c4 mk
 row : v.ownsRow (w3.heap.size + 1) 3 1 pl l.length (intE.cells l)
 rb : Own v (w.heap.size + 1) 48 #[.slice none 0 0, .slice none 0 0, .slice none 0 0, .int .i64 0, .int .i64 0, .int .i64 0, .int .i64 0, .slice none 0 0, .int .i64 0]
 bl : Below w3.heap.size w3 v
 ap : Apart c1 pl
theorem TBs.below {w w3 : World} {k : Nat} {mk : Ma} {l : List Int} {c1 c2 c3 c4 pl : Value} {v v' : World} (h : TBs w w3 k mk l c1 c2 c3 c4 pl v) (hb : Below v.heap.size v v') : TBs w w3 k mk l c1 c2 c3 c4 pl v' :=
 ⟨h.ob.below hb, h.mr.now hb, fun hk => (h.mm hk).now hb, own_kept h.row hb, h.rb.below hb, bT h.bl hb, h.ap⟩
theorem TBs.put {w w3 : World} {k : Nat} {mk m2 : Ma} {l : List Int} {c1 c2 c3 c4 pl : Value} {v : World} (h : TBs w w3 k mk l c1 c2 c3 c4 pl v) (hw : w.heap.size + 2 ≤ w3.heap.size) {u1 u2 u3 u4 : Value} (hm : MaM w.heap.size v u1 u2 u3 u4 m2) (hap : Apart u1 pl) :
  TBs w w3 (k + 1) m2 l u1 u2 u3 u4 pl (((((((((v.setCell ⟨w3.heap.size, 0, none⟩ u1).setCell ⟨w3.heap.size, 1, none⟩ u2).setCell ⟨w3.heap.size, 2, none⟩ u3).setCell ⟨w3.heap.size, 3, none⟩ (.int .i64 m2.c.hand)).setCell ⟨w3.heap.size, 4, none⟩ (.int .i64 m2.g.count)).setCell ⟨w3.heap.size, 5, none⟩ (.int .i64 m2.g.next)).setCell ⟨w3.heap.size, 6, none⟩ (.int .i64 m2.g.round)).setCell ⟨w3.heap.size, 7, none⟩ u4).setCell ⟨w3.heap.size, 8, none⟩ (.int .i64 m2.sp)) := by
 have hT := GT.set9 (q := chg) (B := w3.heap.size) h.ob chg_ma (by decide) (Nat.le_refl _) u1 u2 u3 (.int .i64 m2.c.hand) (.int .i64 m2.g.count) (.int .i64 m2.g.next) (.int .i64 m2.g.round) u4 (.int .i64 m2.sp)
 have hm2 := hm.chg hT.oth
 exact ⟨h.ob.set9 _ _ _ _ _ _ _ _ _, hm2.r, fun _ => hm2, row_oth h.row hT.oth chg_int, hT.own _ _ _ h.rb (by decide) (by intro e; injection e with e; omega), h.bl.trans hT.bel, hap⟩
theorem slm_nil {B : Nat} {w : World} : SlM intE 3 B w (.slice none 0 0) [] := slm_own (w := w) (n := 0) rfl (World.ownsRow_nil _ _ _ _)
set_option maxHeartbeats 4000000 in
theorem TouchBytes_ap (vb vf vl vo : Value) (m : Ma) (p o b n : Int) (w : World) (hM : MaR w vb vf vl vo m) (hfree : Free w) :
  Calls Tryz.prog 47 #[.agg #[vb, vf, vl, .int .i64 m.c.hand, .int .i64 m.g.count, .int .i64 m.g.next, .int .i64 m.g.round, vo, .int .i64 m.sp], .int .i64 p, .int .i64 o, .int .i64 b, .int .i64 n] w (Post2 fun v w' => TBQ w.heap.size (tbX m p o b n) (tbO m p o b n) v w' ∧ Below w.heap.size w w') := by
 have HFR := Hd hfree
 have HM := Hd hM
 clear hfree hM
 obtain ⟨W0, hW, hbx, hbo, hb0, hs0⟩ := box2 w #[vb, vf, vl, .int .i64 m.c.hand, .int .i64 m.g.count, .int .i64 m.g.next, .int .i64 m.g.round, vo, .int .i64 m.sp] 48 #[.slice none 0 0, .slice none 0 0, .slice none 0 0, .int .i64 0, .int .i64 0, .int .i64 0, .int .i64 0, .slice none 0 0, .int .i64 0] 48
 have HX0 := Hd hbx
 have HR0 := Hd hbo
 have HB0 := Hd hb0
 clear hbx hbo hb0
 obtain ⟨m00, m10, m20, m30, m40, m50, m60, m70, m80⟩ := cells9 HX0.out
 go_enter Tryz.func47, Tryz.ntmps47
 go_wp2_with fail
 refine (MachineValid_any vb vf vl vo m _ (HM.out.now HB0.out) (HFR.out.now HB0.out)).mono ?_
 rintro e w1 ⟨rfl, hb1⟩
 clear m00 m10 m20 m30 m40 m50 m60 m70 m80
 have HX1 := Hd (HX0.out.below hb1)
 have HR1 := Hd (HR0.out.below hb1)
 have HB1 := Hd (bT HB0.out hb1)
 have hs1 := hb1.size
 clear hb1 HX0 HR0 HB0
 cases h1 : mav m with
 | false =>
  have HOE : Hid (tbO m p o b n = false) := by show _ = _; unfold tbO; rw [h1]; rfl
  have HXE : Hid (tbX m p o b n = (maz, [], 0)) := tbO_no HOE.out
  obtain ⟨r0x, r1x, r2x, r3x, r4x, r5x, r6x, r7x, r8x⟩ := cells9 HR1.out
  obtain ⟨z0x, z1x, z2x, z3x, z4x, z5x, z6x, z7x, z8x⟩ := free9 HR1.out
  have hlr := HR1.out.lt
  go_wp2
  have o3 := set9z HR1.out
  obtain ⟨t0, t1, t2, t3, t4, t5, t6, t7, t8⟩ := cells9 o3
  refine bodyPost_ret (v := .tuple #[.agg #[.slice none 0 0, .slice none 0 0, .slice none 0 0, .int .i64 0, .int .i64 0, .int .i64 0, .int .i64 0, .slice none 0 0, .int .i64 0], .slice none 0 0, .int .i64 0, .bool false]) (by simp [results, Tryz.results47, go_sem, t0, t1, t2, t3, t4, t5, t6, t7, t8]) rfl ⟨_, rfl, ⟨_, _, _, _, none, 0, by rw [HXE.out, HOE.out]; rfl, by rw [HXE.out]; exact mam_z, by rw [HXE.out]; exact slm_nil, apart_none⟩, ?_⟩
  repeat (refine bS ?_ (by simp <;> omega))
  exact HB1.out
 | true =>
 go_wp2_with fail
 refine (RightsValid_any _ _).mono ?_
 rintro e w' ⟨rfl, rfl⟩
 cases h2 : inR n 8 with
 | false =>
  have HOE : Hid (tbO m p o b n = false) := by show _ = _; unfold tbO; rw [h1, h2]; rfl
  have HXE : Hid (tbX m p o b n = (maz, [], 0)) := tbO_no HOE.out
  obtain ⟨r0x, r1x, r2x, r3x, r4x, r5x, r6x, r7x, r8x⟩ := cells9 HR1.out
  obtain ⟨z0x, z1x, z2x, z3x, z4x, z5x, z6x, z7x, z8x⟩ := free9 HR1.out
  have hlr := HR1.out.lt
  go_wp2
  have o3 := set9z HR1.out
  obtain ⟨t0, t1, t2, t3, t4, t5, t6, t7, t8⟩ := cells9 o3
  refine bodyPost_ret (v := .tuple #[.agg #[.slice none 0 0, .slice none 0 0, .slice none 0 0, .int .i64 0, .int .i64 0, .int .i64 0, .int .i64 0, .slice none 0 0, .int .i64 0], .slice none 0 0, .int .i64 0, .bool false]) (by simp [results, Tryz.results47, go_sem, t0, t1, t2, t3, t4, t5, t6, t7, t8]) rfl ⟨_, rfl, ⟨_, _, _, _, none, 0, by rw [HXE.out, HOE.out]; rfl, by rw [HXE.out]; exact mam_z, by rw [HXE.out]; exact slm_nil, apart_none⟩, ?_⟩
  repeat (refine bS ?_ (by simp <;> omega))
  exact HB1.out
 | true =>
 have x8 := HX1.out.cell_ 8 (v := .int .i64 m.sp) rfl
 go_wp2_with fail
 refine (SplitBytes_mine m.sp p o b w1).mono ?_
 rintro e w3 ⟨A5, c5, rfl, hlc5, hmi, hb3⟩
 clear x8
 have HX3 := Hd (HX1.out.below hb3)
 have HR3 := Hd (HR1.out.below hb3)
 have HB3 := Hd (bT HB1.out hb3)
 have HPC := Hd hmi.is
 have hs3 := hb3.size
 clear hb3 HX1 HR1 HB1 hmi
 cases h3 : pval m.sp p o b with
 | false =>
  have HOE : Hid (tbO m p o b n = false) := by show _ = _; unfold tbO; rw [h1, h2, h3]; rfl
  clear HPC
  have HXE : Hid (tbX m p o b n = (maz, [], 0)) := tbO_no HOE.out
  obtain ⟨r0x, r1x, r2x, r3x, r4x, r5x, r6x, r7x, r8x⟩ := cells9 HR3.out
  obtain ⟨z0x, z1x, z2x, z3x, z4x, z5x, z6x, z7x, z8x⟩ := free9 HR3.out
  have hlr := HR3.out.lt
  go_wp2
  have o3 := set9z HR3.out
  obtain ⟨t0, t1, t2, t3, t4, t5, t6, t7, t8⟩ := cells9 o3
  refine bodyPost_ret (v := .tuple #[.agg #[.slice none 0 0, .slice none 0 0, .slice none 0 0, .int .i64 0, .int .i64 0, .int .i64 0, .int .i64 0, .slice none 0 0, .int .i64 0], .slice none 0 0, .int .i64 0, .bool false]) (by simp [results, Tryz.results47, go_sem, t0, t1, t2, t3, t4, t5, t6, t7, t8]) rfl ⟨_, rfl, ⟨_, _, _, _, none, 0, by rw [HXE.out, HOE.out]; rfl, by rw [HXE.out]; exact mam_z, by rw [HXE.out]; exact slm_nil, apart_none⟩, ?_⟩
  repeat (refine bS ?_ (by simp <;> omega))
  exact HB3.out
 | true =>
 have HOE : Hid (tbO m p o b n = true) := by show _ = _; unfold tbO; rw [h1, h2, h3]; rfl
 have HXS := Hd (tbO_yes HOE.out).2.2.2
 have HOK := Hd (pcs_ok h3)
 have hN := pcn_le h3
 have hpv : pcv m.sp p o b = pcs p o b := by unfold pcv; rw [if_pos h3]
 rw [hpv] at HPC hlc5 ⊢
 rw [pcs_length] at hlc5 ⊢
 have HN1 := hN.1
 have HN2 := hN.2.1
 clear hN hpv
 generalize hNN : pcn p o b = N at *
 obtain ⟨m00, m10, m20, m30, m40, m50, m60, m70, m80⟩ := cells9 HX3.out
 obtain ⟨A1, c1, rfl, _⟩ := HM.out.t.b
 obtain ⟨A2, c2, rfl, _⟩ := HM.out.t.f
 obtain ⟨A3, c3, rfl, _⟩ := HM.out.l
 obtain ⟨A4, c4, rfl, _⟩ := HM.out.o
 obtain ⟨w4, hW4, ho4, hb4, _⟩ := box1 w3 #[.slice A1 m.t.bs.length c1, .slice A2 m.t.fs.length c2, .slice A3 m.c.ls.length c3, .int .i64 m.c.hand, .int .i64 m.g.count, .int .i64 m.g.next, .int .i64 m.g.round, .slice A4 m.g.os.length c4, .int .i64 m.sp] 48
 have HTB0 : Hid (TBs w w3 0 m [] (.slice A1 m.t.bs.length c1) (.slice A2 m.t.fs.length c2) (.slice A3 m.c.ls.length c3) (.slice A4 m.g.os.length c4) (.slice none 0 0) w4) := ⟨ho4, (HM.out.now HB3.out).now hb4, fun h => absurd h (by omega), World.ownsRow_nil _ _ _ _, HR3.out.below hb4, hb4, apart_none⟩
 have HBW := Hd HB3.out
 have hw3 : w.heap.size + 2 ≤ w3.heap.size := by omega
 clear ho4 hb4
 go_upto_region 7 with fail
 try rw [hW4]
 clear hW4
 clear m00 m10 m20 m30 m40 m50 m60 m70 m80
 go_wp2
 go_loopw [17, 18, 50] (fun pl la u wr => ∃ (k : Nat) (mk : Ma) (l : List Int) (c1 c2 c3 c4 : Value) (la' : Int), k ≤ N ∧ u = .int .i64 k ∧ la = .int .i64 la' ∧ Hid (l.length = k) ∧ Hid (tbS n (pcs p o b) m [] 1 = tbS n ((pcs p o b).drop k) mk l la') ∧ Hid (mav mk = true) ∧ Hid (TBs w w3 k mk l c1 c2 c3 c4 pl wr)) (fun _ _ u _ => N - (intOf u).toNat)
 case atStart => exact ⟨0, m, [], _, _, _, _, 1, by omega, rfl, rfl, rfl, rfl, h1, HTB0⟩
 case round =>
  obtain ⟨k, mk, l, q1, q2, q3, q4, la, hk, rfl, rfl, hlk, HST, HMK, HTB⟩ := hrel
  clear HTB0
  obtain ⟨G1, g1, rfl, _⟩ := HTB.out.mr.t.b
  obtain ⟨G2, g2, rfl, _⟩ := HTB.out.mr.t.f
  obtain ⟨G3, g3, rfl, _⟩ := HTB.out.mr.l
  obtain ⟨G4, g4, rfl, _⟩ := HTB.out.mr.o
  obtain ⟨A8, c8, rfl, hlc8, hcm8, _⟩ := rs_own (E := intE) (l := l) rfl HTB.out.row
  by_cases hlt : k < N
  ·skip
   obtain ⟨q, eq⟩ : ∃ q, (pcs p o b)[k]? = some q := ⟨_, List.getElem?_eq_getElem (by rw [pcs_length]; omega)⟩
   have hstp := Hd (tbS_step (n := n) (m := mk) (l := l) (la := la) eq)
   obtain ⟨hq1, hq2⟩ := HOK.out q (List.mem_of_getElem? eq)
   have hfO : fbO mk q.1 q.2.1 n = true := by unfold fbO tchO; rw [HMK.out, hq1, hq2, h2]; rfl
   have HMV2 : Hid (mav (fbV mk q.1 q.2.1 n) = true) := by show _ = _; rw [(fbO_yes hfO).1]; exact mav_tch (fbO_parts hfO).1
   obtain ⟨b5, o5, hA5, hb5, hc5⟩ := (HPC.out.below HTB.out.bl).el eq
   subst hA5
   have y0 : wr.cell? ⟨b5, o5 + k * 3, none⟩ = some (.int .i64 q.1) := hc5 0 _ rfl
   have y1 : wr.cell? ⟨b5, o5 + k * 3 + 1, none⟩ = some (.int .i64 q.2.1) := hc5 1 _ rfl
   have y2 : wr.cell? ⟨b5, o5 + k * 3 + 2, none⟩ = some (.int .i64 q.2.2) := hc5 2 _ rfl
   have hki : (k : Int) < (N : Int) := by omega
   have hk00 : (0 : Int) ≤ (k : Int) := by omega
   obtain ⟨w5, hW5, ho5, hb5', _⟩ := box1 wr #[.int .i64 q.1, .int .i64 q.2.1, .int .i64 q.2.2] 153
   have HTB5 := Hd (HTB.out.below hb5')
   have HP5 := Hd ho5
   have hb35 := HTB5.out.bl
   have HFR5 := Hd (HFR.out.now (bT HBW.out hb35))
   have hs5 := hb35.size
   clear hc5 eq hq1 hq2 ho5 hb5' hb35
   go_upto_region 12 with fail
   try rw [hW5]
   clear hW5 y0 y1 y2
   obtain ⟨p0a, p1a, p2a, p3a, p4a, p5a, p6a, p7a, p8a⟩ := cells9 HTB5.out.ob
   have z0 := HP5.out.cell_ 0 (v := .int .i64 q.1) rfl
   have z1 := HP5.out.cell_ 1 (v := .int .i64 q.2.1) rfl
   go_wp2_with fail
   refine (FindByte_any _ _ _ _ mk q.1 q.2.1 n w5 HTB5.out.mr HFR5.out).mono ?_
   rintro e w6 ⟨_, rfl, u1, u2, u3, u4, rfl, hm6, hb6⟩
   rw [hfO]
   generalize hV : fbV mk q.1 q.2.1 n = V at *
   generalize hrr : fbR mk q.1 q.2.1 n = rr at *
   generalize haa : fbA mk q.1 q.2.1 n = aa at *
   clear z0 z1 hV hrr haa hfO
   clear p0a p1a p2a p3a p4a p5a p6a p7a p8a
   obtain ⟨L1, l1, rfl, _⟩ := hm6.t.b
   obtain ⟨L2, l2, rfl, _⟩ := hm6.t.f
   obtain ⟨L3, l3, rfl, _⟩ := hm6.l
   obtain ⟨L4, l4, rfl, _⟩ := hm6.o
   obtain ⟨w7, hW7, ho7, hb7, _⟩ := box1 w6 #[.slice L1 V.t.bs.length l1, .slice L2 V.t.fs.length l2, .slice L3 V.c.ls.length l3, .int .i64 V.c.hand, .int .i64 V.g.count, .int .i64 V.g.next, .int .i64 V.g.round, .slice L4 V.g.os.length l4, .int .i64 V.sp] 48
   have HTB7 := Hd (HTB5.out.below (bT hb6 hb7))
   have HM7 := Hd (hm6.now hb7)
   have HO7 := Hd ho7
   have HRB := Hd (row_lt HTB5.out.row)
   clear hm6 hb6 hb7 ho7 HTB5 HP5 HFR5
   go_upto_region 13 with fail
   try rw [hW7]
   clear hW7
   obtain ⟨p0a, p1a, p2a, p3a, p4a, p5a, p6a, p7a, p8a⟩ := cells9 HO7.out
   obtain ⟨p0c, p1c, p2c, p3c, p4c, p5c, p6c, p7c, p8c⟩ := cells9 HTB7.out.ob
   obtain ⟨w0c, w1c, w2c, w3c, w4c, w5c, w6c, w7c, w8c⟩ := free9 HTB7.out.ob
   have hlo := HTB7.out.ob.lt
   have HM8 := Hd (HM7.out.chg (GT.set9 (q := chg) (B := w3.heap.size) HTB7.out.ob chg_ma (by decide) (Nat.le_refl _) (.slice L1 V.t.bs.length l1) (.slice L2 V.t.fs.length l2) (.slice L3 V.c.ls.length l3) (.int .i64 V.c.hand) (.int .i64 V.g.count) (.int .i64 V.g.next) (.int .i64 V.g.round) (.slice L4 V.g.os.length l4) (.int .i64 V.sp)).oth)
   have HTB8 := Hd (HTB7.out.put hw3 (HM7.out.mono (show w.heap.size ≤ w5.heap.size by omega)) (apart_new HM7.out HRB.out))
   go_upto_region 16 with fail
   clear p0a p1a p2a p3a p4a p5a p6a p7a p8a p0c p1c p2c p3c p4c p5c p6c p7c p8c w0c w1c w2c w3c w4c w5c w6c w7c w8c hlo HM7 HO7
   generalize (((((((((w7.setCell ⟨w3.heap.size, 0, none⟩ (.slice L1 V.t.bs.length l1)).setCell ⟨w3.heap.size, 1, none⟩ (.slice L2 V.t.fs.length l2)).setCell ⟨w3.heap.size, 2, none⟩ (.slice L3 V.c.ls.length l3)).setCell ⟨w3.heap.size, 3, none⟩ (.int .i64 V.c.hand)).setCell ⟨w3.heap.size, 4, none⟩ (.int .i64 V.g.count)).setCell ⟨w3.heap.size, 5, none⟩ (.int .i64 V.g.next)).setCell ⟨w3.heap.size, 6, none⟩ (.int .i64 V.g.round)).setCell ⟨w3.heap.size, 7, none⟩ (.slice L4 V.g.os.length l4)).setCell ⟨w3.heap.size, 8, none⟩ (.int .i64 V.sp)) = w8 at *
   clear HTB7
   go_cut [75] from 52 to 86 (fun u wx => u = .bool (decide (rr = 3 ∨ rr = 4)) ∧ wx = w8)
   case first =>
    by_cases h3r : rr = 3
    ·subst h3r
     go_wp2
     go_meet
     exact ⟨by simp, rfl⟩
    ·have e3 : (rr == 3) = false := beq_eq_false_iff_ne.2 h3r
     by_cases h4r : rr = 4
     ·subst h4r
      go_wp2
      go_meet
      exact ⟨by simp, rfl⟩
     ·have e4 : (rr == 4) = false := beq_eq_false_iff_ne.2 h4r
      have HD : Hid (decide (rr = 3 ∨ rr = 4) = false) := decide_eq_false (by omega)
      go_wp2
      go_meet
      exact ⟨by rw [HD.out], rfl⟩
   case rest =>
    obtain ⟨rfl, rfl⟩ := hcut
    have HSL := Hd (slm_own (l := l) rfl HTB8.out.row |>.mono (show w.heap.size ≤ w3.heap.size + 1 by omega))
    by_cases hs : rr = 3 ∨ rr = 4
    ·have HXE : Hid (tbX m p o b n = (V, l, rr)) := by show _ = _; rw [HXS.out, HST.out, hstp.out, if_pos hs]
     have hd : decide (rr = 3 ∨ rr = 4) = true := decide_eq_true hs
     rw [hd]
     have hk0 : 0 < k + 1 := Nat.succ_pos k
     have HTB := HTB8
     clear hs hd HM8
     go_wp2
     have hst : GStat chg [] [(w3.heap.size, 48, #[.slice L1 V.t.bs.length l1, .slice L2 V.t.fs.length l2, .slice L3 V.c.ls.length l3, .int .i64 V.c.hand, .int .i64 V.g.count, .int .i64 V.g.next, .int .i64 V.g.round, .slice L4 V.g.os.length l4, .int .i64 V.sp])] (fun v => MaM w.heap.size v (.slice L1 V.t.bs.length l1) (.slice L2 V.t.fs.length l2) (.slice L3 V.c.ls.length l3) (.slice L4 V.g.os.length l4) V ∧ SlM intE 3 w.heap.size v (.slice A8 l.length c8) l) [sbE 4 (w.heap.size + 1) 48 #[.slice none 0 0, .slice none 0 0, .slice none 0 0, .int .i64 0, .int .i64 0, .int .i64 0, .int .i64 0, .slice none 0 0, .int .i64 0] #[.slice L1 V.t.bs.length l1, .slice L2 V.t.fs.length l2, .slice L3 V.c.ls.length l3, .int .i64 V.c.hand, .int .i64 V.g.count, .int .i64 V.g.next, .int .i64 V.g.round, .slice L4 V.g.os.length l4, .int .i64 V.sp]] := by
      refine gstat_one (by decide) ?_ (fun _ _ ho h => ⟨h.1.chg ho, h.2.oth ho chg_int⟩) (show 48 ≠ 172 by decide) sbE_keep
      ·intro f hf
       simp only [List.mem_cons, List.not_mem_nil, or_false] at hf
       subst hf
       ·exact ⟨show 48 ≠ 172 by decide, show w.heap.size + 1 ≠ w3.heap.size by omega⟩
     refine wp_region_rel4 (by kernel_rfl) [76, 77, 78, 79, 11, 12, 13] [[76], [77], [78], [79], [], [11], [12], [13]] (GC (w.heap.size) w [] [] [(w3.heap.size, 48, #[.slice L1 V.t.bs.length l1, .slice L2 V.t.fs.length l2, .slice L3 V.c.ls.length l3, .int .i64 V.c.hand, .int .i64 V.g.count, .int .i64 V.g.next, .int .i64 V.g.round, .slice L4 V.g.os.length l4, .int .i64 V.sp])] (fun v => MaM w.heap.size v (.slice L1 V.t.bs.length l1) (.slice L2 V.t.fs.length l2) (.slice L3 V.c.ls.length l3) (.slice L4 V.g.os.length l4) V ∧ SlM intE 3 w.heap.size v (.slice A8 l.length c8) l) [sbE 4 (w.heap.size + 1) 48 #[.slice none 0 0, .slice none 0 0, .slice none 0 0, .int .i64 0, .int .i64 0, .int .i64 0, .int .i64 0, .slice none 0 0, .int .i64 0] #[.slice L1 V.t.bs.length l1, .slice L2 V.t.fs.length l2, .slice L3 V.c.ls.length l3, .int .i64 V.c.hand, .int .i64 V.g.count, .int .i64 V.g.next, .int .i64 V.g.round, .slice L4 V.g.os.length l4, .int .i64 V.sp]]) (kgs (q := chg) (B := w.heap.size) (nums := []) (S := [sbE 4 (w.heap.size + 1) 48 #[.slice none 0 0, .slice none 0 0, .slice none 0 0, .int .i64 0, .int .i64 0, .int .i64 0, .int .i64 0, .slice none 0 0, .int .i64 0] #[.slice L1 V.t.bs.length l1, .slice L2 V.t.fs.length l2, .slice L3 V.c.ls.length l3, .int .i64 V.c.hand, .int .i64 V.g.count, .int .i64 V.g.next, .int .i64 V.g.round, .slice L4 V.g.os.length l4, .int .i64 V.sp]]) [KG.eq 76 (.agg #[.slice L1 V.t.bs.length l1, .slice L2 V.t.fs.length l2, .slice L3 V.c.ls.length l3, .int .i64 V.c.hand, .int .i64 V.g.count, .int .i64 V.g.next, .int .i64 V.g.round, .slice L4 V.g.os.length l4, .int .i64 V.sp]), KG.eq 77 (.slice A8 l.length c8), KG.eq 78 (.slice A8 l.length l.length), KG.eq 79 (.int .i64 rr), KG.no, KG.eq 11 (.slice A8 l.length l.length), KG.eq 12 (.int .i64 rr), KG.eq 13 (.bool true)]) (gtt chg (w.heap.size) [] [sbE 4 (w.heap.size + 1) 48 #[.slice none 0 0, .slice none 0 0, .slice none 0 0, .int .i64 0, .int .i64 0, .int .i64 0, .int .i64 0, .slice none 0 0, .int .i64 0] #[.slice L1 V.t.bs.length l1, .slice L2 V.t.fs.length l2, .slice L3 V.c.ls.length l3, .int .i64 V.c.hand, .int .i64 V.g.count, .int .i64 V.g.next, .int .i64 V.g.round, .slice L4 V.g.os.length l4, .int .i64 V.sp]]) (by kernel_rfl) ?_ (kgs_loc (q := chg) (B := w.heap.size) (nums := []) (S := [sbE 4 (w.heap.size + 1) 48 #[.slice none 0 0, .slice none 0 0, .slice none 0 0, .int .i64 0, .int .i64 0, .int .i64 0, .int .i64 0, .slice none 0 0, .int .i64 0] #[.slice L1 V.t.bs.length l1, .slice L2 V.t.fs.length l2, .slice L3 V.c.ls.length l3, .int .i64 V.c.hand, .int .i64 V.g.count, .int .i64 V.g.next, .int .i64 V.g.round, .slice L4 V.g.os.length l4, .int .i64 V.sp]]) (ks := [KG.eq 76 (.agg #[.slice L1 V.t.bs.length l1, .slice L2 V.t.fs.length l2, .slice L3 V.c.ls.length l3, .int .i64 V.c.hand, .int .i64 V.g.count, .int .i64 V.g.next, .int .i64 V.g.round, .slice L4 V.g.os.length l4, .int .i64 V.sp]), KG.eq 77 (.slice A8 l.length c8), KG.eq 78 (.slice A8 l.length l.length), KG.eq 79 (.int .i64 rr), KG.no, KG.eq 11 (.slice A8 l.length l.length), KG.eq 12 (.int .i64 rr), KG.eq 13 (.bool true)])) kgs_keep ?_ ?_
     ·exact ⟨bD (bT HBW.out HTB.out.bl), (by intro e he; cases he), (by intro e he; simp only [List.mem_cons, List.not_mem_nil, or_false] at he; subst he; exact HTB.out.ob.drew), ⟨(HTB.out.mm hk0).now (bD bR), HSL.out.now (bD bR)⟩, (by intro e he; simp only [List.mem_cons, List.not_mem_nil, or_false] at he; subst he; exact ⟨_, HTB.out.rb.drew, fun _ => rfl, fun h => absurd h (by decide)⟩)⟩
     ·intro i o ho D x v hD hC hd K hK
      match i, ho with
      | 0, ho =>
       cases ho
       simp only [fillA, Act.put, sA9, sB9, sC9] at hK ⊢
       have hx : Own v (w3.heap.size) 48 #[.slice L1 V.t.bs.length l1, .slice L2 V.t.fs.length l2, .slice L3 V.c.ls.length l3, .int .i64 V.c.hand, .int .i64 V.g.count, .int .i64 V.g.next, .int .i64 V.g.round, .slice L4 V.g.os.length l4, .int .i64 V.sp] := hC.ob _ List.mem_cons_self
       obtain ⟨z0, z1, z2, z3, z4, z5, z6, z7, z8⟩ := cells9 hx
       go_simp
       exact hK _ _ GT.same (hC.step hst hD GT.same rfl) rfl
      | 1, ho =>
       cases ho
       simp only [fillA, Act.put, sA9, sB9, sC9] at hK ⊢
       go_simp
       exact hK _ _ GT.same (hC.step hst hD GT.same rfl) rfl
      | 2, ho =>
       cases ho
       simp only [fillA, Act.put, sA9, sB9, sC9] at hK ⊢
       have d0 := hd 1 ⟨⟨1, .data⟩, by simp, rfl, rfl⟩
       change x 77 = .slice A8 l.length c8 at d0
       simp only [d0] at hK ⊢
       go_wp2_with fail
       refine (clipint_any A8 l.length c8 v hlc8).mono ?_
       rintro e v' ⟨rfl, rfl⟩
       go_simp
       exact hK _ _ GT.same (hC.step hst hD GT.same rfl) rfl
      | 3, ho =>
       cases ho
       simp only [fillA, Act.put, sA9, sB9, sC9] at hK ⊢
       go_simp
       exact hK _ _ GT.same (hC.step hst hD GT.same rfl) rfl
      | 4, ho =>
       cases ho
       simp only [fillA, Act.put, sA9, sB9, sC9] at hK ⊢
       have d0 := hd 0 ⟨⟨0, .data⟩, by simp, rfl, rfl⟩
       change x 76 = .agg #[.slice L1 V.t.bs.length l1, .slice L2 V.t.fs.length l2, .slice L3 V.c.ls.length l3, .int .i64 V.c.hand, .int .i64 V.g.count, .int .i64 V.g.next, .int .i64 V.g.round, .slice L4 V.g.os.length l4, .int .i64 V.sp] at d0
       obtain ⟨cs, hob, hold, _⟩ := hC.st (sbE 4 (w.heap.size + 1) 48 #[.slice none 0 0, .slice none 0 0, .slice none 0 0, .int .i64 0, .int .i64 0, .int .i64 0, .int .i64 0, .slice none 0 0, .int .i64 0] #[.slice L1 V.t.bs.length l1, .slice L2 V.t.fs.length l2, .slice L3 V.c.ls.length l3, .int .i64 V.c.hand, .int .i64 V.g.count, .int .i64 V.g.next, .int .i64 V.g.round, .slice L4 V.g.os.length l4, .int .i64 V.sp]) List.mem_cons_self
       obtain rfl := hold hD
       change Own v (w.heap.size + 1) 48 #[.slice none 0 0, .slice none 0 0, .slice none 0 0, .int .i64 0, .int .i64 0, .int .i64 0, .int .i64 0, .slice none 0 0, .int .i64 0] at hob
       obtain ⟨r0x, r1x, r2x, r3x, r4x, r5x, r6x, r7x, r8x⟩ := cells9 hob
       obtain ⟨z0x, z1x, z2x, z3x, z4x, z5x, z6x, z7x, z8x⟩ := free9 hob
       have hlo := hob.lt
       simp only [d0] at hK ⊢
       go_simp
       refine hK undef _ ?_ ?_ trivial
       ·exact GT.set9 hob chg_ma (by decide) (by omega) _ _ _ _ _ _ _ _ _
       ·exact hC.store (e0 := sbE 4 (w.heap.size + 1) 48 #[.slice none 0 0, .slice none 0 0, .slice none 0 0, .int .i64 0, .int .i64 0, .int .i64 0, .int .i64 0, .slice none 0 0, .int .i64 0] #[.slice L1 V.t.bs.length l1, .slice L2 V.t.fs.length l2, .slice L3 V.c.ls.length l3, .int .i64 V.c.hand, .int .i64 V.g.count, .int .i64 V.g.next, .int .i64 V.g.round, .slice L4 V.g.os.length l4, .int .i64 V.sp]) hst hD (GT.set9 hob chg_ma (by decide) (by omega) _ _ _ _ _ _ _ _ _) List.mem_cons_self rfl (hob.set9 _ _ _ _ _ _ _ _ _) rfl
      | 5, ho =>
       cases ho
       simp only [fillA, Act.put, sA9, sB9, sC9] at hK ⊢
       have d0 := hd 2 ⟨⟨2, .data⟩, by simp, rfl, rfl⟩
       change x 78 = .slice A8 l.length l.length at d0
       simp only [d0] at hK ⊢
       go_simp
       exact hK _ _ GT.same (hC.step hst hD GT.same rfl) rfl
      | 6, ho =>
       cases ho
       simp only [fillA, Act.put, sA9, sB9, sC9] at hK ⊢
       have d0 := hd 3 ⟨⟨3, .data⟩, by simp, rfl, rfl⟩
       change x 79 = .int .i64 rr at d0
       simp only [d0] at hK ⊢
       go_simp
       exact hK _ _ GT.same (hC.step hst hD GT.same rfl) rfl
      | 7, ho =>
       cases ho
       simp only [fillA, Act.put, sA9, sB9, sC9] at hK ⊢
       go_simp
       exact hK _ _ GT.same (hC.step hst hD GT.same rfl) rfl
      | _ + 8, ho => simp at ho
     intro D xa wz hD hC hd
     obtain ⟨cs0, ho0, _, hn0⟩ := hC.st (sbE 4 (w.heap.size + 1) 48 #[.slice none 0 0, .slice none 0 0, .slice none 0 0, .int .i64 0, .int .i64 0, .int .i64 0, .int .i64 0, .slice none 0 0, .int .i64 0] #[.slice L1 V.t.bs.length l1, .slice L2 V.t.fs.length l2, .slice L3 V.c.ls.length l3, .int .i64 V.c.hand, .int .i64 V.g.count, .int .i64 V.g.next, .int .i64 V.g.round, .slice L4 V.g.os.length l4, .int .i64 V.sp]) List.mem_cons_self
     have hn0 := hn0 (hD 4 (by decide))
     change Own wz (w.heap.size + 1) 48 cs0 at ho0
     change cs0 = #[.slice L1 V.t.bs.length l1, .slice L2 V.t.fs.length l2, .slice L3 V.c.ls.length l3, .int .i64 V.c.hand, .int .i64 V.g.count, .int .i64 V.g.next, .int .i64 V.g.round, .slice L4 V.g.os.length l4, .int .i64 V.sp] at hn0
     subst hn0
     have dA11 := hd 5 (by decide)
     change xa 11 = .slice A8 l.length l.length at dA11
     have dA12 := hd 6 (by decide)
     change xa 12 = .int .i64 rr at dA12
     have dA13 := hd 7 (by decide)
     change xa 13 = .bool true at dA13
     simp only [fillA, Act.put, sA9, sB9, sC9, dA11, dA12, dA13]
     have HBL := Hd hC.bl
     have HMM := Hd hC.mm
     clear hd hD dA11 dA12 dA13
     obtain ⟨p0t, p1t, p2t, p3t, p4t, p5t, p6t, p7t, p8t⟩ := cells9 ho0
     clear ho0 hC
     go_wp2
     refine bodyPost_ret (v := .tuple #[.agg #[.slice L1 V.t.bs.length l1, .slice L2 V.t.fs.length l2, .slice L3 V.c.ls.length l3, .int .i64 V.c.hand, .int .i64 V.g.count, .int .i64 V.g.next, .int .i64 V.g.round, .slice L4 V.g.os.length l4, .int .i64 V.sp], .slice A8 l.length l.length, .int .i64 rr, .bool true]) (by simp [results, Tryz.results47, go_sem, p0t, p1t, p2t, p3t, p4t, p5t, p6t, p7t, p8t]) rfl ⟨_, rfl, ⟨_, _, _, _, A8, l.length, by rw [HXE.out, HOE.out], by rw [HXE.out]; exact HMM.out.1, by rw [HXE.out]; exact SlM.clip HMM.out.2, HTB.out.ap.clip⟩, HBL.out⟩
    ·have HNX := Hd (HST.out.trans (hstp.out.trans (if_neg hs)))
     have hd : decide (rr = 3 ∨ rr = 4) = false := decide_eq_false hs
     rw [hd]
     have hw8 : w3.heap.size + 1 ≤ wc.heap.size := HTB8.out.ob.lt
     obtain ⟨v9, w9, hrun, hown9, hg9, h49⟩ := run_append_i (w3.heap.size + 1) wc (.slice A8 l.length c8) l.length l aa HTB8.out.row rfl (by have := hlk.out; omega) hw8
     have hbl : ∀ x, (Value.slice A8 l.length c8).ownBlock = some x → w3.heap.size + 1 ≤ x := own_block HTB8.out.row
     have ho9 := own_other (HTB8.out.ob.alloc (o := .cells #[.int .i64 aa] 3)) hg9 (fun h2 => by have := hbl _ h2.symm; omega)
     have hr9 := own_other (HTB8.out.rb.alloc (o := .cells #[.int .i64 aa] 3)) hg9 (fun h2 => by have := hbl _ h2.symm; omega)
     have hb9 := bG (bA HTB8.out.bl (o := .cells #[.int .i64 aa] 3)) hg9 (fun x hx => by have := hbl x hx; omega)
     have hm9 := ((HM8.out.now (bA (bR (w := wc)) (o := .cells #[.int .i64 aa] 3))).grow hg9 HRB.out).mono (show w.heap.size ≤ w5.heap.size by omega)
     have hap9 := apart_app HM8.out HTB8.out.ap h49
     clear h49
     obtain ⟨A9, c9, rfl, _⟩ := own_rd hown9
     have hown9' : w9.ownsRow (w3.heap.size + 1) 3 1 (.slice A9 (l.length + 1) c9) (l ++ [aa]).length (intE.cells (l ++ [aa])) := by rw [show (l ++ [aa]).length = l.length + 1 by simp]; exact hown9
     have HTB9 : Hid (TBs w w3 (k + 1) V (l ++ [aa]) _ _ _ _ (.slice A9 (l.length + 1) c9) w9) := ⟨ho9, hm9.r, fun _ => hm9, hown9', hr9, hb9, hap9⟩
     clear ho9 hr9 hb9 hm9 hown9 hown9' hg9 hap9 hbl HTB8 HM8 hs HSL
     by_cases h2r : rr = 2
     ·subst h2r
      have HN2x : Hid (tbS n (pcs p o b) m [] 1 = tbS n ((pcs p o b).drop (k + 1)) V (l ++ [aa]) 2) := Hd (by simpa using HNX.out)
      go_wp2_with (at_builtin; refine wpList_append_run _ rfl (.tmp 82) (.tmp 84) 22 rfl _ _ _ _ rfl rfl hrun ?_)
      go_roundw
      case rel => exact ⟨k + 1, V, l ++ [aa], _, _, _, _, 2, by omega, by simp, rfl, Hd (by have := hlk.out; simp; omega), HN2x, HMV2, HTB9⟩
      case measure => simp [intOf]; omega
     ·have e2 : (rr == 2) = false := beq_eq_false_iff_ne.2 h2r
      have HN2x : Hid (tbS n (pcs p o b) m [] 1 = tbS n ((pcs p o b).drop (k + 1)) V (l ++ [aa]) la) := Hd (by have h := HNX.out; rw [if_neg h2r] at h; exact h)
      go_wp2_with (at_builtin; refine wpList_append_run _ rfl (.tmp 82) (.tmp 84) 22 rfl _ _ _ _ rfl rfl hrun ?_)
      go_roundw
      case rel => exact ⟨k + 1, V, l ++ [aa], _, _, _, _, la, by omega, by simp, rfl, Hd (by have := hlk.out; simp; omega), HN2x, HMV2, HTB9⟩
      case measure => simp [intOf]; omega
  ·obtain rfl : k = N := by omega
   have hk0 : 0 < k := by omega
   have HXE : Hid (tbX m p o b n = (mk, l, la)) := by
    show _ = _
    rw [HXS.out, HST.out, List.drop_of_length_le (by rw [pcs_length]; omega)]
    rfl
   have HSL := Hd (slm_own (l := l) rfl HTB.out.row |>.mono (show w.heap.size ≤ w3.heap.size + 1 by omega))
   have hki : decide ((k : Int) < (k : Int)) = false := by simp
   go_wp2
   have hst : GStat chg [] [(w3.heap.size, 48, #[.slice G1 mk.t.bs.length g1, .slice G2 mk.t.fs.length g2, .slice G3 mk.c.ls.length g3, .int .i64 mk.c.hand, .int .i64 mk.g.count, .int .i64 mk.g.next, .int .i64 mk.g.round, .slice G4 mk.g.os.length g4, .int .i64 mk.sp])] (fun v => MaM w.heap.size v (.slice G1 mk.t.bs.length g1) (.slice G2 mk.t.fs.length g2) (.slice G3 mk.c.ls.length g3) (.slice G4 mk.g.os.length g4) mk ∧ SlM intE 3 w.heap.size v (.slice A8 l.length c8) l) [sbE 4 (w.heap.size + 1) 48 #[.slice none 0 0, .slice none 0 0, .slice none 0 0, .int .i64 0, .int .i64 0, .int .i64 0, .int .i64 0, .slice none 0 0, .int .i64 0] #[.slice G1 mk.t.bs.length g1, .slice G2 mk.t.fs.length g2, .slice G3 mk.c.ls.length g3, .int .i64 mk.c.hand, .int .i64 mk.g.count, .int .i64 mk.g.next, .int .i64 mk.g.round, .slice G4 mk.g.os.length g4, .int .i64 mk.sp]] := by
    refine gstat_one (by decide) ?_ (fun _ _ ho h => ⟨h.1.chg ho, h.2.oth ho chg_int⟩) (show 48 ≠ 172 by decide) sbE_keep
    ·intro f hf
     simp only [List.mem_cons, List.not_mem_nil, or_false] at hf
     subst hf
     ·exact ⟨show 48 ≠ 172 by decide, show w.heap.size + 1 ≠ w3.heap.size by omega⟩
   refine wp_region_rel4 (by kernel_rfl) [87, 88, 89, 90, 11, 12, 13] [[87], [88], [89], [90], [], [11], [12], [13]] (GC (w.heap.size) w [] [] [(w3.heap.size, 48, #[.slice G1 mk.t.bs.length g1, .slice G2 mk.t.fs.length g2, .slice G3 mk.c.ls.length g3, .int .i64 mk.c.hand, .int .i64 mk.g.count, .int .i64 mk.g.next, .int .i64 mk.g.round, .slice G4 mk.g.os.length g4, .int .i64 mk.sp])] (fun v => MaM w.heap.size v (.slice G1 mk.t.bs.length g1) (.slice G2 mk.t.fs.length g2) (.slice G3 mk.c.ls.length g3) (.slice G4 mk.g.os.length g4) mk ∧ SlM intE 3 w.heap.size v (.slice A8 l.length c8) l) [sbE 4 (w.heap.size + 1) 48 #[.slice none 0 0, .slice none 0 0, .slice none 0 0, .int .i64 0, .int .i64 0, .int .i64 0, .int .i64 0, .slice none 0 0, .int .i64 0] #[.slice G1 mk.t.bs.length g1, .slice G2 mk.t.fs.length g2, .slice G3 mk.c.ls.length g3, .int .i64 mk.c.hand, .int .i64 mk.g.count, .int .i64 mk.g.next, .int .i64 mk.g.round, .slice G4 mk.g.os.length g4, .int .i64 mk.sp]]) (kgs (q := chg) (B := w.heap.size) (nums := []) (S := [sbE 4 (w.heap.size + 1) 48 #[.slice none 0 0, .slice none 0 0, .slice none 0 0, .int .i64 0, .int .i64 0, .int .i64 0, .int .i64 0, .slice none 0 0, .int .i64 0] #[.slice G1 mk.t.bs.length g1, .slice G2 mk.t.fs.length g2, .slice G3 mk.c.ls.length g3, .int .i64 mk.c.hand, .int .i64 mk.g.count, .int .i64 mk.g.next, .int .i64 mk.g.round, .slice G4 mk.g.os.length g4, .int .i64 mk.sp]]) [KG.eq 87 (.agg #[.slice G1 mk.t.bs.length g1, .slice G2 mk.t.fs.length g2, .slice G3 mk.c.ls.length g3, .int .i64 mk.c.hand, .int .i64 mk.g.count, .int .i64 mk.g.next, .int .i64 mk.g.round, .slice G4 mk.g.os.length g4, .int .i64 mk.sp]), KG.eq 88 (.slice A8 l.length c8), KG.eq 89 (.slice A8 l.length l.length), KG.eq 90 (.int .i64 la), KG.no, KG.eq 11 (.slice A8 l.length l.length), KG.eq 12 (.int .i64 la), KG.eq 13 (.bool true)]) (gtt chg (w.heap.size) [] [sbE 4 (w.heap.size + 1) 48 #[.slice none 0 0, .slice none 0 0, .slice none 0 0, .int .i64 0, .int .i64 0, .int .i64 0, .int .i64 0, .slice none 0 0, .int .i64 0] #[.slice G1 mk.t.bs.length g1, .slice G2 mk.t.fs.length g2, .slice G3 mk.c.ls.length g3, .int .i64 mk.c.hand, .int .i64 mk.g.count, .int .i64 mk.g.next, .int .i64 mk.g.round, .slice G4 mk.g.os.length g4, .int .i64 mk.sp]]) (by kernel_rfl) ?_ (kgs_loc (q := chg) (B := w.heap.size) (nums := []) (S := [sbE 4 (w.heap.size + 1) 48 #[.slice none 0 0, .slice none 0 0, .slice none 0 0, .int .i64 0, .int .i64 0, .int .i64 0, .int .i64 0, .slice none 0 0, .int .i64 0] #[.slice G1 mk.t.bs.length g1, .slice G2 mk.t.fs.length g2, .slice G3 mk.c.ls.length g3, .int .i64 mk.c.hand, .int .i64 mk.g.count, .int .i64 mk.g.next, .int .i64 mk.g.round, .slice G4 mk.g.os.length g4, .int .i64 mk.sp]]) (ks := [KG.eq 87 (.agg #[.slice G1 mk.t.bs.length g1, .slice G2 mk.t.fs.length g2, .slice G3 mk.c.ls.length g3, .int .i64 mk.c.hand, .int .i64 mk.g.count, .int .i64 mk.g.next, .int .i64 mk.g.round, .slice G4 mk.g.os.length g4, .int .i64 mk.sp]), KG.eq 88 (.slice A8 l.length c8), KG.eq 89 (.slice A8 l.length l.length), KG.eq 90 (.int .i64 la), KG.no, KG.eq 11 (.slice A8 l.length l.length), KG.eq 12 (.int .i64 la), KG.eq 13 (.bool true)])) kgs_keep ?_ ?_
   ·exact ⟨bD (bT HBW.out HTB.out.bl), (by intro e he; cases he), (by intro e he; simp only [List.mem_cons, List.not_mem_nil, or_false] at he; subst he; exact HTB.out.ob.drew), ⟨(HTB.out.mm hk0).now (bD bR), HSL.out.now (bD bR)⟩, (by intro e he; simp only [List.mem_cons, List.not_mem_nil, or_false] at he; subst he; exact ⟨_, HTB.out.rb.drew, fun _ => rfl, fun h => absurd h (by decide)⟩)⟩
   ·intro i o ho D x v hD hC hd K hK
    match i, ho with
    | 0, ho =>
     cases ho
     simp only [fillA, Act.put, sA9, sB9, sC9] at hK ⊢
     have hx : Own v (w3.heap.size) 48 #[.slice G1 mk.t.bs.length g1, .slice G2 mk.t.fs.length g2, .slice G3 mk.c.ls.length g3, .int .i64 mk.c.hand, .int .i64 mk.g.count, .int .i64 mk.g.next, .int .i64 mk.g.round, .slice G4 mk.g.os.length g4, .int .i64 mk.sp] := hC.ob _ List.mem_cons_self
     obtain ⟨z0, z1, z2, z3, z4, z5, z6, z7, z8⟩ := cells9 hx
     go_simp
     exact hK _ _ GT.same (hC.step hst hD GT.same rfl) rfl
    | 1, ho =>
     cases ho
     simp only [fillA, Act.put, sA9, sB9, sC9] at hK ⊢
     go_simp
     exact hK _ _ GT.same (hC.step hst hD GT.same rfl) rfl
    | 2, ho =>
     cases ho
     simp only [fillA, Act.put, sA9, sB9, sC9] at hK ⊢
     have d0 := hd 1 ⟨⟨1, .data⟩, by simp, rfl, rfl⟩
     change x 88 = .slice A8 l.length c8 at d0
     simp only [d0] at hK ⊢
     go_wp2_with fail
     refine (clipint_any A8 l.length c8 v hlc8).mono ?_
     rintro e v' ⟨rfl, rfl⟩
     go_simp
     exact hK _ _ GT.same (hC.step hst hD GT.same rfl) rfl
    | 3, ho =>
     cases ho
     simp only [fillA, Act.put, sA9, sB9, sC9] at hK ⊢
     go_simp
     exact hK _ _ GT.same (hC.step hst hD GT.same rfl) rfl
    | 4, ho =>
     cases ho
     simp only [fillA, Act.put, sA9, sB9, sC9] at hK ⊢
     have d0 := hd 0 ⟨⟨0, .data⟩, by simp, rfl, rfl⟩
     change x 87 = .agg #[.slice G1 mk.t.bs.length g1, .slice G2 mk.t.fs.length g2, .slice G3 mk.c.ls.length g3, .int .i64 mk.c.hand, .int .i64 mk.g.count, .int .i64 mk.g.next, .int .i64 mk.g.round, .slice G4 mk.g.os.length g4, .int .i64 mk.sp] at d0
     obtain ⟨cs, hob, hold, _⟩ := hC.st (sbE 4 (w.heap.size + 1) 48 #[.slice none 0 0, .slice none 0 0, .slice none 0 0, .int .i64 0, .int .i64 0, .int .i64 0, .int .i64 0, .slice none 0 0, .int .i64 0] #[.slice G1 mk.t.bs.length g1, .slice G2 mk.t.fs.length g2, .slice G3 mk.c.ls.length g3, .int .i64 mk.c.hand, .int .i64 mk.g.count, .int .i64 mk.g.next, .int .i64 mk.g.round, .slice G4 mk.g.os.length g4, .int .i64 mk.sp]) List.mem_cons_self
     obtain rfl := hold hD
     change Own v (w.heap.size + 1) 48 #[.slice none 0 0, .slice none 0 0, .slice none 0 0, .int .i64 0, .int .i64 0, .int .i64 0, .int .i64 0, .slice none 0 0, .int .i64 0] at hob
     obtain ⟨r0x, r1x, r2x, r3x, r4x, r5x, r6x, r7x, r8x⟩ := cells9 hob
     obtain ⟨z0x, z1x, z2x, z3x, z4x, z5x, z6x, z7x, z8x⟩ := free9 hob
     have hlo := hob.lt
     simp only [d0] at hK ⊢
     go_simp
     refine hK undef _ ?_ ?_ trivial
     ·exact GT.set9 hob chg_ma (by decide) (by omega) _ _ _ _ _ _ _ _ _
     ·exact hC.store (e0 := sbE 4 (w.heap.size + 1) 48 #[.slice none 0 0, .slice none 0 0, .slice none 0 0, .int .i64 0, .int .i64 0, .int .i64 0, .int .i64 0, .slice none 0 0, .int .i64 0] #[.slice G1 mk.t.bs.length g1, .slice G2 mk.t.fs.length g2, .slice G3 mk.c.ls.length g3, .int .i64 mk.c.hand, .int .i64 mk.g.count, .int .i64 mk.g.next, .int .i64 mk.g.round, .slice G4 mk.g.os.length g4, .int .i64 mk.sp]) hst hD (GT.set9 hob chg_ma (by decide) (by omega) _ _ _ _ _ _ _ _ _) List.mem_cons_self rfl (hob.set9 _ _ _ _ _ _ _ _ _) rfl
    | 5, ho =>
     cases ho
     simp only [fillA, Act.put, sA9, sB9, sC9] at hK ⊢
     have d0 := hd 2 ⟨⟨2, .data⟩, by simp, rfl, rfl⟩
     change x 89 = .slice A8 l.length l.length at d0
     simp only [d0] at hK ⊢
     go_simp
     exact hK _ _ GT.same (hC.step hst hD GT.same rfl) rfl
    | 6, ho =>
     cases ho
     simp only [fillA, Act.put, sA9, sB9, sC9] at hK ⊢
     have d0 := hd 3 ⟨⟨3, .data⟩, by simp, rfl, rfl⟩
     change x 90 = .int .i64 la at d0
     simp only [d0] at hK ⊢
     go_simp
     exact hK _ _ GT.same (hC.step hst hD GT.same rfl) rfl
    | 7, ho =>
     cases ho
     simp only [fillA, Act.put, sA9, sB9, sC9] at hK ⊢
     go_simp
     exact hK _ _ GT.same (hC.step hst hD GT.same rfl) rfl
    | _ + 8, ho => simp at ho
   intro D xa wz hD hC hd
   obtain ⟨cs0, ho0, _, hn0⟩ := hC.st (sbE 4 (w.heap.size + 1) 48 #[.slice none 0 0, .slice none 0 0, .slice none 0 0, .int .i64 0, .int .i64 0, .int .i64 0, .int .i64 0, .slice none 0 0, .int .i64 0] #[.slice G1 mk.t.bs.length g1, .slice G2 mk.t.fs.length g2, .slice G3 mk.c.ls.length g3, .int .i64 mk.c.hand, .int .i64 mk.g.count, .int .i64 mk.g.next, .int .i64 mk.g.round, .slice G4 mk.g.os.length g4, .int .i64 mk.sp]) List.mem_cons_self
   have hn0 := hn0 (hD 4 (by decide))
   change Own wz (w.heap.size + 1) 48 cs0 at ho0
   change cs0 = #[.slice G1 mk.t.bs.length g1, .slice G2 mk.t.fs.length g2, .slice G3 mk.c.ls.length g3, .int .i64 mk.c.hand, .int .i64 mk.g.count, .int .i64 mk.g.next, .int .i64 mk.g.round, .slice G4 mk.g.os.length g4, .int .i64 mk.sp] at hn0
   subst hn0
   have dA11 := hd 5 (by decide)
   change xa 11 = .slice A8 l.length l.length at dA11
   have dA12 := hd 6 (by decide)
   change xa 12 = .int .i64 la at dA12
   have dA13 := hd 7 (by decide)
   change xa 13 = .bool true at dA13
   simp only [fillA, Act.put, sA9, sB9, sC9, dA11, dA12, dA13]
   have HBL := Hd hC.bl
   have HMM := Hd hC.mm
   clear hd hD dA11 dA12 dA13
   obtain ⟨p0t, p1t, p2t, p3t, p4t, p5t, p6t, p7t, p8t⟩ := cells9 ho0
   clear ho0 hC
   go_wp2
   refine bodyPost_ret (v := .tuple #[.agg #[.slice G1 mk.t.bs.length g1, .slice G2 mk.t.fs.length g2, .slice G3 mk.c.ls.length g3, .int .i64 mk.c.hand, .int .i64 mk.g.count, .int .i64 mk.g.next, .int .i64 mk.g.round, .slice G4 mk.g.os.length g4, .int .i64 mk.sp], .slice A8 l.length l.length, .int .i64 la, .bool true]) (by simp [results, Tryz.results47, go_sem, p0t, p1t, p2t, p3t, p4t, p5t, p6t, p7t, p8t]) rfl ⟨_, rfl, ⟨_, _, _, _, A8, l.length, by rw [HXE.out, HOE.out], by rw [HXE.out]; exact HMM.out.1, by rw [HXE.out]; exact SlM.clip HMM.out.2, HTB.out.ap.clip⟩, HBL.out⟩
end Go.Proofs.YtibpnlojlfcpmaaGreatDoor
