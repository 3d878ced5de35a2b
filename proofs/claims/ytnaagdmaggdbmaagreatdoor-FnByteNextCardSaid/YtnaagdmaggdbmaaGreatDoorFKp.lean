/- A part of the proofs of this seat: Kp. -/
import Derived.Test.YtnaagdmaggdbmaaGreatDoorFK6
set_option linter.unusedVariables false
set_option linter.unusedSimpArgs false
namespace Go.Proofs.YtnaagdmaggdbmaaGreatDoor
open Go.RowKit
set_option maxRecDepth 1000000
set_option linter.unusedVariables false
set_option linter.unusedSimpArgs false
structure P6 (w : World) (g p mb kb : Nat) (a b : Int) (vb vf vl vo : Value) (m : Ma) (v : World) : Prop where
 bl : Below w.heap.size w v
 rd : Rdr w.heap.size v g p
 hm : MaM w.heap.size v vb vf vl vo m
 ob : Own v mb 34 #[vb, vf, vl, .int .i64 m.c.hand, .int .i64 m.g.count, .int .i64 m.g.next, .int .i64 m.g.round, vo, .int .i64 m.sp]
 n : Own v w.heap.size 34 #[.slice none 0 0, .slice none 0 0, .slice none 0 0, .int .i64 0, .int .i64 0, .int .i64 0, .int .i64 0, .slice none 0 0, .int .i64 0]
 k : Own v kb 36 #[.int .i64 a, .int .i64 b]
section
variable {w v v' : World} {g p mb kb : Nat} {a b : Int} {vb vf vl vo : Value} {m : Ma}
theorem P6.below (h : P6 w g p mb kb a b vb vf vl vo m v) (hb : Below v.heap.size v v') : P6 w g p mb kb a b vb vf vl vo m v' :=
 ⟨bT h.bl hb, rdr_below h.rd hb, h.hm.now hb, h.ob.below hb, h.n.below hb, h.k.below hb⟩
theorem P6.gr {p' : Nat} (h : P6 w g p mb kb a b vb vf vl vo m v) (hr : Rdr w.heap.size v' g p') (hg : v.grownBy v' (some g)) : P6 w g p' mb kb a b vb vf vl vo m v' := by
 obtain ⟨A, n, c, ho, _, _, hBg⟩ := h.rd.ok
 exact ⟨bG h.bl hg (by intro k hk; injection hk with hk; omega), hr, h.hm.gr h.rd hg, own_gr h.ob hg (h.ob.ne ho (by decide)), own_gr h.n hg (h.n.ne ho (by decide)), own_gr h.k hg (h.k.ne ho (by decide))⟩
theorem P6.put (h : P6 w g p mb kb a b vb vf vl vo m v) (hB : w.heap.size + 1 ≤ mb) {u1 u2 u3 u4 : Value} {m2 : Ma} (hm : MaM w.heap.size v u1 u2 u3 u4 m2) :
  P6 w g p mb kb a b u1 u2 u3 u4 m2 (((((((((v.setCell ⟨mb, 0, none⟩ u1).setCell ⟨mb, 1, none⟩ u2).setCell ⟨mb, 2, none⟩ u3).setCell ⟨mb, 3, none⟩ (.int .i64 m2.c.hand)).setCell ⟨mb, 4, none⟩ (.int .i64 m2.g.count)).setCell ⟨mb, 5, none⟩ (.int .i64 m2.g.next)).setCell ⟨mb, 6, none⟩ (.int .i64 m2.g.round)).setCell ⟨mb, 7, none⟩ u4).setCell ⟨mb, 8, none⟩ (.int .i64 m2.sp)) := by
 obtain ⟨A, n, c, ho, _, _, hBg⟩ := h.rd.ok
 have hT := GT.set9 (q := chg) (B := w.heap.size) h.ob chg_ma (by decide) (by omega) u1 u2 u3 (.int .i64 m2.c.hand) (.int .i64 m2.g.count) (.int .i64 m2.g.next) (.int .i64 m2.g.round) u4 (.int .i64 m2.sp)
 refine ⟨h.bl.trans hT.bel, ?_, hm.chg hT.oth, h.ob.set9 _ _ _ _ _ _ _ _ _, hT.own _ _ _ h.n (by decide) (by intro e; injection e with e; omega), hT.own _ _ _ h.k (by decide) (by intro e; injection e with e; exact (h.k.ne h.ob (by decide)) e)⟩
 obtain ⟨p', h1, h2⟩ := hT.rd _ _ h.rd
 obtain ⟨A', n', c', ho', _⟩ := h2.ok
 have h3 := hT.oth.1
 repeat (refine rdr_far ?_ (ho.ne h.ob (by decide)) (by omega))
 exact h.rd
end
def TPP (w : World) (v : Value) (w' : World) : Prop := ∃ (m : Ma) (v1 v2 v3 v4 : Value) (p n : Int), v = .tuple #[.agg #[v1, v2, v3, .int .i64 m.c.hand, .int .i64 m.g.count, .int .i64 m.g.next, .int .i64 m.g.round, v4, .int .i64 m.sp], .int .i64 p, .int .i64 n] ∧ MaM w.heap.size w' v1 v2 v3 v4 m ∧ Sz 19 m ∧ small p ∧ small n ∧ Below w.heap.size w w'
def FBP (w : World) (v : Value) (w' : World) : Prop := ∃ (m : Ma) (v1 v2 v3 v4 : Value) (p o n : Int), v = .tuple #[.agg #[v1, v2, v3, .int .i64 m.c.hand, .int .i64 m.g.count, .int .i64 m.g.next, .int .i64 m.g.round, v4, .int .i64 m.sp], .int .i64 p, .int .i64 o, .int .i64 n] ∧ MaM w.heap.size w' v1 v2 v3 v4 m ∧ Sz 19 m ∧ small p ∧ small o ∧ small n ∧ Below w.heap.size w w'
set_option maxHeartbeats 4000000 in
theorem DrawTouchPage_any (A : Option Addr) (n c : Nat) (w : World) (hb : Bytes w.heap.size w A n) (hc : n ≤ c) (hn : n ≤ 1048576) :
  Calls Tryz.prog 76 #[.slice A n c] w (Post2 fun v w' => TPP w v w') := by
 have ho := Own.new_ w 34 #[.slice none 0 0, .slice none 0 0, .slice none 0 0, .int .i64 0, .int .i64 0, .int .i64 0, .int .i64 0, .slice none 0 0, .int .i64 0]
 have hb0 : Below w.heap.size w (w.alloc (.cells #[.slice none 0 0, .slice none 0 0, .slice none 0 0, .int .i64 0, .int .i64 0, .int .i64 0, .int .i64 0, .slice none 0 0, .int .i64 0] 34)) := bA bR
 have hs0 : (w.alloc (.cells #[.slice none 0 0, .slice none 0 0, .slice none 0 0, .int .i64 0, .int .i64 0, .int .i64 0, .int .i64 0, .slice none 0 0, .int .i64 0] 34)).heap.size = w.heap.size + 1 := by simp
 generalize hW : w.alloc (.cells #[.slice none 0 0, .slice none 0 0, .slice none 0 0, .int .i64 0, .int .i64 0, .int .i64 0, .int .i64 0, .slice none 0 0, .int .i64 0] 34) = W0 at ho hb0 hs0
 have HBY := Lib.hid hb
 have HN := Lib.hid ho
 have HB := Lib.hid hb0
 have KC := Lib.hid (l6Key_any A n c W0 ((hb.keep fun q hq => hb0.cell hq).up (by omega)) hc hn)
 clear ho hb0 hb
 go_enter Tryz.func76, Tryz.ntmps76
 go_wp2_with fail
 refine KC.out.mono ?_
 rintro e w1 ⟨_, rfl, m, v1, v2, v3, v4, a, b, rfl, hM, hz, hsa, hsb, hb1⟩
 obtain ⟨A1, c1, rfl, _⟩ := hM.t.b
 obtain ⟨A2, c2, rfl, _⟩ := hM.t.f
 obtain ⟨A3, c3, rfl, _⟩ := hM.l
 obtain ⟨A4, c4, rfl, _⟩ := hM.o
 have hs1 := hb1.size
 have hn := HN.out.below hb1
 have hx := (Own.new_ w1 34 #[.slice A1 m.t.bs.length c1, .slice A2 m.t.fs.length c2, .slice A3 m.c.ls.length c3, .int .i64 m.c.hand, .int .i64 m.g.count, .int .i64 m.g.next, .int .i64 m.g.round, .slice A4 m.g.os.length c4, .int .i64 m.sp]).alloc (o := .cells #[.int .i64 a, .int .i64 b] 36)
 have hy := ownAt (W := w1.alloc (.cells #[.slice A1 m.t.bs.length c1, .slice A2 m.t.fs.length c2, .slice A3 m.c.ls.length c3, .int .i64 m.c.hand, .int .i64 m.g.count, .int .i64 m.g.next, .int .i64 m.g.round, .slice A4 m.g.os.length c4, .int .i64 m.sp] 34)) (g := w1.heap.size + 1) (t := 36) (cs := #[.int .i64 a, .int .i64 b]) (by simp)
 have hb2 : Below w1.heap.size w1 ((w1.alloc (.cells #[.slice A1 m.t.bs.length c1, .slice A2 m.t.fs.length c2, .slice A3 m.c.ls.length c3, .int .i64 m.c.hand, .int .i64 m.g.count, .int .i64 m.g.next, .int .i64 m.g.round, .slice A4 m.g.os.length c4, .int .i64 m.sp] 34)).alloc (.cells #[.int .i64 a, .int .i64 b] 36)) := bA (bA bR)
 have hs2 : ((w1.alloc (.cells #[.slice A1 m.t.bs.length c1, .slice A2 m.t.fs.length c2, .slice A3 m.c.ls.length c3, .int .i64 m.c.hand, .int .i64 m.g.count, .int .i64 m.g.next, .int .i64 m.g.round, .slice A4 m.g.os.length c4, .int .i64 m.sp] 34)).alloc (.cells #[.int .i64 a, .int .i64 b] 36)).heap.size = w1.heap.size + 2 := by simp
 generalize hW2 : (w1.alloc (.cells #[.slice A1 m.t.bs.length c1, .slice A2 m.t.fs.length c2, .slice A3 m.c.ls.length c3, .int .i64 m.c.hand, .int .i64 m.g.count, .int .i64 m.g.next, .int .i64 m.g.round, .slice A4 m.g.os.length c4, .int .i64 m.sp] 34)).alloc (.cells #[.int .i64 a, .int .i64 b] 36) = w2 at hx hy hb2 hs2
 have HN2 := Lib.hid (hn.below hb2)
 have HX := Lib.hid hx
 have HY := Lib.hid hy
 have HM := Lib.hid ((hM.now hb2).mono (show w.heap.size ≤ W0.heap.size by omega))
 have HB2 := Lib.hid (bT (bT HB.out hb1) hb2)
 have HZ := Lib.hid hz
 clear hM hb1 hb2 hn hx hz HN HB KC hW hy
 have hmb2 : w.heap.size + 1 ≤ w1.heap.size := by omega
 generalize hmb : w1.heap.size = mb at *
 have KO := Lib.hid (l12Open_low w.heap.size A n c w2 (HBY.out.keep fun q hq => HB2.out.cell hq) (by omega) hc hn)
 go_wp2_with fail
 try rw [hW2]
 refine KO.out.mono ?_
 rintro e w3 ⟨rfl, hrd, hb3⟩
 obtain ⟨g, hg⟩ : ∃ g, mb + 2 = g := ⟨_, rfl⟩
 rw [hs2, hg] at hrd ⊢
 have HP3 : Hid (P6 w g 0 mb (mb + 1) a b (.slice A1 m.t.bs.length c1) (.slice A2 m.t.fs.length c2) (.slice A3 m.c.ls.length c3) (.slice A4 m.g.os.length c4) m w3) := ⟨bT HB2.out hb3, hrd, HM.out.now hb3, HX.out.below hb3, HN2.out.below hb3, HY.out.below hb3⟩
 clear HN2 HX HY HM HB2 KO hrd hb3 hW2
 go_wp2_with fail
 refine (pick_any w.heap.size g 0 2 w3 HP3.out.rd (by omega) (by omega)).mono ?_
 rintro e w4 ⟨z4, rfl, _, _, hrd4, hgr4⟩
 have HP4 := Lib.hid (HP3.out.gr hrd4 hgr4)
 clear hrd4 hgr4 HP3
 go_upto_if 19 with fail
 go_cut [] from 10 (fun wx => ∃ (m : Ma) (v1 v2 v3 v4 : Value), Hid (Sz 19 m) ∧ Hid (P6 w g 1 mb (mb + 1) a b v1 v2 v3 v4 m wx))
 case first =>
  cases hz4 : (z4 == 0) with
  | false =>
   go_wp2
   go_meet
   exact ⟨m, _, _, _, _, HZ, HP4⟩
  | true =>
   obtain ⟨p0o, p1o, p2o, p3o, p4o, p5o, p6o, p7o, p8o⟩ := cells9 HP4.out.ob
   have k0 := HP4.out.k.cell_ 0 (v := .int .i64 a) rfl
   go_wp2_with fail
   refine (sEnterSpace_any _ _ _ _ m a w4 HP4.out.hm.r).mono ?_
   rintro e w5 ⟨_, rfl, m', ok, u1, u2, u3, u4, rfl, hm5, hsz5, hb5⟩
   obtain ⟨E1, n1, rfl, _⟩ := hm5.t.b
   obtain ⟨E2, n2, rfl, _⟩ := hm5.t.f
   obtain ⟨E3, n3, rfl, _⟩ := hm5.l
   obtain ⟨E4, n4, rfl, _⟩ := hm5.o
   obtain ⟨w6, hW6, ho6, hb6, _⟩ := box1 w5 #[.slice E1 m'.t.bs.length n1, .slice E2 m'.t.fs.length n2, .slice E3 m'.c.ls.length n3, .int .i64 m'.c.hand, .int .i64 m'.g.count, .int .i64 m'.g.next, .int .i64 m'.g.round, .slice E4 m'.g.os.length n4, .int .i64 m'.sp] 34
   have hb56 := bT hb5 hb6
   have HP6 := Lib.hid (HP4.out.below hb56)
   have HM6 := Lib.hid ((hm5.now hb6).mono HP4.out.bl.size)
   have HO6 := Lib.hid ho6
   clear hm5 hb5 hb6 hb56 ho6 HP4 k0
   clear p0o p1o p2o p3o p4o p5o p6o p7o p8o
   go_upto_region 5 with fail
   try rw [hW6]
   clear hW6
   cases ok with
   | false =>
    go_wp2
    go_meet
    exact ⟨m, _, _, _, _, HZ, HP6⟩
   | true =>
    have HZ6 := Lib.hid ((hsz5 rfl).up (show 17 ≤ 19 by omega))
    obtain ⟨p0b, p1b, p2b, p3b, p4b, p5b, p6b, p7b, p8b⟩ := cells9 HO6.out
    obtain ⟨p0o, p1o, p2o, p3o, p4o, p5o, p6o, p7o, p8o⟩ := cells9 HP6.out.ob
    obtain ⟨w0o, w1o, w2o, w3o, w4o, w5o, w6o, w7o, w8o⟩ := free9 HP6.out.ob
    have hlo := HP6.out.ob.lt
    have hlb := HO6.out.lt
    have HP7 := Lib.hid (HP6.out.put hmb2 HM6.out)
    go_wp2
    go_meet
    exact ⟨m', _, _, _, _, HZ6, HP7⟩
 case rest =>
  obtain ⟨m, q1, q2, q3, q4, HZ, HP5⟩ := hcut
  obtain ⟨A1, c1, rfl, _⟩ := HP5.out.hm.t.b
  obtain ⟨A2, c2, rfl, _⟩ := HP5.out.hm.t.f
  obtain ⟨A3, c3, rfl, _⟩ := HP5.out.hm.l
  obtain ⟨A4, c4, rfl, _⟩ := HP5.out.hm.o
  clear HP4
  go_wp2_with fail
  refine (pick_any w.heap.size g 1 24 wc HP5.out.rd (by omega) (by omega)).mono ?_
  rintro e w5 ⟨z5, rfl, _, _, hrd5, hgr5⟩
  have HP6 := Lib.hid (HP5.out.gr hrd5 hgr5)
  clear hrd5 hgr5 HP5
  have hpp : 1 + 1 ≤ 10 := by omega
  generalize 1 + 1 = p at HP6 hpp
  have hgl := rdr_lt HP6.out.rd
  cases hz5 : (z5 == 0) with
  | true =>
   go_wp2
   have hst : GStat chg [3] [(mb, 34, #[.slice A1 m.t.bs.length c1, .slice A2 m.t.fs.length c2, .slice A3 m.c.ls.length c3, .int .i64 m.c.hand, .int .i64 m.g.count, .int .i64 m.g.next, .int .i64 m.g.round, .slice A4 m.g.os.length c4, .int .i64 m.sp]), (mb + 1, 36, #[.int .i64 a, .int .i64 b])] (fun v => MaM w.heap.size v (.slice A1 m.t.bs.length c1) (.slice A2 m.t.fs.length c2) (.slice A3 m.c.ls.length c3) (.slice A4 m.g.os.length c4) m) [sbE 4 (w.heap.size) 34 #[.slice none 0 0, .slice none 0 0, .slice none 0 0, .int .i64 0, .int .i64 0, .int .i64 0, .int .i64 0, .slice none 0 0, .int .i64 0] #[.slice A1 m.t.bs.length c1, .slice A2 m.t.fs.length c2, .slice A3 m.c.ls.length c3, .int .i64 m.c.hand, .int .i64 m.g.count, .int .i64 m.g.next, .int .i64 m.g.round, .slice A4 m.g.os.length c4, .int .i64 m.sp]] := by
    refine gstat_one (by decide) ?_ (fun _ _ ho h => h.chg ho) (show 34 ≠ 141 by decide) sbE_keep
    ·intro f hf
     simp only [List.mem_cons, List.not_mem_nil, or_false] at hf
     rcases hf with rfl | rfl
     ·exact ⟨show 34 ≠ 141 by decide, show w.heap.size ≠ mb by omega⟩
     ·exact ⟨show 36 ≠ 141 by decide, show w.heap.size ≠ mb + 1 by omega⟩
   refine wp_region_rel4 (by kernel_rfl) [32, 33, 34, 35, 3, 4] [[32], [33], [34], [35], [], [3], [4]] (GC (w.heap.size) w [(g, p)] [3] [(mb, 34, #[.slice A1 m.t.bs.length c1, .slice A2 m.t.fs.length c2, .slice A3 m.c.ls.length c3, .int .i64 m.c.hand, .int .i64 m.g.count, .int .i64 m.g.next, .int .i64 m.g.round, .slice A4 m.g.os.length c4, .int .i64 m.sp]), (mb + 1, 36, #[.int .i64 a, .int .i64 b])] (fun v => MaM w.heap.size v (.slice A1 m.t.bs.length c1) (.slice A2 m.t.fs.length c2) (.slice A3 m.c.ls.length c3) (.slice A4 m.g.os.length c4) m) [sbE 4 (w.heap.size) 34 #[.slice none 0 0, .slice none 0 0, .slice none 0 0, .int .i64 0, .int .i64 0, .int .i64 0, .int .i64 0, .slice none 0 0, .int .i64 0] #[.slice A1 m.t.bs.length c1, .slice A2 m.t.fs.length c2, .slice A3 m.c.ls.length c3, .int .i64 m.c.hand, .int .i64 m.g.count, .int .i64 m.g.next, .int .i64 m.g.round, .slice A4 m.g.os.length c4, .int .i64 m.sp]]) (kgs (q := chg) (B := w.heap.size) (nums := [3]) (S := [sbE 4 (w.heap.size) 34 #[.slice none 0 0, .slice none 0 0, .slice none 0 0, .int .i64 0, .int .i64 0, .int .i64 0, .int .i64 0, .slice none 0 0, .int .i64 0] #[.slice A1 m.t.bs.length c1, .slice A2 m.t.fs.length c2, .slice A3 m.c.ls.length c3, .int .i64 m.c.hand, .int .i64 m.g.count, .int .i64 m.g.next, .int .i64 m.g.round, .slice A4 m.g.os.length c4, .int .i64 m.sp]]) [KG.eq 32 (.agg #[.slice A1 m.t.bs.length c1, .slice A2 m.t.fs.length c2, .slice A3 m.c.ls.length c3, .int .i64 m.c.hand, .int .i64 m.g.count, .int .i64 m.g.next, .int .i64 m.g.round, .slice A4 m.g.os.length c4, .int .i64 m.sp]), KG.eq 33 (.pointer (some ⟨g, 0, none⟩)), KG.lit chg_int 34 #[.int .i64 (-1), .int .i64 256] 2, KG.sat 35 (isIn [-1, 256]), KG.no, KG.sat 3 (isIn [-1, 256]), KG.eq 4 (.int .i64 1)]) (gtt chg (w.heap.size) [3] [sbE 4 (w.heap.size) 34 #[.slice none 0 0, .slice none 0 0, .slice none 0 0, .int .i64 0, .int .i64 0, .int .i64 0, .int .i64 0, .slice none 0 0, .int .i64 0] #[.slice A1 m.t.bs.length c1, .slice A2 m.t.fs.length c2, .slice A3 m.c.ls.length c3, .int .i64 m.c.hand, .int .i64 m.g.count, .int .i64 m.g.next, .int .i64 m.g.round, .slice A4 m.g.os.length c4, .int .i64 m.sp]]) (by kernel_rfl) ?_ (kgs_loc (q := chg) (B := w.heap.size) (nums := [3]) (S := [sbE 4 (w.heap.size) 34 #[.slice none 0 0, .slice none 0 0, .slice none 0 0, .int .i64 0, .int .i64 0, .int .i64 0, .int .i64 0, .slice none 0 0, .int .i64 0] #[.slice A1 m.t.bs.length c1, .slice A2 m.t.fs.length c2, .slice A3 m.c.ls.length c3, .int .i64 m.c.hand, .int .i64 m.g.count, .int .i64 m.g.next, .int .i64 m.g.round, .slice A4 m.g.os.length c4, .int .i64 m.sp]]) (ks := [KG.eq 32 (.agg #[.slice A1 m.t.bs.length c1, .slice A2 m.t.fs.length c2, .slice A3 m.c.ls.length c3, .int .i64 m.c.hand, .int .i64 m.g.count, .int .i64 m.g.next, .int .i64 m.g.round, .slice A4 m.g.os.length c4, .int .i64 m.sp]), KG.eq 33 (.pointer (some ⟨g, 0, none⟩)), KG.lit chg_int 34 #[.int .i64 (-1), .int .i64 256] 2, KG.sat 35 (isIn [-1, 256]), KG.no, KG.sat 3 (isIn [-1, 256]), KG.eq 4 (.int .i64 1)])) kgs_keep ?_ ?_
   ·exact ⟨bD HP6.out.bl, (by intro e he; simp only [List.mem_cons, List.not_mem_nil, or_false] at he; subst he; exact ⟨_, Nat.le_add_right _ _, rdr_below HP6.out.rd (bD bR)⟩), (by intro e he; simp only [List.mem_cons, List.not_mem_nil, or_false] at he; rcases he with rfl | rfl; exact HP6.out.ob.drew; exact HP6.out.k.drew), (HP6.out.hm.now (bD bR)), (by intro e he; simp only [List.mem_cons, List.not_mem_nil, or_false] at he; subst he; exact ⟨_, HP6.out.n.drew, fun _ => rfl, fun h => absurd h (by decide)⟩)⟩
   ·intro i o ho D x v hD hC hd K hK
    match i, ho with
    | 0, ho =>
     cases ho
     simp only [fillA, Act.put, List.setIfInBounds_toArray, List.set_cons_zero, List.set_cons_succ] at hK ⊢
     have hx : Own v (mb) 34 #[.slice A1 m.t.bs.length c1, .slice A2 m.t.fs.length c2, .slice A3 m.c.ls.length c3, .int .i64 m.c.hand, .int .i64 m.g.count, .int .i64 m.g.next, .int .i64 m.g.round, .slice A4 m.g.os.length c4, .int .i64 m.sp] := hC.ob _ List.mem_cons_self
     obtain ⟨z0, z1, z2, z3, z4, z5, z6, z7, z8⟩ := cells9 hx
     go_simp
     exact hK _ _ GT.same (hC.step hst hD GT.same rfl) rfl
    | 1, ho =>
     cases ho
     simp only [fillA, Act.put, List.setIfInBounds_toArray, List.set_cons_zero, List.set_cons_succ] at hK ⊢
     go_simp
     exact hK _ _ GT.same (hC.step hst hD GT.same rfl) rfl
    | 2, ho =>
     cases ho
     simp only [fillA, Act.put, List.setIfInBounds_toArray, List.set_cons_zero, List.set_cons_succ] at hK ⊢
     go_simp
     exact hK _ _ (GT.below (bA bR) hC.bl.size) (hC.step hst hD (GT.below (bA bR) hC.bl.size) rfl) ⟨_, rfl, Own.new_ _ _ _⟩
    | 3, ho =>
     cases ho
     simp only [fillA, Act.put, List.setIfInBounds_toArray, List.set_cons_zero, List.set_cons_succ] at hK ⊢
     have d0 := hd 1 ⟨⟨1, .data⟩, by simp, rfl, rfl⟩
     change x 33 = .pointer (some ⟨g, 0, none⟩) at d0
     have d1 := hd 2 ⟨⟨2, .data⟩, by simp, rfl, rfl⟩
     obtain ⟨gd1, d1, od1⟩ := d1
     change x 34 = .slice (some ⟨gd1, 0, none⟩) 2 2 at d1
     simp only [d0, d1] at hK ⊢
     obtain ⟨p', hp'', hrd⟩ := hC.rd (g, p) List.mem_cons_self
     have hp' : p' ≤ p + 1000 * cn D [3] := hp''
     have hcn : cn D [3] ≤ 1 := cn_le D _
     obtain ⟨Ar, nr, cr, hor, _⟩ := hrd.ok
     go_wp2_with fail
     refine (num_any w.heap.size g p' gd1 [-1, 256] v hrd od1 (od1.ne hor (by decide)) (by omega) (by simp) (by simp)).mono ?_
     rintro e v' ⟨z, rfl, hz, hrd', hgr⟩
     go_simp
     exact hK _ _ (GT.read chg_rd hrd hrd' (by omega) hgr) (hC.step hst hD (GT.read chg_rd hrd hrd' (by omega) hgr) rfl) ⟨z, rfl, hz⟩
    | 4, ho =>
     cases ho
     simp only [fillA, Act.put, List.setIfInBounds_toArray, List.set_cons_zero, List.set_cons_succ] at hK ⊢
     have d0 := hd 0 ⟨⟨0, .data⟩, by simp, rfl, rfl⟩
     change x 32 = .agg #[.slice A1 m.t.bs.length c1, .slice A2 m.t.fs.length c2, .slice A3 m.c.ls.length c3, .int .i64 m.c.hand, .int .i64 m.g.count, .int .i64 m.g.next, .int .i64 m.g.round, .slice A4 m.g.os.length c4, .int .i64 m.sp] at d0
     obtain ⟨cs, hob, hold, _⟩ := hC.st (sbE 4 (w.heap.size) 34 #[.slice none 0 0, .slice none 0 0, .slice none 0 0, .int .i64 0, .int .i64 0, .int .i64 0, .int .i64 0, .slice none 0 0, .int .i64 0] #[.slice A1 m.t.bs.length c1, .slice A2 m.t.fs.length c2, .slice A3 m.c.ls.length c3, .int .i64 m.c.hand, .int .i64 m.g.count, .int .i64 m.g.next, .int .i64 m.g.round, .slice A4 m.g.os.length c4, .int .i64 m.sp]) List.mem_cons_self
     obtain rfl := hold hD
     change Own v (w.heap.size) 34 #[.slice none 0 0, .slice none 0 0, .slice none 0 0, .int .i64 0, .int .i64 0, .int .i64 0, .int .i64 0, .slice none 0 0, .int .i64 0] at hob
     obtain ⟨r0x, r1x, r2x, r3x, r4x, r5x, r6x, r7x, r8x⟩ := cells9 hob
     obtain ⟨z0x, z1x, z2x, z3x, z4x, z5x, z6x, z7x, z8x⟩ := free9 hob
     have hlo := hob.lt
     simp only [d0] at hK ⊢
     go_simp
     refine hK undef _ ?_ ?_ trivial
     ·exact GT.set9 hob chg_ma (by decide) (by omega) _ _ _ _ _ _ _ _ _
     ·exact hC.store (e0 := sbE 4 (w.heap.size) 34 #[.slice none 0 0, .slice none 0 0, .slice none 0 0, .int .i64 0, .int .i64 0, .int .i64 0, .int .i64 0, .slice none 0 0, .int .i64 0] #[.slice A1 m.t.bs.length c1, .slice A2 m.t.fs.length c2, .slice A3 m.c.ls.length c3, .int .i64 m.c.hand, .int .i64 m.g.count, .int .i64 m.g.next, .int .i64 m.g.round, .slice A4 m.g.os.length c4, .int .i64 m.sp]) hst hD (GT.set9 hob chg_ma (by decide) (by omega) _ _ _ _ _ _ _ _ _) List.mem_cons_self rfl (hob.set9 _ _ _ _ _ _ _ _ _) rfl
    | 5, ho =>
     cases ho
     simp only [fillA, Act.put, List.setIfInBounds_toArray, List.set_cons_zero, List.set_cons_succ] at hK ⊢
     have d0 := hd 3 ⟨⟨3, .data⟩, by simp, rfl, rfl⟩
     obtain ⟨nd0, d0, hd0⟩ := d0
     change x 35 = .int .i64 nd0 at d0
     simp only [d0] at hK ⊢
     go_simp
     exact hK _ _ GT.same (hC.step hst hD GT.same rfl) ⟨_, rfl, hd0⟩
    | 6, ho =>
     cases ho
     simp only [fillA, Act.put, List.setIfInBounds_toArray, List.set_cons_zero, List.set_cons_succ] at hK ⊢
     go_simp
     exact hK _ _ GT.same (hC.step hst hD GT.same rfl) rfl
    | _ + 7, ho => simp at ho
   intro D xa wz hD hC hd
   obtain ⟨cs0, ho0, _, hn0⟩ := hC.st (sbE 4 (w.heap.size) 34 #[.slice none 0 0, .slice none 0 0, .slice none 0 0, .int .i64 0, .int .i64 0, .int .i64 0, .int .i64 0, .slice none 0 0, .int .i64 0] #[.slice A1 m.t.bs.length c1, .slice A2 m.t.fs.length c2, .slice A3 m.c.ls.length c3, .int .i64 m.c.hand, .int .i64 m.g.count, .int .i64 m.g.next, .int .i64 m.g.round, .slice A4 m.g.os.length c4, .int .i64 m.sp]) List.mem_cons_self
   have hn0 := hn0 (hD 4 (by decide))
   change Own wz (w.heap.size) 34 cs0 at ho0
   change cs0 = #[.slice A1 m.t.bs.length c1, .slice A2 m.t.fs.length c2, .slice A3 m.c.ls.length c3, .int .i64 m.c.hand, .int .i64 m.g.count, .int .i64 m.g.next, .int .i64 m.g.round, .slice A4 m.g.os.length c4, .int .i64 m.sp] at hn0
   subst hn0
   have dA3 := hd 5 (by decide)
   obtain ⟨r3, dA3, hr3⟩ := dA3
   change xa 3 = .int .i64 r3 at dA3
   have dA4 := hd 6 (by decide)
   change xa 4 = .int .i64 1 at dA4
   simp only [fillA, Act.put, List.setIfInBounds_toArray, List.set_cons_zero, List.set_cons_succ, dA3, dA4]
   have HBL := Lib.hid hC.bl
   have HMM := Lib.hid hC.mm
   clear hd hD dA3 dA4
   obtain ⟨p0t, p1t, p2t, p3t, p4t, p5t, p6t, p7t, p8t⟩ := cells9 ho0
   clear ho0 hC
   go_wp2
   refine bodyPost_ret (v := .tuple #[.agg #[.slice A1 m.t.bs.length c1, .slice A2 m.t.fs.length c2, .slice A3 m.c.ls.length c3, .int .i64 m.c.hand, .int .i64 m.g.count, .int .i64 m.g.next, .int .i64 m.g.round, .slice A4 m.g.os.length c4, .int .i64 m.sp], .int .i64 r3, .int .i64 1]) (by simp [results, Tryz.results76, go_sem, p0t, p1t, p2t, p3t, p4t, p5t, p6t, p7t, p8t]) rfl ⟨_, rfl, m, _, _, _, _, r3, 1, rfl, HMM.out, HZ.out, isIn_small (by decide) hr3, by unfold small; omega, HBL.out⟩
  | false =>
   go_wp2
   have hst : GStat chg [5] [(mb, 34, #[.slice A1 m.t.bs.length c1, .slice A2 m.t.fs.length c2, .slice A3 m.c.ls.length c3, .int .i64 m.c.hand, .int .i64 m.g.count, .int .i64 m.g.next, .int .i64 m.g.round, .slice A4 m.g.os.length c4, .int .i64 m.sp]), (mb + 1, 36, #[.int .i64 a, .int .i64 b])] (fun v => MaM w.heap.size v (.slice A1 m.t.bs.length c1) (.slice A2 m.t.fs.length c2) (.slice A3 m.c.ls.length c3) (.slice A4 m.g.os.length c4) m) [sbE 6 (w.heap.size) 34 #[.slice none 0 0, .slice none 0 0, .slice none 0 0, .int .i64 0, .int .i64 0, .int .i64 0, .int .i64 0, .slice none 0 0, .int .i64 0] #[.slice A1 m.t.bs.length c1, .slice A2 m.t.fs.length c2, .slice A3 m.c.ls.length c3, .int .i64 m.c.hand, .int .i64 m.g.count, .int .i64 m.g.next, .int .i64 m.g.round, .slice A4 m.g.os.length c4, .int .i64 m.sp]] := by
    refine gstat_one (by decide) ?_ (fun _ _ ho h => h.chg ho) (show 34 ≠ 141 by decide) sbE_keep
    ·intro f hf
     simp only [List.mem_cons, List.not_mem_nil, or_false] at hf
     rcases hf with rfl | rfl
     ·exact ⟨show 34 ≠ 141 by decide, show w.heap.size ≠ mb by omega⟩
     ·exact ⟨show 36 ≠ 141 by decide, show w.heap.size ≠ mb + 1 by omega⟩
   refine wp_region_rel4 (by kernel_rfl) [36, 37, 38, 39, 40, 41, 3, 4] [[36], [37], [38], [39], [40], [41], [], [3], [4]] (GC (w.heap.size) w [(g, p)] [5] [(mb, 34, #[.slice A1 m.t.bs.length c1, .slice A2 m.t.fs.length c2, .slice A3 m.c.ls.length c3, .int .i64 m.c.hand, .int .i64 m.g.count, .int .i64 m.g.next, .int .i64 m.g.round, .slice A4 m.g.os.length c4, .int .i64 m.sp]), (mb + 1, 36, #[.int .i64 a, .int .i64 b])] (fun v => MaM w.heap.size v (.slice A1 m.t.bs.length c1) (.slice A2 m.t.fs.length c2) (.slice A3 m.c.ls.length c3) (.slice A4 m.g.os.length c4) m) [sbE 6 (w.heap.size) 34 #[.slice none 0 0, .slice none 0 0, .slice none 0 0, .int .i64 0, .int .i64 0, .int .i64 0, .int .i64 0, .slice none 0 0, .int .i64 0] #[.slice A1 m.t.bs.length c1, .slice A2 m.t.fs.length c2, .slice A3 m.c.ls.length c3, .int .i64 m.c.hand, .int .i64 m.g.count, .int .i64 m.g.next, .int .i64 m.g.round, .slice A4 m.g.os.length c4, .int .i64 m.sp]]) (kgs (q := chg) (B := w.heap.size) (nums := [5]) (S := [sbE 6 (w.heap.size) 34 #[.slice none 0 0, .slice none 0 0, .slice none 0 0, .int .i64 0, .int .i64 0, .int .i64 0, .int .i64 0, .slice none 0 0, .int .i64 0] #[.slice A1 m.t.bs.length c1, .slice A2 m.t.fs.length c2, .slice A3 m.c.ls.length c3, .int .i64 m.c.hand, .int .i64 m.g.count, .int .i64 m.g.next, .int .i64 m.g.round, .slice A4 m.g.os.length c4, .int .i64 m.sp]]) [KG.eq 36 (.agg #[.slice A1 m.t.bs.length c1, .slice A2 m.t.fs.length c2, .slice A3 m.c.ls.length c3, .int .i64 m.c.hand, .int .i64 m.g.count, .int .i64 m.g.next, .int .i64 m.g.round, .slice A4 m.g.os.length c4, .int .i64 m.sp]), KG.eq 37 (.pointer (some ⟨mb + 1, 1, none⟩)), KG.eq 38 (.int .i64 b), KG.eq 39 (.pointer (some ⟨g, 0, none⟩)), KG.lit chg_int 40 #[.int .i64 1, .int .i64 0, .int .i64 2, .int .i64 4, .int .i64 8] 5, KG.sat 41 (isIn [1, 0, 2, 4, 8]), KG.no, KG.eq 3 (.int .i64 b), KG.sat 4 (isIn [1, 0, 2, 4, 8])]) (gtt chg (w.heap.size) [5] [sbE 6 (w.heap.size) 34 #[.slice none 0 0, .slice none 0 0, .slice none 0 0, .int .i64 0, .int .i64 0, .int .i64 0, .int .i64 0, .slice none 0 0, .int .i64 0] #[.slice A1 m.t.bs.length c1, .slice A2 m.t.fs.length c2, .slice A3 m.c.ls.length c3, .int .i64 m.c.hand, .int .i64 m.g.count, .int .i64 m.g.next, .int .i64 m.g.round, .slice A4 m.g.os.length c4, .int .i64 m.sp]]) (by kernel_rfl) ?_ (kgs_loc (q := chg) (B := w.heap.size) (nums := [5]) (S := [sbE 6 (w.heap.size) 34 #[.slice none 0 0, .slice none 0 0, .slice none 0 0, .int .i64 0, .int .i64 0, .int .i64 0, .int .i64 0, .slice none 0 0, .int .i64 0] #[.slice A1 m.t.bs.length c1, .slice A2 m.t.fs.length c2, .slice A3 m.c.ls.length c3, .int .i64 m.c.hand, .int .i64 m.g.count, .int .i64 m.g.next, .int .i64 m.g.round, .slice A4 m.g.os.length c4, .int .i64 m.sp]]) (ks := [KG.eq 36 (.agg #[.slice A1 m.t.bs.length c1, .slice A2 m.t.fs.length c2, .slice A3 m.c.ls.length c3, .int .i64 m.c.hand, .int .i64 m.g.count, .int .i64 m.g.next, .int .i64 m.g.round, .slice A4 m.g.os.length c4, .int .i64 m.sp]), KG.eq 37 (.pointer (some ⟨mb + 1, 1, none⟩)), KG.eq 38 (.int .i64 b), KG.eq 39 (.pointer (some ⟨g, 0, none⟩)), KG.lit chg_int 40 #[.int .i64 1, .int .i64 0, .int .i64 2, .int .i64 4, .int .i64 8] 5, KG.sat 41 (isIn [1, 0, 2, 4, 8]), KG.no, KG.eq 3 (.int .i64 b), KG.sat 4 (isIn [1, 0, 2, 4, 8])])) kgs_keep ?_ ?_
   ·exact ⟨bD HP6.out.bl, (by intro e he; simp only [List.mem_cons, List.not_mem_nil, or_false] at he; subst he; exact ⟨_, Nat.le_add_right _ _, rdr_below HP6.out.rd (bD bR)⟩), (by intro e he; simp only [List.mem_cons, List.not_mem_nil, or_false] at he; rcases he with rfl | rfl; exact HP6.out.ob.drew; exact HP6.out.k.drew), (HP6.out.hm.now (bD bR)), (by intro e he; simp only [List.mem_cons, List.not_mem_nil, or_false] at he; subst he; exact ⟨_, HP6.out.n.drew, fun _ => rfl, fun h => absurd h (by decide)⟩)⟩
   ·intro i o ho D x v hD hC hd K hK
    match i, ho with
    | 0, ho =>
     cases ho
     simp only [fillA, Act.put, List.setIfInBounds_toArray, List.set_cons_zero, List.set_cons_succ] at hK ⊢
     have hx : Own v (mb) 34 #[.slice A1 m.t.bs.length c1, .slice A2 m.t.fs.length c2, .slice A3 m.c.ls.length c3, .int .i64 m.c.hand, .int .i64 m.g.count, .int .i64 m.g.next, .int .i64 m.g.round, .slice A4 m.g.os.length c4, .int .i64 m.sp] := hC.ob _ List.mem_cons_self
     obtain ⟨z0, z1, z2, z3, z4, z5, z6, z7, z8⟩ := cells9 hx
     go_simp
     exact hK _ _ GT.same (hC.step hst hD GT.same rfl) rfl
    | 1, ho =>
     cases ho
     simp only [fillA, Act.put, List.setIfInBounds_toArray, List.set_cons_zero, List.set_cons_succ] at hK ⊢
     go_simp
     exact hK _ _ GT.same (hC.step hst hD GT.same rfl) rfl
    | 2, ho =>
     cases ho
     simp only [fillA, Act.put, List.setIfInBounds_toArray, List.set_cons_zero, List.set_cons_succ] at hK ⊢
     have d0 := hd 1 ⟨⟨1, .data⟩, by simp, rfl, rfl⟩
     change x 37 = .pointer (some ⟨mb + 1, 1, none⟩) at d0
     simp only [d0] at hK ⊢
     have hx : Own v (mb + 1) 36 #[.int .i64 a, .int .i64 b] := hC.ob _ (List.mem_cons_of_mem _ List.mem_cons_self)
     have z1 := hx.cell_ 1 (v := .int .i64 b) rfl
     go_simp
     exact hK _ _ GT.same (hC.step hst hD GT.same rfl) rfl
    | 3, ho =>
     cases ho
     simp only [fillA, Act.put, List.setIfInBounds_toArray, List.set_cons_zero, List.set_cons_succ] at hK ⊢
     go_simp
     exact hK _ _ GT.same (hC.step hst hD GT.same rfl) rfl
    | 4, ho =>
     cases ho
     simp only [fillA, Act.put, List.setIfInBounds_toArray, List.set_cons_zero, List.set_cons_succ] at hK ⊢
     go_simp
     exact hK _ _ (GT.below (bA bR) hC.bl.size) (hC.step hst hD (GT.below (bA bR) hC.bl.size) rfl) ⟨_, rfl, Own.new_ _ _ _⟩
    | 5, ho =>
     cases ho
     simp only [fillA, Act.put, List.setIfInBounds_toArray, List.set_cons_zero, List.set_cons_succ] at hK ⊢
     have d0 := hd 3 ⟨⟨3, .data⟩, by simp, rfl, rfl⟩
     change x 39 = .pointer (some ⟨g, 0, none⟩) at d0
     have d1 := hd 4 ⟨⟨4, .data⟩, by simp, rfl, rfl⟩
     obtain ⟨gd1, d1, od1⟩ := d1
     change x 40 = .slice (some ⟨gd1, 0, none⟩) 5 5 at d1
     simp only [d0, d1] at hK ⊢
     obtain ⟨p', hp'', hrd⟩ := hC.rd (g, p) List.mem_cons_self
     have hp' : p' ≤ p + 1000 * cn D [5] := hp''
     have hcn : cn D [5] ≤ 1 := cn_le D _
     obtain ⟨Ar, nr, cr, hor, _⟩ := hrd.ok
     go_wp2_with fail
     refine (num_any w.heap.size g p' gd1 [1, 0, 2, 4, 8] v hrd od1 (od1.ne hor (by decide)) (by omega) (by simp) (by simp)).mono ?_
     rintro e v' ⟨z, rfl, hz, hrd', hgr⟩
     go_simp
     exact hK _ _ (GT.read chg_rd hrd hrd' (by omega) hgr) (hC.step hst hD (GT.read chg_rd hrd hrd' (by omega) hgr) rfl) ⟨z, rfl, hz⟩
    | 6, ho =>
     cases ho
     simp only [fillA, Act.put, List.setIfInBounds_toArray, List.set_cons_zero, List.set_cons_succ] at hK ⊢
     have d0 := hd 0 ⟨⟨0, .data⟩, by simp, rfl, rfl⟩
     change x 36 = .agg #[.slice A1 m.t.bs.length c1, .slice A2 m.t.fs.length c2, .slice A3 m.c.ls.length c3, .int .i64 m.c.hand, .int .i64 m.g.count, .int .i64 m.g.next, .int .i64 m.g.round, .slice A4 m.g.os.length c4, .int .i64 m.sp] at d0
     obtain ⟨cs, hob, hold, _⟩ := hC.st (sbE 6 (w.heap.size) 34 #[.slice none 0 0, .slice none 0 0, .slice none 0 0, .int .i64 0, .int .i64 0, .int .i64 0, .int .i64 0, .slice none 0 0, .int .i64 0] #[.slice A1 m.t.bs.length c1, .slice A2 m.t.fs.length c2, .slice A3 m.c.ls.length c3, .int .i64 m.c.hand, .int .i64 m.g.count, .int .i64 m.g.next, .int .i64 m.g.round, .slice A4 m.g.os.length c4, .int .i64 m.sp]) List.mem_cons_self
     obtain rfl := hold hD
     change Own v (w.heap.size) 34 #[.slice none 0 0, .slice none 0 0, .slice none 0 0, .int .i64 0, .int .i64 0, .int .i64 0, .int .i64 0, .slice none 0 0, .int .i64 0] at hob
     obtain ⟨r0x, r1x, r2x, r3x, r4x, r5x, r6x, r7x, r8x⟩ := cells9 hob
     obtain ⟨z0x, z1x, z2x, z3x, z4x, z5x, z6x, z7x, z8x⟩ := free9 hob
     have hlo := hob.lt
     simp only [d0] at hK ⊢
     go_simp
     refine hK undef _ ?_ ?_ trivial
     ·exact GT.set9 hob chg_ma (by decide) (by omega) _ _ _ _ _ _ _ _ _
     ·exact hC.store (e0 := sbE 6 (w.heap.size) 34 #[.slice none 0 0, .slice none 0 0, .slice none 0 0, .int .i64 0, .int .i64 0, .int .i64 0, .int .i64 0, .slice none 0 0, .int .i64 0] #[.slice A1 m.t.bs.length c1, .slice A2 m.t.fs.length c2, .slice A3 m.c.ls.length c3, .int .i64 m.c.hand, .int .i64 m.g.count, .int .i64 m.g.next, .int .i64 m.g.round, .slice A4 m.g.os.length c4, .int .i64 m.sp]) hst hD (GT.set9 hob chg_ma (by decide) (by omega) _ _ _ _ _ _ _ _ _) List.mem_cons_self rfl (hob.set9 _ _ _ _ _ _ _ _ _) rfl
    | 7, ho =>
     cases ho
     simp only [fillA, Act.put, List.setIfInBounds_toArray, List.set_cons_zero, List.set_cons_succ] at hK ⊢
     have d0 := hd 2 ⟨⟨2, .data⟩, by simp, rfl, rfl⟩
     change x 38 = .int .i64 b at d0
     simp only [d0] at hK ⊢
     go_simp
     exact hK _ _ GT.same (hC.step hst hD GT.same rfl) rfl
    | 8, ho =>
     cases ho
     simp only [fillA, Act.put, List.setIfInBounds_toArray, List.set_cons_zero, List.set_cons_succ] at hK ⊢
     have d0 := hd 5 ⟨⟨5, .data⟩, by simp, rfl, rfl⟩
     obtain ⟨nd0, d0, hd0⟩ := d0
     change x 41 = .int .i64 nd0 at d0
     simp only [d0] at hK ⊢
     go_simp
     exact hK _ _ GT.same (hC.step hst hD GT.same rfl) ⟨_, rfl, hd0⟩
    | _ + 9, ho => simp at ho
   intro D xa wz hD hC hd
   obtain ⟨cs0, ho0, _, hn0⟩ := hC.st (sbE 6 (w.heap.size) 34 #[.slice none 0 0, .slice none 0 0, .slice none 0 0, .int .i64 0, .int .i64 0, .int .i64 0, .int .i64 0, .slice none 0 0, .int .i64 0] #[.slice A1 m.t.bs.length c1, .slice A2 m.t.fs.length c2, .slice A3 m.c.ls.length c3, .int .i64 m.c.hand, .int .i64 m.g.count, .int .i64 m.g.next, .int .i64 m.g.round, .slice A4 m.g.os.length c4, .int .i64 m.sp]) List.mem_cons_self
   have hn0 := hn0 (hD 6 (by decide))
   change Own wz (w.heap.size) 34 cs0 at ho0
   change cs0 = #[.slice A1 m.t.bs.length c1, .slice A2 m.t.fs.length c2, .slice A3 m.c.ls.length c3, .int .i64 m.c.hand, .int .i64 m.g.count, .int .i64 m.g.next, .int .i64 m.g.round, .slice A4 m.g.os.length c4, .int .i64 m.sp] at hn0
   subst hn0
   have dA3 := hd 7 (by decide)
   change xa 3 = .int .i64 b at dA3
   have dA4 := hd 8 (by decide)
   obtain ⟨r4, dA4, hr4⟩ := dA4
   change xa 4 = .int .i64 r4 at dA4
   simp only [fillA, Act.put, List.setIfInBounds_toArray, List.set_cons_zero, List.set_cons_succ, dA3, dA4]
   have HBL := Lib.hid hC.bl
   have HMM := Lib.hid hC.mm
   clear hd hD dA3 dA4
   obtain ⟨p0t, p1t, p2t, p3t, p4t, p5t, p6t, p7t, p8t⟩ := cells9 ho0
   clear ho0 hC
   go_wp2
   refine bodyPost_ret (v := .tuple #[.agg #[.slice A1 m.t.bs.length c1, .slice A2 m.t.fs.length c2, .slice A3 m.c.ls.length c3, .int .i64 m.c.hand, .int .i64 m.g.count, .int .i64 m.g.next, .int .i64 m.g.round, .slice A4 m.g.os.length c4, .int .i64 m.sp], .int .i64 b, .int .i64 r4]) (by simp [results, Tryz.results76, go_sem, p0t, p1t, p2t, p3t, p4t, p5t, p6t, p7t, p8t]) rfl ⟨_, rfl, m, _, _, _, _, b, r4, rfl, HMM.out, HZ.out, hsb, isIn_small (by decide) hr4, HBL.out⟩
set_option maxHeartbeats 4000000 in
theorem DrawFindByte_any (A : Option Addr) (n c : Nat) (w : World) (hb : Bytes w.heap.size w A n) (hc : n ≤ c) (hn : n ≤ 1048576) :
  Calls Tryz.prog 26 #[.slice A n c] w (Post2 fun v w' => FBP w v w') := by
 have ho := Own.new_ w 34 #[.slice none 0 0, .slice none 0 0, .slice none 0 0, .int .i64 0, .int .i64 0, .int .i64 0, .int .i64 0, .slice none 0 0, .int .i64 0]
 have hb0 : Below w.heap.size w (w.alloc (.cells #[.slice none 0 0, .slice none 0 0, .slice none 0 0, .int .i64 0, .int .i64 0, .int .i64 0, .int .i64 0, .slice none 0 0, .int .i64 0] 34)) := bA bR
 have hs0 : (w.alloc (.cells #[.slice none 0 0, .slice none 0 0, .slice none 0 0, .int .i64 0, .int .i64 0, .int .i64 0, .int .i64 0, .slice none 0 0, .int .i64 0] 34)).heap.size = w.heap.size + 1 := by simp
 generalize hW : w.alloc (.cells #[.slice none 0 0, .slice none 0 0, .slice none 0 0, .int .i64 0, .int .i64 0, .int .i64 0, .int .i64 0, .slice none 0 0, .int .i64 0] 34) = W0 at ho hb0 hs0
 have HBY := Lib.hid hb
 have HN := Lib.hid ho
 have HB := Lib.hid hb0
 have KC := Lib.hid (DrawTouchPage_any A n c W0 ((hb.keep fun q hq => hb0.cell hq).up (by omega)) hc hn)
 clear ho hb0 hb
 go_enter Tryz.func26, Tryz.ntmps26
 go_wp2_with fail
 refine KC.out.mono ?_
 rintro e w1 ⟨_, rfl, m, v1, v2, v3, v4, a, b, rfl, hM, hz, hsa, hsb, hb1⟩
 obtain ⟨A1, c1, rfl, _⟩ := hM.t.b
 obtain ⟨A2, c2, rfl, _⟩ := hM.t.f
 obtain ⟨A3, c3, rfl, _⟩ := hM.l
 obtain ⟨A4, c4, rfl, _⟩ := hM.o
 have hs1 := hb1.size
 have hn := HN.out.below hb1
 have hx := Own.new_ w1 34 #[.slice A1 m.t.bs.length c1, .slice A2 m.t.fs.length c2, .slice A3 m.c.ls.length c3, .int .i64 m.c.hand, .int .i64 m.g.count, .int .i64 m.g.next, .int .i64 m.g.round, .slice A4 m.g.os.length c4, .int .i64 m.sp]
 have hb2 : Below w1.heap.size w1 (w1.alloc (.cells #[.slice A1 m.t.bs.length c1, .slice A2 m.t.fs.length c2, .slice A3 m.c.ls.length c3, .int .i64 m.c.hand, .int .i64 m.g.count, .int .i64 m.g.next, .int .i64 m.g.round, .slice A4 m.g.os.length c4, .int .i64 m.sp] 34)) := bA bR
 have hs2 : (w1.alloc (.cells #[.slice A1 m.t.bs.length c1, .slice A2 m.t.fs.length c2, .slice A3 m.c.ls.length c3, .int .i64 m.c.hand, .int .i64 m.g.count, .int .i64 m.g.next, .int .i64 m.g.round, .slice A4 m.g.os.length c4, .int .i64 m.sp] 34)).heap.size = w1.heap.size + 1 := by simp
 generalize hW2 : w1.alloc (.cells #[.slice A1 m.t.bs.length c1, .slice A2 m.t.fs.length c2, .slice A3 m.c.ls.length c3, .int .i64 m.c.hand, .int .i64 m.g.count, .int .i64 m.g.next, .int .i64 m.g.round, .slice A4 m.g.os.length c4, .int .i64 m.sp] 34) = w2 at hx hb2 hs2
 have HN2 := Lib.hid (hn.below hb2)
 have HX := Lib.hid hx
 have HM := Lib.hid ((hM.now hb2).mono (show w.heap.size ≤ W0.heap.size by omega))
 have HB2 := Lib.hid (bT (bT HB.out hb1) hb2)
 have HZ := Lib.hid hz
 clear hM hb1 hb2 hn hx hz HN HB KC hW
 have hmb2 : w.heap.size + 1 ≤ w1.heap.size := by omega
 generalize hmb : w1.heap.size = mb at *
 go_wp2
 try rw [hW2]
 clear hW2
 have hst : GStat chg [5] [(mb, 34, #[.slice A1 m.t.bs.length c1, .slice A2 m.t.fs.length c2, .slice A3 m.c.ls.length c3, .int .i64 m.c.hand, .int .i64 m.g.count, .int .i64 m.g.next, .int .i64 m.g.round, .slice A4 m.g.os.length c4, .int .i64 m.sp])] (fun v => MaM w.heap.size v (.slice A1 m.t.bs.length c1) (.slice A2 m.t.fs.length c2) (.slice A3 m.c.ls.length c3) (.slice A4 m.g.os.length c4) m) [sbE 7 (w.heap.size) 34 #[.slice none 0 0, .slice none 0 0, .slice none 0 0, .int .i64 0, .int .i64 0, .int .i64 0, .int .i64 0, .slice none 0 0, .int .i64 0] #[.slice A1 m.t.bs.length c1, .slice A2 m.t.fs.length c2, .slice A3 m.c.ls.length c3, .int .i64 m.c.hand, .int .i64 m.g.count, .int .i64 m.g.next, .int .i64 m.g.round, .slice A4 m.g.os.length c4, .int .i64 m.sp]] := by
  refine gstat_one (by decide) ?_ (fun _ _ ho h => h.chg ho) (show 34 ≠ 141 by decide) sbE_keep
  ·intro f hf
   simp only [List.mem_cons, List.not_mem_nil, or_false] at hf
   subst hf
   ·exact ⟨show 34 ≠ 141 by decide, show w.heap.size ≠ mb by omega⟩
 refine wp_region_rel4 (by kernel_rfl) [15, 16, 17, 18, 19, 20, 21, 3, 4, 5] [[15], [16], [17], [18], [19], [20], [21], [], [3], [4], [5]] (GC (w.heap.size) w [] [5] [(mb, 34, #[.slice A1 m.t.bs.length c1, .slice A2 m.t.fs.length c2, .slice A3 m.c.ls.length c3, .int .i64 m.c.hand, .int .i64 m.g.count, .int .i64 m.g.next, .int .i64 m.g.round, .slice A4 m.g.os.length c4, .int .i64 m.sp])] (fun v => MaM w.heap.size v (.slice A1 m.t.bs.length c1) (.slice A2 m.t.fs.length c2) (.slice A3 m.c.ls.length c3) (.slice A4 m.g.os.length c4) m) [sbE 7 (w.heap.size) 34 #[.slice none 0 0, .slice none 0 0, .slice none 0 0, .int .i64 0, .int .i64 0, .int .i64 0, .int .i64 0, .slice none 0 0, .int .i64 0] #[.slice A1 m.t.bs.length c1, .slice A2 m.t.fs.length c2, .slice A3 m.c.ls.length c3, .int .i64 m.c.hand, .int .i64 m.g.count, .int .i64 m.g.next, .int .i64 m.g.round, .slice A4 m.g.os.length c4, .int .i64 m.sp]]) (kgs (q := chg) (B := w.heap.size) (nums := [5]) (S := [sbE 7 (w.heap.size) 34 #[.slice none 0 0, .slice none 0 0, .slice none 0 0, .int .i64 0, .int .i64 0, .int .i64 0, .int .i64 0, .slice none 0 0, .int .i64 0] #[.slice A1 m.t.bs.length c1, .slice A2 m.t.fs.length c2, .slice A3 m.c.ls.length c3, .int .i64 m.c.hand, .int .i64 m.g.count, .int .i64 m.g.next, .int .i64 m.g.round, .slice A4 m.g.os.length c4, .int .i64 m.sp]]) [KG.eq 15 (.agg #[.slice A1 m.t.bs.length c1, .slice A2 m.t.fs.length c2, .slice A3 m.c.ls.length c3, .int .i64 m.c.hand, .int .i64 m.g.count, .int .i64 m.g.next, .int .i64 m.g.round, .slice A4 m.g.os.length c4, .int .i64 m.sp]), KG.eq 16 (.int .i64 a), KG.eq 17 (.slice A n c), KG.rdr (by decide) 18, KG.lit chg_int 19 #[.int .i64 0, .int .i64 63, .int .i64 5, .int .i64 64, .int .i64 (-1), .int .i64 32] 6, KG.sat 20 (isIn [0, 63, 5, 64, -1, 32]), KG.eq 21 (.int .i64 b), KG.no, KG.eq 3 (.int .i64 a), KG.sat 4 (isIn [0, 63, 5, 64, -1, 32]), KG.eq 5 (.int .i64 b)]) (gtt chg (w.heap.size) [5] [sbE 7 (w.heap.size) 34 #[.slice none 0 0, .slice none 0 0, .slice none 0 0, .int .i64 0, .int .i64 0, .int .i64 0, .int .i64 0, .slice none 0 0, .int .i64 0] #[.slice A1 m.t.bs.length c1, .slice A2 m.t.fs.length c2, .slice A3 m.c.ls.length c3, .int .i64 m.c.hand, .int .i64 m.g.count, .int .i64 m.g.next, .int .i64 m.g.round, .slice A4 m.g.os.length c4, .int .i64 m.sp]]) (by kernel_rfl) ?_ (kgs_loc (q := chg) (B := w.heap.size) (nums := [5]) (S := [sbE 7 (w.heap.size) 34 #[.slice none 0 0, .slice none 0 0, .slice none 0 0, .int .i64 0, .int .i64 0, .int .i64 0, .int .i64 0, .slice none 0 0, .int .i64 0] #[.slice A1 m.t.bs.length c1, .slice A2 m.t.fs.length c2, .slice A3 m.c.ls.length c3, .int .i64 m.c.hand, .int .i64 m.g.count, .int .i64 m.g.next, .int .i64 m.g.round, .slice A4 m.g.os.length c4, .int .i64 m.sp]]) (ks := [KG.eq 15 (.agg #[.slice A1 m.t.bs.length c1, .slice A2 m.t.fs.length c2, .slice A3 m.c.ls.length c3, .int .i64 m.c.hand, .int .i64 m.g.count, .int .i64 m.g.next, .int .i64 m.g.round, .slice A4 m.g.os.length c4, .int .i64 m.sp]), KG.eq 16 (.int .i64 a), KG.eq 17 (.slice A n c), KG.rdr (by decide) 18, KG.lit chg_int 19 #[.int .i64 0, .int .i64 63, .int .i64 5, .int .i64 64, .int .i64 (-1), .int .i64 32] 6, KG.sat 20 (isIn [0, 63, 5, 64, -1, 32]), KG.eq 21 (.int .i64 b), KG.no, KG.eq 3 (.int .i64 a), KG.sat 4 (isIn [0, 63, 5, 64, -1, 32]), KG.eq 5 (.int .i64 b)])) kgs_keep ?_ ?_
 ·exact ⟨bD HB2.out, (by intro e he; cases he), (by intro e he; simp only [List.mem_cons, List.not_mem_nil, or_false] at he; subst he; exact HX.out.drew), (HM.out.now (bD bR)), (by intro e he; simp only [List.mem_cons, List.not_mem_nil, or_false] at he; subst he; exact ⟨_, HN2.out.drew, fun _ => rfl, fun h => absurd h (by decide)⟩)⟩
 ·intro i o ho D x v hD hC hd K hK
  match i, ho with
  | 0, ho =>
   cases ho
   simp only [fillA, Act.put, List.setIfInBounds_toArray, List.set_cons_zero, List.set_cons_succ] at hK ⊢
   have hx : Own v (mb) 34 #[.slice A1 m.t.bs.length c1, .slice A2 m.t.fs.length c2, .slice A3 m.c.ls.length c3, .int .i64 m.c.hand, .int .i64 m.g.count, .int .i64 m.g.next, .int .i64 m.g.round, .slice A4 m.g.os.length c4, .int .i64 m.sp] := hC.ob _ List.mem_cons_self
   obtain ⟨z0, z1, z2, z3, z4, z5, z6, z7, z8⟩ := cells9 hx
   go_simp
   exact hK _ _ GT.same (hC.step hst hD GT.same rfl) rfl
  | 1, ho =>
   cases ho
   simp only [fillA, Act.put, List.setIfInBounds_toArray, List.set_cons_zero, List.set_cons_succ] at hK ⊢
   go_simp
   exact hK _ _ GT.same (hC.step hst hD GT.same rfl) rfl
  | 2, ho =>
   cases ho
   simp only [fillA, Act.put, List.setIfInBounds_toArray, List.set_cons_zero, List.set_cons_succ] at hK ⊢
   go_simp
   exact hK _ _ GT.same (hC.step hst hD GT.same rfl) rfl
  | 3, ho =>
   cases ho
   simp only [fillA, Act.put, List.setIfInBounds_toArray, List.set_cons_zero, List.set_cons_succ] at hK ⊢
   have d0 := hd 2 ⟨⟨2, .data⟩, by simp, rfl, rfl⟩
   change x 17 = .slice A n c at d0
   simp only [d0] at hK ⊢
   go_wp2_with fail
   refine (l12Open_low w.heap.size A n c v (HBY.out.keep fun q hq => hC.bl.cell hq) hC.bl.size hc hn).mono ?_
   rintro e v' ⟨rfl, hrd, hb⟩
   go_simp
   exact hK _ _ (GT.below hb hC.bl.size) (hC.step hst hD (GT.below hb hC.bl.size) rfl) ⟨_, 0, rfl, Nat.zero_le _, hrd⟩
  | 4, ho =>
   cases ho
   simp only [fillA, Act.put, List.setIfInBounds_toArray, List.set_cons_zero, List.set_cons_succ] at hK ⊢
   go_simp
   exact hK _ _ (GT.below (bA bR) hC.bl.size) (hC.step hst hD (GT.below (bA bR) hC.bl.size) rfl) ⟨_, rfl, Own.new_ _ _ _⟩
  | 5, ho =>
   cases ho
   simp only [fillA, Act.put, List.setIfInBounds_toArray, List.set_cons_zero, List.set_cons_succ] at hK ⊢
   have d0 := hd 3 ⟨⟨3, .data⟩, by simp, rfl, rfl⟩
   obtain ⟨gr, p', d0, hp', hrd⟩ := d0
   change x 18 = .pointer (some ⟨gr, 0, none⟩) at d0
   have d1 := hd 4 ⟨⟨4, .data⟩, by simp, rfl, rfl⟩
   obtain ⟨gd1, d1, od1⟩ := d1
   change x 19 = .slice (some ⟨gd1, 0, none⟩) 6 6 at d1
   simp only [d0, d1] at hK ⊢
   have hcn : cn D [5] ≤ 1 := cn_le D _
   obtain ⟨Ar, nr, cr, hor, _⟩ := hrd.ok
   go_wp2_with fail
   refine (num_any w.heap.size gr p' gd1 [0, 63, 5, 64, -1, 32] v hrd od1 (od1.ne hor (by decide)) (by omega) (by simp) (by simp)).mono ?_
   rintro e v' ⟨z, rfl, hz, hrd', hgr⟩
   go_simp
   exact hK _ _ (GT.read chg_rd hrd hrd' (by omega) hgr) (hC.step hst hD (GT.read chg_rd hrd hrd' (by omega) hgr) rfl) ⟨z, rfl, hz⟩
  | 6, ho =>
   cases ho
   simp only [fillA, Act.put, List.setIfInBounds_toArray, List.set_cons_zero, List.set_cons_succ] at hK ⊢
   go_simp
   exact hK _ _ GT.same (hC.step hst hD GT.same rfl) rfl
  | 7, ho =>
   cases ho
   simp only [fillA, Act.put, List.setIfInBounds_toArray, List.set_cons_zero, List.set_cons_succ] at hK ⊢
   have d0 := hd 0 ⟨⟨0, .data⟩, by simp, rfl, rfl⟩
   change x 15 = .agg #[.slice A1 m.t.bs.length c1, .slice A2 m.t.fs.length c2, .slice A3 m.c.ls.length c3, .int .i64 m.c.hand, .int .i64 m.g.count, .int .i64 m.g.next, .int .i64 m.g.round, .slice A4 m.g.os.length c4, .int .i64 m.sp] at d0
   obtain ⟨cs, hob, hold, _⟩ := hC.st (sbE 7 (w.heap.size) 34 #[.slice none 0 0, .slice none 0 0, .slice none 0 0, .int .i64 0, .int .i64 0, .int .i64 0, .int .i64 0, .slice none 0 0, .int .i64 0] #[.slice A1 m.t.bs.length c1, .slice A2 m.t.fs.length c2, .slice A3 m.c.ls.length c3, .int .i64 m.c.hand, .int .i64 m.g.count, .int .i64 m.g.next, .int .i64 m.g.round, .slice A4 m.g.os.length c4, .int .i64 m.sp]) List.mem_cons_self
   obtain rfl := hold hD
   change Own v (w.heap.size) 34 #[.slice none 0 0, .slice none 0 0, .slice none 0 0, .int .i64 0, .int .i64 0, .int .i64 0, .int .i64 0, .slice none 0 0, .int .i64 0] at hob
   obtain ⟨r0x, r1x, r2x, r3x, r4x, r5x, r6x, r7x, r8x⟩ := cells9 hob
   obtain ⟨z0x, z1x, z2x, z3x, z4x, z5x, z6x, z7x, z8x⟩ := free9 hob
   have hlo := hob.lt
   simp only [d0] at hK ⊢
   go_simp
   refine hK undef _ ?_ ?_ trivial
   ·exact GT.set9 hob chg_ma (by decide) (by omega) _ _ _ _ _ _ _ _ _
   ·exact hC.store (e0 := sbE 7 (w.heap.size) 34 #[.slice none 0 0, .slice none 0 0, .slice none 0 0, .int .i64 0, .int .i64 0, .int .i64 0, .int .i64 0, .slice none 0 0, .int .i64 0] #[.slice A1 m.t.bs.length c1, .slice A2 m.t.fs.length c2, .slice A3 m.c.ls.length c3, .int .i64 m.c.hand, .int .i64 m.g.count, .int .i64 m.g.next, .int .i64 m.g.round, .slice A4 m.g.os.length c4, .int .i64 m.sp]) hst hD (GT.set9 hob chg_ma (by decide) (by omega) _ _ _ _ _ _ _ _ _) List.mem_cons_self rfl (hob.set9 _ _ _ _ _ _ _ _ _) rfl
  | 8, ho =>
   cases ho
   simp only [fillA, Act.put, List.setIfInBounds_toArray, List.set_cons_zero, List.set_cons_succ] at hK ⊢
   have d0 := hd 1 ⟨⟨1, .data⟩, by simp, rfl, rfl⟩
   change x 16 = .int .i64 a at d0
   simp only [d0] at hK ⊢
   go_simp
   exact hK _ _ GT.same (hC.step hst hD GT.same rfl) rfl
  | 9, ho =>
   cases ho
   simp only [fillA, Act.put, List.setIfInBounds_toArray, List.set_cons_zero, List.set_cons_succ] at hK ⊢
   have d0 := hd 5 ⟨⟨5, .data⟩, by simp, rfl, rfl⟩
   obtain ⟨nd0, d0, hd0⟩ := d0
   change x 20 = .int .i64 nd0 at d0
   simp only [d0] at hK ⊢
   go_simp
   exact hK _ _ GT.same (hC.step hst hD GT.same rfl) ⟨_, rfl, hd0⟩
  | 10, ho =>
   cases ho
   simp only [fillA, Act.put, List.setIfInBounds_toArray, List.set_cons_zero, List.set_cons_succ] at hK ⊢
   have d0 := hd 6 ⟨⟨6, .data⟩, by simp, rfl, rfl⟩
   change x 21 = .int .i64 b at d0
   simp only [d0] at hK ⊢
   go_simp
   exact hK _ _ GT.same (hC.step hst hD GT.same rfl) rfl
  | _ + 11, ho => simp at ho
 intro D xa wz hD hC hd
 obtain ⟨cs0, ho0, _, hn0⟩ := hC.st (sbE 7 (w.heap.size) 34 #[.slice none 0 0, .slice none 0 0, .slice none 0 0, .int .i64 0, .int .i64 0, .int .i64 0, .int .i64 0, .slice none 0 0, .int .i64 0] #[.slice A1 m.t.bs.length c1, .slice A2 m.t.fs.length c2, .slice A3 m.c.ls.length c3, .int .i64 m.c.hand, .int .i64 m.g.count, .int .i64 m.g.next, .int .i64 m.g.round, .slice A4 m.g.os.length c4, .int .i64 m.sp]) List.mem_cons_self
 have hn0 := hn0 (hD 7 (by decide))
 change Own wz (w.heap.size) 34 cs0 at ho0
 change cs0 = #[.slice A1 m.t.bs.length c1, .slice A2 m.t.fs.length c2, .slice A3 m.c.ls.length c3, .int .i64 m.c.hand, .int .i64 m.g.count, .int .i64 m.g.next, .int .i64 m.g.round, .slice A4 m.g.os.length c4, .int .i64 m.sp] at hn0
 subst hn0
 have dA3 := hd 8 (by decide)
 change xa 3 = .int .i64 a at dA3
 have dA4 := hd 9 (by decide)
 obtain ⟨r4, dA4, hr4⟩ := dA4
 change xa 4 = .int .i64 r4 at dA4
 have dA5 := hd 10 (by decide)
 change xa 5 = .int .i64 b at dA5
 simp only [fillA, Act.put, List.setIfInBounds_toArray, List.set_cons_zero, List.set_cons_succ, dA3, dA4, dA5]
 have HBL := Lib.hid hC.bl
 have HMM := Lib.hid hC.mm
 clear hd hD dA3 dA4 dA5
 obtain ⟨p0t, p1t, p2t, p3t, p4t, p5t, p6t, p7t, p8t⟩ := cells9 ho0
 clear ho0 hC
 go_wp2
 refine bodyPost_ret (v := .tuple #[.agg #[.slice A1 m.t.bs.length c1, .slice A2 m.t.fs.length c2, .slice A3 m.c.ls.length c3, .int .i64 m.c.hand, .int .i64 m.g.count, .int .i64 m.g.next, .int .i64 m.g.round, .slice A4 m.g.os.length c4, .int .i64 m.sp], .int .i64 a, .int .i64 r4, .int .i64 b]) (by simp [results, Tryz.results26, go_sem, p0t, p1t, p2t, p3t, p4t, p5t, p6t, p7t, p8t]) rfl ⟨_, rfl, m, _, _, _, _, a, r4, b, rfl, HMM.out, HZ.out, hsa, isIn_small (by decide) hr4, hsb, HBL.out⟩
end Go.Proofs.YtnaagdmaggdbmaaGreatDoor
