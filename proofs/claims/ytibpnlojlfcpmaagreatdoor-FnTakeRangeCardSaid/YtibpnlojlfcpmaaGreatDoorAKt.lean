/- A part of the proofs of this seat: Kt, LTr, LTrE. -/
import Derived.Deep.CutRange
import Derived.ChangeSame
import Derived.Test.YtibpnlojlfcpmaaGreatDoorAKr
import Derived.Test.YtibpnlojlfcpmaaGreatDoorAFp
set_option linter.unusedVariables false
set_option linter.unusedSimpArgs false
set_option maxRecDepth 1000000
namespace Go.Proofs.YtibpnlojlfcpmaaGreatDoor
open Go.RowKit
def KTP (w : World) (v : Value) (w' : World) : Prop := ∃ (m : Ma) (v1 v2 v3 v4 : Value) (a b k : Int), v = .tuple #[.agg #[v1, v2, v3, .int .i64 m.c.hand, .int .i64 m.g.count, .int .i64 m.g.next, .int .i64 m.g.round, v4, .int .i64 m.sp], .agg #[.int .i64 a, .int .i64 b], .int .i64 k] ∧ MaM w.heap.size w' v1 v2 v3 v4 m ∧ Sz 19 m ∧ small a ∧ small b ∧ small k ∧ Below w.heap.size w w'
set_option maxHeartbeats 4000000 in
theorem DrawTakeRange_any (A : Option Addr) (n c : Nat) (w : World) (hb : Bytes w.heap.size w A n) (hc : n ≤ c) (hn : n ≤ 1048576) :
  Calls Tryz.prog 37 #[.slice A n c] w (Post2 fun v w' => KTP w v w') := by
 have ho := (Own.new_ w 48 #[.slice none 0 0, .slice none 0 0, .slice none 0 0, .int .i64 0, .int .i64 0, .int .i64 0, .int .i64 0, .slice none 0 0, .int .i64 0]).alloc (o := .cells #[.int .i64 0, .int .i64 0] 61)
 have hk := ownAt (W := w.alloc (.cells #[.slice none 0 0, .slice none 0 0, .slice none 0 0, .int .i64 0, .int .i64 0, .int .i64 0, .int .i64 0, .slice none 0 0, .int .i64 0] 48)) (g := w.heap.size + 1) (t := 61) (cs := #[.int .i64 0, .int .i64 0]) (by simp)
 have hb0 : Below w.heap.size w ((w.alloc (.cells #[.slice none 0 0, .slice none 0 0, .slice none 0 0, .int .i64 0, .int .i64 0, .int .i64 0, .int .i64 0, .slice none 0 0, .int .i64 0] 48)).alloc (.cells #[.int .i64 0, .int .i64 0] 61)) := bA (bA bR)
 have hs0 : ((w.alloc (.cells #[.slice none 0 0, .slice none 0 0, .slice none 0 0, .int .i64 0, .int .i64 0, .int .i64 0, .int .i64 0, .slice none 0 0, .int .i64 0] 48)).alloc (.cells #[.int .i64 0, .int .i64 0] 61)).heap.size = w.heap.size + 2 := by simp
 generalize hW : (w.alloc (.cells #[.slice none 0 0, .slice none 0 0, .slice none 0 0, .int .i64 0, .int .i64 0, .int .i64 0, .int .i64 0, .slice none 0 0, .int .i64 0] 48)).alloc (.cells #[.int .i64 0, .int .i64 0] 61) = W0 at ho hk hb0 hs0
 have HBY := Hd hb
 have HN := Hd ho
 have HK := Hd hk
 have HB := Hd hb0
 have KC := Hd (l10Range_any A n c W0 ((hb.keep fun q hq => hb0.cell hq).up (by omega)) hc hn)
 clear ho hk hb0 hb
 go_enter Tryz.func37, Tryz.ntmps37
 go_wp2_with fail
 refine KC.out.mono ?_
 rintro e w1 ⟨_, rfl, m, v1, v2, v3, v4, a, b, rfl, hM, hz, hsa, hsb, hb1⟩
 obtain ⟨A1, c1, rfl, _⟩ := hM.t.b
 obtain ⟨A2, c2, rfl, _⟩ := hM.t.f
 obtain ⟨A3, c3, rfl, _⟩ := hM.l
 obtain ⟨A4, c4, rfl, _⟩ := hM.o
 have hs1 := hb1.size
 have hn := HN.out.below hb1
 have hk := HK.out.below hb1
 have hx := (Own.new_ w1 48 #[.slice A1 m.t.bs.length c1, .slice A2 m.t.fs.length c2, .slice A3 m.c.ls.length c3, .int .i64 m.c.hand, .int .i64 m.g.count, .int .i64 m.g.next, .int .i64 m.g.round, .slice A4 m.g.os.length c4, .int .i64 m.sp]).alloc (o := .cells #[.int .i64 a, .int .i64 b] 61)
 have hy := ownAt (W := w1.alloc (.cells #[.slice A1 m.t.bs.length c1, .slice A2 m.t.fs.length c2, .slice A3 m.c.ls.length c3, .int .i64 m.c.hand, .int .i64 m.g.count, .int .i64 m.g.next, .int .i64 m.g.round, .slice A4 m.g.os.length c4, .int .i64 m.sp] 48)) (g := w1.heap.size + 1) (t := 61) (cs := #[.int .i64 a, .int .i64 b]) (by simp)
 have hb2 : Below w1.heap.size w1 ((w1.alloc (.cells #[.slice A1 m.t.bs.length c1, .slice A2 m.t.fs.length c2, .slice A3 m.c.ls.length c3, .int .i64 m.c.hand, .int .i64 m.g.count, .int .i64 m.g.next, .int .i64 m.g.round, .slice A4 m.g.os.length c4, .int .i64 m.sp] 48)).alloc (.cells #[.int .i64 a, .int .i64 b] 61)) := bA (bA bR)
 have hs2 : ((w1.alloc (.cells #[.slice A1 m.t.bs.length c1, .slice A2 m.t.fs.length c2, .slice A3 m.c.ls.length c3, .int .i64 m.c.hand, .int .i64 m.g.count, .int .i64 m.g.next, .int .i64 m.g.round, .slice A4 m.g.os.length c4, .int .i64 m.sp] 48)).alloc (.cells #[.int .i64 a, .int .i64 b] 61)).heap.size = w1.heap.size + 2 := by simp
 generalize hW2 : (w1.alloc (.cells #[.slice A1 m.t.bs.length c1, .slice A2 m.t.fs.length c2, .slice A3 m.c.ls.length c3, .int .i64 m.c.hand, .int .i64 m.g.count, .int .i64 m.g.next, .int .i64 m.g.round, .slice A4 m.g.os.length c4, .int .i64 m.sp] 48)).alloc (.cells #[.int .i64 a, .int .i64 b] 61) = w2 at hx hy hb2 hs2
 have HN2 := Hd (hn.below hb2)
 have HK2 := Hd (hk.below hb2)
 have HX := Hd hx
 have HY := Hd hy
 have HM := Hd ((hM.now hb2).mono (show w.heap.size ≤ W0.heap.size by omega))
 have HB2 := Hd (bT (bT HB.out hb1) hb2)
 have HZ := Hd hz
 clear hM hb1 hb2 hn hx hz HN HB KC hW hk HK hy
 have hmb2 : w.heap.size + 2 ≤ w1.heap.size := by omega
 generalize hmb : w1.heap.size = mb at *
 go_wp2
 try rw [hW2]
 clear hW2
 have hst : GStat chg [5] [(mb, 48, #[.slice A1 m.t.bs.length c1, .slice A2 m.t.fs.length c2, .slice A3 m.c.ls.length c3, .int .i64 m.c.hand, .int .i64 m.g.count, .int .i64 m.g.next, .int .i64 m.g.round, .slice A4 m.g.os.length c4, .int .i64 m.sp]), (mb + 1, 61, #[.int .i64 a, .int .i64 b])] (fun v => MaM w.heap.size v (.slice A1 m.t.bs.length c1) (.slice A2 m.t.fs.length c2) (.slice A3 m.c.ls.length c3) (.slice A4 m.g.os.length c4) m) [sbE 6 (w.heap.size) 48 #[.slice none 0 0, .slice none 0 0, .slice none 0 0, .int .i64 0, .int .i64 0, .int .i64 0, .int .i64 0, .slice none 0 0, .int .i64 0] #[.slice A1 m.t.bs.length c1, .slice A2 m.t.fs.length c2, .slice A3 m.c.ls.length c3, .int .i64 m.c.hand, .int .i64 m.g.count, .int .i64 m.g.next, .int .i64 m.g.round, .slice A4 m.g.os.length c4, .int .i64 m.sp], sbE 7 (w.heap.size + 1) 61 #[.int .i64 0, .int .i64 0] #[.int .i64 a, .int .i64 b]] := by
  refine gstat_two (by decide) ?_ (fun _ _ ho h => h.chg ho) (show w.heap.size ≠ w.heap.size + 1 by omega) (show (6 : Nat) ≠ 7 by decide) (show 48 ≠ 172 by decide) (show 61 ≠ 172 by decide) sbE_keep sbE_keep
  ·intro f hf
   simp only [List.mem_cons, List.not_mem_nil, or_false] at hf
   rcases hf with rfl | rfl
   ·exact ⟨show 48 ≠ 172 by decide, show w.heap.size ≠ mb by omega, show w.heap.size + 1 ≠ mb by omega⟩
   ·exact ⟨show 61 ≠ 172 by decide, show w.heap.size ≠ mb + 1 by omega, show w.heap.size + 1 ≠ mb + 1 by omega⟩
 refine wp_region_rel4 (by kernel_rfl) [12, 13, 14, 15, 16, 17, 4] [[12], [13], [14], [15], [16], [17], [], [], [4]] (GC (w.heap.size) w [] [5] [(mb, 48, #[.slice A1 m.t.bs.length c1, .slice A2 m.t.fs.length c2, .slice A3 m.c.ls.length c3, .int .i64 m.c.hand, .int .i64 m.g.count, .int .i64 m.g.next, .int .i64 m.g.round, .slice A4 m.g.os.length c4, .int .i64 m.sp]), (mb + 1, 61, #[.int .i64 a, .int .i64 b])] (fun v => MaM w.heap.size v (.slice A1 m.t.bs.length c1) (.slice A2 m.t.fs.length c2) (.slice A3 m.c.ls.length c3) (.slice A4 m.g.os.length c4) m) [sbE 6 (w.heap.size) 48 #[.slice none 0 0, .slice none 0 0, .slice none 0 0, .int .i64 0, .int .i64 0, .int .i64 0, .int .i64 0, .slice none 0 0, .int .i64 0] #[.slice A1 m.t.bs.length c1, .slice A2 m.t.fs.length c2, .slice A3 m.c.ls.length c3, .int .i64 m.c.hand, .int .i64 m.g.count, .int .i64 m.g.next, .int .i64 m.g.round, .slice A4 m.g.os.length c4, .int .i64 m.sp], sbE 7 (w.heap.size + 1) 61 #[.int .i64 0, .int .i64 0] #[.int .i64 a, .int .i64 b]]) (kgs (q := chg) (B := w.heap.size) (nums := [5]) (S := [sbE 6 (w.heap.size) 48 #[.slice none 0 0, .slice none 0 0, .slice none 0 0, .int .i64 0, .int .i64 0, .int .i64 0, .int .i64 0, .slice none 0 0, .int .i64 0] #[.slice A1 m.t.bs.length c1, .slice A2 m.t.fs.length c2, .slice A3 m.c.ls.length c3, .int .i64 m.c.hand, .int .i64 m.g.count, .int .i64 m.g.next, .int .i64 m.g.round, .slice A4 m.g.os.length c4, .int .i64 m.sp], sbE 7 (w.heap.size + 1) 61 #[.int .i64 0, .int .i64 0] #[.int .i64 a, .int .i64 b]]) [KG.eq 12 (.agg #[.slice A1 m.t.bs.length c1, .slice A2 m.t.fs.length c2, .slice A3 m.c.ls.length c3, .int .i64 m.c.hand, .int .i64 m.g.count, .int .i64 m.g.next, .int .i64 m.g.round, .slice A4 m.g.os.length c4, .int .i64 m.sp]), KG.eq 13 (.agg #[.int .i64 a, .int .i64 b]), KG.eq 14 (.slice A n c), KG.rdr (by decide) 15, KG.lit chg_int 16 #[.int .i64 1, .int .i64 2, .int .i64 3, .int .i64 0, .int .i64 17] 5, KG.sat 17 (isIn [1, 2, 3, 0, 17]), KG.no, KG.no, KG.sat 4 (isIn [1, 2, 3, 0, 17])]) (gtt chg (w.heap.size) [5] [sbE 6 (w.heap.size) 48 #[.slice none 0 0, .slice none 0 0, .slice none 0 0, .int .i64 0, .int .i64 0, .int .i64 0, .int .i64 0, .slice none 0 0, .int .i64 0] #[.slice A1 m.t.bs.length c1, .slice A2 m.t.fs.length c2, .slice A3 m.c.ls.length c3, .int .i64 m.c.hand, .int .i64 m.g.count, .int .i64 m.g.next, .int .i64 m.g.round, .slice A4 m.g.os.length c4, .int .i64 m.sp], sbE 7 (w.heap.size + 1) 61 #[.int .i64 0, .int .i64 0] #[.int .i64 a, .int .i64 b]]) (by kernel_rfl) ?_ (kgs_loc (q := chg) (B := w.heap.size) (nums := [5]) (S := [sbE 6 (w.heap.size) 48 #[.slice none 0 0, .slice none 0 0, .slice none 0 0, .int .i64 0, .int .i64 0, .int .i64 0, .int .i64 0, .slice none 0 0, .int .i64 0] #[.slice A1 m.t.bs.length c1, .slice A2 m.t.fs.length c2, .slice A3 m.c.ls.length c3, .int .i64 m.c.hand, .int .i64 m.g.count, .int .i64 m.g.next, .int .i64 m.g.round, .slice A4 m.g.os.length c4, .int .i64 m.sp], sbE 7 (w.heap.size + 1) 61 #[.int .i64 0, .int .i64 0] #[.int .i64 a, .int .i64 b]]) (ks := [KG.eq 12 (.agg #[.slice A1 m.t.bs.length c1, .slice A2 m.t.fs.length c2, .slice A3 m.c.ls.length c3, .int .i64 m.c.hand, .int .i64 m.g.count, .int .i64 m.g.next, .int .i64 m.g.round, .slice A4 m.g.os.length c4, .int .i64 m.sp]), KG.eq 13 (.agg #[.int .i64 a, .int .i64 b]), KG.eq 14 (.slice A n c), KG.rdr (by decide) 15, KG.lit chg_int 16 #[.int .i64 1, .int .i64 2, .int .i64 3, .int .i64 0, .int .i64 17] 5, KG.sat 17 (isIn [1, 2, 3, 0, 17]), KG.no, KG.no, KG.sat 4 (isIn [1, 2, 3, 0, 17])])) kgs_keep ?_ ?_
 ·exact ⟨bD HB2.out, (by intro e he; cases he), (by intro e he; simp only [List.mem_cons, List.not_mem_nil, or_false] at he; rcases he with rfl | rfl; exact HX.out.drew; exact HY.out.drew), (HM.out.now (bD bR)), (by intro e he; simp only [List.mem_cons, List.not_mem_nil, or_false] at he; rcases he with rfl | rfl; exact ⟨_, HN2.out.drew, fun _ => rfl, fun h => absurd h (by decide)⟩; exact ⟨_, HK2.out.drew, fun _ => rfl, fun h => absurd h (by decide)⟩)⟩
 ·intro i o ho D x v hD hC hd K hK
  match i, ho with
  | 0, ho =>
   cases ho
   simp only [fillA, Act.put, sA9, sB9, sC9] at hK ⊢
   have hx : Own v (mb) 48 #[.slice A1 m.t.bs.length c1, .slice A2 m.t.fs.length c2, .slice A3 m.c.ls.length c3, .int .i64 m.c.hand, .int .i64 m.g.count, .int .i64 m.g.next, .int .i64 m.g.round, .slice A4 m.g.os.length c4, .int .i64 m.sp] := hC.ob _ List.mem_cons_self
   obtain ⟨z0, z1, z2, z3, z4, z5, z6, z7, z8⟩ := cells9 hx
   go_simp
   exact hK _ _ GT.same (hC.step hst hD GT.same rfl) rfl
  | 1, ho =>
   cases ho
   simp only [fillA, Act.put, sA9, sB9, sC9] at hK ⊢
   have hx : Own v (mb + 1) 61 #[.int .i64 a, .int .i64 b] := hC.ob _ (List.mem_cons_of_mem _ List.mem_cons_self)
   have z0 := hx.cell_ 0 (v := .int .i64 a) rfl
   have z1 := hx.cell_ 1 (v := .int .i64 b) rfl
   go_simp
   exact hK _ _ GT.same (hC.step hst hD GT.same rfl) rfl
  | 2, ho =>
   cases ho
   simp only [fillA, Act.put, sA9, sB9, sC9] at hK ⊢
   go_simp
   exact hK _ _ GT.same (hC.step hst hD GT.same rfl) rfl
  | 3, ho =>
   cases ho
   simp only [fillA, Act.put, sA9, sB9, sC9] at hK ⊢
   have d0 := hd 2 ⟨⟨2, .data⟩, by simp, rfl, rfl⟩
   change x 14 = .slice A n c at d0
   simp only [d0] at hK ⊢
   go_wp2_with fail
   refine (l12Open_low w.heap.size A n c v (HBY.out.keep fun q hq => hC.bl.cell hq) hC.bl.size hc hn).mono ?_
   rintro e v' ⟨rfl, hrd, hb⟩
   go_simp
   exact hK _ _ (GT.below hb hC.bl.size) (hC.step hst hD (GT.below hb hC.bl.size) rfl) ⟨_, 0, rfl, Nat.zero_le _, hrd⟩
  | 4, ho =>
   cases ho
   simp only [fillA, Act.put, sA9, sB9, sC9] at hK ⊢
   go_simp
   exact hK _ _ (GT.below (bA bR) hC.bl.size) (hC.step hst hD (GT.below (bA bR) hC.bl.size) rfl) ⟨_, rfl, Own.new_ _ _ _⟩
  | 5, ho =>
   cases ho
   simp only [fillA, Act.put, sA9, sB9, sC9] at hK ⊢
   have d0 := hd 3 ⟨⟨3, .data⟩, by simp, rfl, rfl⟩
   obtain ⟨gr, p', d0, hp', hrd⟩ := d0
   change x 15 = .pointer (some ⟨gr, 0, none⟩) at d0
   have d1 := hd 4 ⟨⟨4, .data⟩, by simp, rfl, rfl⟩
   obtain ⟨gd1, d1, od1⟩ := d1
   change x 16 = .slice (some ⟨gd1, 0, none⟩) 5 5 at d1
   simp only [d0, d1] at hK ⊢
   have hcn : cn D [5] ≤ 1 := cn_le D _
   obtain ⟨Ar, nr, cr, hor, _⟩ := hrd.ok
   go_wp2_with fail
   refine (num_any w.heap.size gr p' gd1 [1, 2, 3, 0, 17] v hrd od1 (od1.ne hor (by decide)) (by omega) (by simp) (by simp)).mono ?_
   rintro e v' ⟨z, rfl, hz, hrd', hgr⟩
   go_simp
   exact hK _ _ (GT.read chg_rd hrd hrd' (by omega) hgr) (hC.step hst hD (GT.read chg_rd hrd hrd' (by omega) hgr) rfl) ⟨z, rfl, hz⟩
  | 6, ho =>
   cases ho
   simp only [fillA, Act.put, sA9, sB9, sC9] at hK ⊢
   have d0 := hd 0 ⟨⟨0, .data⟩, by simp, rfl, rfl⟩
   change x 12 = .agg #[.slice A1 m.t.bs.length c1, .slice A2 m.t.fs.length c2, .slice A3 m.c.ls.length c3, .int .i64 m.c.hand, .int .i64 m.g.count, .int .i64 m.g.next, .int .i64 m.g.round, .slice A4 m.g.os.length c4, .int .i64 m.sp] at d0
   obtain ⟨cs, hob, hold, _⟩ := hC.st (sbE 6 (w.heap.size) 48 #[.slice none 0 0, .slice none 0 0, .slice none 0 0, .int .i64 0, .int .i64 0, .int .i64 0, .int .i64 0, .slice none 0 0, .int .i64 0] #[.slice A1 m.t.bs.length c1, .slice A2 m.t.fs.length c2, .slice A3 m.c.ls.length c3, .int .i64 m.c.hand, .int .i64 m.g.count, .int .i64 m.g.next, .int .i64 m.g.round, .slice A4 m.g.os.length c4, .int .i64 m.sp]) List.mem_cons_self
   obtain rfl := hold hD
   change Own v (w.heap.size) 48 #[.slice none 0 0, .slice none 0 0, .slice none 0 0, .int .i64 0, .int .i64 0, .int .i64 0, .int .i64 0, .slice none 0 0, .int .i64 0] at hob
   obtain ⟨r0x, r1x, r2x, r3x, r4x, r5x, r6x, r7x, r8x⟩ := cells9 hob
   obtain ⟨z0x, z1x, z2x, z3x, z4x, z5x, z6x, z7x, z8x⟩ := free9 hob
   have hlo := hob.lt
   simp only [d0] at hK ⊢
   go_simp
   refine hK undef _ ?_ ?_ trivial
   ·exact GT.set9 hob chg_ma (by decide) (by omega) _ _ _ _ _ _ _ _ _
   ·exact hC.store (e0 := sbE 6 (w.heap.size) 48 #[.slice none 0 0, .slice none 0 0, .slice none 0 0, .int .i64 0, .int .i64 0, .int .i64 0, .int .i64 0, .slice none 0 0, .int .i64 0] #[.slice A1 m.t.bs.length c1, .slice A2 m.t.fs.length c2, .slice A3 m.c.ls.length c3, .int .i64 m.c.hand, .int .i64 m.g.count, .int .i64 m.g.next, .int .i64 m.g.round, .slice A4 m.g.os.length c4, .int .i64 m.sp]) hst hD (GT.set9 hob chg_ma (by decide) (by omega) _ _ _ _ _ _ _ _ _) List.mem_cons_self rfl (hob.set9 _ _ _ _ _ _ _ _ _) rfl
  | 7, ho =>
   cases ho
   simp only [fillA, Act.put, sA9, sB9, sC9] at hK ⊢
   have d0 := hd 1 ⟨⟨1, .data⟩, by simp, rfl, rfl⟩
   change x 13 = .agg #[.int .i64 a, .int .i64 b] at d0
   obtain ⟨cs, hob, hold, _⟩ := hC.st (sbE 7 (w.heap.size + 1) 61 #[.int .i64 0, .int .i64 0] #[.int .i64 a, .int .i64 b]) (List.mem_cons_of_mem _ List.mem_cons_self)
   obtain rfl := hold hD
   change Own v (w.heap.size + 1) 61 #[.int .i64 0, .int .i64 0] at hob
   have z0 := hob.cell_ 0 (v := .int .i64 0) rfl
   have z1 := hob.cell_ 1 (v := .int .i64 0) rfl
   have y0 := hob.free 0
   have y1 := hob.free 1
   have hlo := hob.lt
   simp only [d0] at hK ⊢
   go_simp
   refine hK undef _ ?_ ?_ trivial
   ·exact GT.set2 hob chg_ky (by decide) (by omega) _ _
   ·exact hC.store (e0 := sbE 7 (w.heap.size + 1) 61 #[.int .i64 0, .int .i64 0] #[.int .i64 a, .int .i64 b]) hst hD (GT.set2 hob chg_ky (by decide) (by omega) _ _) (List.mem_cons_of_mem _ List.mem_cons_self) rfl (by simpa using (hob.set_ 0 _).set_ 1 _) rfl
  | 8, ho =>
   cases ho
   simp only [fillA, Act.put, sA9, sB9, sC9] at hK ⊢
   have d0 := hd 5 ⟨⟨5, .data⟩, by simp, rfl, rfl⟩
   obtain ⟨nd0, d0, hd0⟩ := d0
   change x 17 = .int .i64 nd0 at d0
   simp only [d0] at hK ⊢
   go_simp
   exact hK _ _ GT.same (hC.step hst hD GT.same rfl) ⟨_, rfl, hd0⟩
  | _ + 9, ho => simp at ho
 intro D xa wz hD hC hd
 obtain ⟨cs0, ho0, _, hn0⟩ := hC.st (sbE 6 (w.heap.size) 48 #[.slice none 0 0, .slice none 0 0, .slice none 0 0, .int .i64 0, .int .i64 0, .int .i64 0, .int .i64 0, .slice none 0 0, .int .i64 0] #[.slice A1 m.t.bs.length c1, .slice A2 m.t.fs.length c2, .slice A3 m.c.ls.length c3, .int .i64 m.c.hand, .int .i64 m.g.count, .int .i64 m.g.next, .int .i64 m.g.round, .slice A4 m.g.os.length c4, .int .i64 m.sp]) List.mem_cons_self
 have hn0 := hn0 (hD 6 (by decide))
 change Own wz (w.heap.size) 48 cs0 at ho0
 change cs0 = #[.slice A1 m.t.bs.length c1, .slice A2 m.t.fs.length c2, .slice A3 m.c.ls.length c3, .int .i64 m.c.hand, .int .i64 m.g.count, .int .i64 m.g.next, .int .i64 m.g.round, .slice A4 m.g.os.length c4, .int .i64 m.sp] at hn0
 subst hn0
 obtain ⟨cs1, ho1, _, hn1⟩ := hC.st (sbE 7 (w.heap.size + 1) 61 #[.int .i64 0, .int .i64 0] #[.int .i64 a, .int .i64 b]) (List.mem_cons_of_mem _ List.mem_cons_self)
 have hn1 := hn1 (hD 7 (by decide))
 change Own wz (w.heap.size + 1) 61 cs1 at ho1
 change cs1 = #[.int .i64 a, .int .i64 b] at hn1
 subst hn1
 have dA4 := hd 8 (by decide)
 obtain ⟨r4, dA4, hr4⟩ := dA4
 change xa 4 = .int .i64 r4 at dA4
 simp only [fillA, Act.put, sA9, sB9, sC9, dA4]
 have HBL := Hd hC.bl
 have HMM := Hd hC.mm
 clear hd hD dA4
 obtain ⟨p0t, p1t, p2t, p3t, p4t, p5t, p6t, p7t, p8t⟩ := cells9 ho0
 have k0 := ho1.cell_ 0 (v := .int .i64 a) rfl
 have k1 := ho1.cell_ 1 (v := .int .i64 b) rfl
 clear ho0 ho1 hC
 go_wp2
 refine bodyPost_ret (v := .tuple #[.agg #[.slice A1 m.t.bs.length c1, .slice A2 m.t.fs.length c2, .slice A3 m.c.ls.length c3, .int .i64 m.c.hand, .int .i64 m.g.count, .int .i64 m.g.next, .int .i64 m.g.round, .slice A4 m.g.os.length c4, .int .i64 m.sp], .agg #[.int .i64 a, .int .i64 b], .int .i64 r4]) (by simp [results, Tryz.results37, go_sem, p0t, p1t, p2t, p3t, p4t, p5t, p6t, p7t, p8t, k0, k1]) rfl ⟨_, rfl, m, _, _, _, _, a, b, r4, rfl, HMM.out, HZ.out, hsa, hsb, isIn_small (by decide) hr4, HBL.out⟩
end Go.Proofs.YtibpnlojlfcpmaaGreatDoor
namespace Go.Proofs.YtibpnlojlfcpmaaGreatDoor.lTakeRange
open Go.RowKit
theorem tr_parts {m V : Ma} {s p c : Int} {O : Bool} (hV : rgV (fun m' k => takO m' s (p + k)) (fun m' k => takV m' s (p + k)) m c = V) (hO : (rgO (fun m' k => takO m' s (p + k)) (fun m' k => takV m' s (p + k)) m c).isSome = O) (ht : O = true) :
  ∃ n : Nat, c = (n : Int) ∧ 1 ≤ n ∧ n ≤ 16 ∧ mav m = true ∧ mav V = true ∧ (∀ i : Nat, i < n → fOK V.t s (p + i) = false) ∧ (kys V.t).length + n = (kys m.t).length := by
 rw [ht] at hO
 cases e : rgO (fun m' k => takO m' s (p + k)) (fun m' k => takV m' s (p + k)) m c with
 | none => rw [e] at hO; cases hO
 | some x =>
  unfold rgV at hV
  rw [e] at hV
  have hx : x = V := hV
  subst hx
  exact tak_gone e
set_option maxHeartbeats 4000000 in
theorem walk (a0 : Option Addr) (len0 cap0 : Nat) (z0 : List Int) (w : World) (w0 : IsRow .u8 w a0 len0 cap0 z0) (hfree : Free w) :
    Calls Tryz.prog 8 #[.slice a0 len0 cap0] w fun e w' => e = .returned (.bool true) ∧ Below w.heap.size w w' := by
  by_cases hbig : 1048576 < len0
  · go_enter Tryz.func8, Tryz.ntmps8
    go_wp2
    go_ret
    exact ⟨rfl, by repeat first | exact bR | refine bA ?_⟩
  have hcap := row_cap w0
  have hby := Hd (row_bytes w0)
  have HF := Hd hfree
  clear w0 hfree
  go_enter Tryz.func8, Tryz.ntmps8
  go_wp2_with fail
  refine (DrawTakeRange_any a0 len0 cap0 w hby.out hcap (by omega)).mono ?_
  rintro e w1 ⟨_, rfl, m, v1, v2, v3, v4, s, p, c, rfl, hM, hz, hss, hsp, hsc, hb1⟩
  obtain ⟨A1, c1, rfl, _⟩ := hM.t.b
  obtain ⟨A2, c2, rfl, _⟩ := hM.t.f
  obtain ⟨A3, c3, rfl, _⟩ := hM.l
  obtain ⟨A4, c4, rfl, _⟩ := hM.o
  have hx := (Own.new_ w1 48 #[.slice A1 m.t.bs.length c1, .slice A2 m.t.fs.length c2, .slice A3 m.c.ls.length c3, .int .i64 m.c.hand, .int .i64 m.g.count, .int .i64 m.g.next, .int .i64 m.g.round, .slice A4 m.g.os.length c4, .int .i64 m.sp]).alloc (o := .cells #[.int .i64 s, .int .i64 p] 61)
  have hk := ownAt (W := w1.alloc (.cells #[.slice A1 m.t.bs.length c1, .slice A2 m.t.fs.length c2, .slice A3 m.c.ls.length c3, .int .i64 m.c.hand, .int .i64 m.g.count, .int .i64 m.g.next, .int .i64 m.g.round, .slice A4 m.g.os.length c4, .int .i64 m.sp] 48)) (g := w1.heap.size + 1) (t := 61) (cs := #[.int .i64 s, .int .i64 p]) (by simp)
  have hb2 : Below w1.heap.size w1 ((w1.alloc (.cells #[.slice A1 m.t.bs.length c1, .slice A2 m.t.fs.length c2, .slice A3 m.c.ls.length c3, .int .i64 m.c.hand, .int .i64 m.g.count, .int .i64 m.g.next, .int .i64 m.g.round, .slice A4 m.g.os.length c4, .int .i64 m.sp] 48)).alloc (.cells #[.int .i64 s, .int .i64 p] 61)) := bA (bA bR)
  have hs2 : ((w1.alloc (.cells #[.slice A1 m.t.bs.length c1, .slice A2 m.t.fs.length c2, .slice A3 m.c.ls.length c3, .int .i64 m.c.hand, .int .i64 m.g.count, .int .i64 m.g.next, .int .i64 m.g.round, .slice A4 m.g.os.length c4, .int .i64 m.sp] 48)).alloc (.cells #[.int .i64 s, .int .i64 p] 61)).heap.size = w1.heap.size + 2 := by simp
  generalize hW2 : (w1.alloc (.cells #[.slice A1 m.t.bs.length c1, .slice A2 m.t.fs.length c2, .slice A3 m.c.ls.length c3, .int .i64 m.c.hand, .int .i64 m.g.count, .int .i64 m.g.next, .int .i64 m.g.round, .slice A4 m.g.os.length c4, .int .i64 m.sp] 48)).alloc (.cells #[.int .i64 s, .int .i64 p] 61) = w2 at hx hk hb2 hs2
  have HM := Hd (hM.now hb2)
  have HX := Hd hx
  have HK := Hd hk
  have HB := Hd (bT hb1 hb2)
  have hs1 := hb1.size
  clear hM hx hk hb1 hb2
  generalize hmb : w1.heap.size = mb at *
  obtain ⟨V, hV⟩ : ∃ V, rgV (fun m' k => takO m' s (p + k)) (fun m' k => takV m' s (p + k)) m c = V := ⟨_, rfl⟩
  obtain ⟨O, hO⟩ : ∃ O, (rgO (fun m' k => takO m' s (p + k)) (fun m' k => takV m' s (p + k)) m c).isSome = O := ⟨_, rfl⟩
  have KI : Hid (∀ W, Below w2.heap.size w2 W → Calls Tryz.prog 35 #[.agg #[.slice A1 m.t.bs.length c1, .slice A2 m.t.fs.length c2, .slice A3 m.c.ls.length c3, .int .i64 m.c.hand, .int .i64 m.g.count, .int .i64 m.g.next, .int .i64 m.g.round, .slice A4 m.g.os.length c4, .int .i64 m.sp], .agg #[.int .i64 s, .int .i64 p], .int .i64 c] W (Post2 fun v w' => ∃ v1 v2 v3 v4, v = .tuple #[.agg #[v1, v2, v3, .int .i64 V.c.hand, .int .i64 V.g.count, .int .i64 V.g.next, .int .i64 V.g.round, v4, .int .i64 V.sp], .bool O] ∧ MaM W.heap.size w' v1 v2 v3 v4 V ∧ Below W.heap.size W w')) := by
    intro W hb
    have hMr := (HM.out.now hb).r
    have hFr := HF.out.now (bT HB.out hb)
    subst hV hO
    exact TakeRange_any _ _ _ _ m s p c W hMr hFr
  have KS : Hid (∀ W, Below w2.heap.size w2 W → Calls Tryz.prog 38 #[.agg #[.slice A1 m.t.bs.length c1, .slice A2 m.t.fs.length c2, .slice A3 m.c.ls.length c3, .int .i64 m.c.hand, .int .i64 m.g.count, .int .i64 m.g.next, .int .i64 m.g.round, .slice A4 m.g.os.length c4, .int .i64 m.sp], .agg #[.int .i64 s, .int .i64 p], .int .i64 c] W (Post2 fun v w' => ∃ v1 v2 v3 v4, v = .tuple #[.agg #[v1, v2, v3, .int .i64 V.c.hand, .int .i64 V.g.count, .int .i64 V.g.next, .int .i64 V.g.round, v4, .int .i64 V.sp], .bool O] ∧ MaM W.heap.size w' v1 v2 v3 v4 V ∧ Below W.heap.size W w')) := by
    intro W hb
    have hMr := (HM.out.now hb).r
    subst hV hO
    exact sTakeRange_any _ _ _ _ m s p c W hMr (by have := hsp.1; have := hsp.2; omega)
  obtain ⟨p0a, p1a, p2a, p3a, p4a, p5a, p6a, p7a, p8a⟩ := cells9 HX.out
  have y0a := HK.out.cell_ 0 (v := .int .i64 s) rfl
  have y1a := HK.out.cell_ 1 (v := .int .i64 p) rfl
  go_wp2_with fail
  try rw [hW2]
  refine (KI.out w2 bR).mono ?_
  rintro e w3 ⟨_, rfl, u1, u2, u3, u4, rfl, hM3, hb3⟩
  clear hW2 KI p0a p1a p2a p3a p4a p5a p6a p7a p8a y0a y1a
  obtain ⟨B1, d1, rfl, _⟩ := hM3.t.b
  obtain ⟨B2, d2, rfl, _⟩ := hM3.t.f
  obtain ⟨B3, d3, rfl, _⟩ := hM3.l
  obtain ⟨B4, d4, rfl, _⟩ := hM3.o
  have hy := Own.new_ w3 48 #[.slice B1 V.t.bs.length d1, .slice B2 V.t.fs.length d2, .slice B3 V.c.ls.length d3, .int .i64 V.c.hand, .int .i64 V.g.count, .int .i64 V.g.next, .int .i64 V.g.round, .slice B4 V.g.os.length d4, .int .i64 V.sp]
  have hb4 : Below w3.heap.size w3 (w3.alloc (.cells #[.slice B1 V.t.bs.length d1, .slice B2 V.t.fs.length d2, .slice B3 V.c.ls.length d3, .int .i64 V.c.hand, .int .i64 V.g.count, .int .i64 V.g.next, .int .i64 V.g.round, .slice B4 V.g.os.length d4, .int .i64 V.sp] 48)) := bA bR
  generalize hW4 : w3.alloc (.cells #[.slice B1 V.t.bs.length d1, .slice B2 V.t.fs.length d2, .slice B3 V.c.ls.length d3, .int .i64 V.c.hand, .int .i64 V.g.count, .int .i64 V.g.next, .int .i64 V.g.round, .slice B4 V.g.os.length d4, .int .i64 V.sp] 48) = w4 at hy hb4
  have hbx := bT hb3 hb4
  try replace HM := Hd (HM.out.now hbx)
  try replace HX := Hd (HX.out.below hbx)
  try replace HK := Hd (HK.out.below hbx)
  try replace HV := Hd (HV.out.now hbx)
  try replace HY := Hd (HY.out.below hbx)
  try replace HU := Hd (HU.out.now hbx)
  try replace HZ := Hd (HZ.out.below hbx)
  try replace HL := Hd (HL.out.now hbx)
  try replace HE := Hd (HE.out.now hbx)
  replace HB := Hd (bT HB.out hbx)
  have HV := Hd (hM3.now hb4)
  have HY := Hd hy
  have hs3 := hb3.size
  clear hM3 hy hb4
  obtain ⟨p0a, p1a, p2a, p3a, p4a, p5a, p6a, p7a, p8a⟩ := cells9 HX.out
  have y0a := HK.out.cell_ 0 (v := .int .i64 s) rfl
  have y1a := HK.out.cell_ 1 (v := .int .i64 p) rfl
  go_wp2_with fail
  try rw [hW4]
  refine (KS.out w4 hbx).mono ?_
  rintro e w5 ⟨_, rfl, u1, u2, u3, u4, rfl, hM5, hb5⟩
  clear hbx
  clear hW4 KS hb3 p0a p1a p2a p3a p4a p5a p6a p7a p8a y0a y1a
  obtain ⟨C1, e1, rfl, _⟩ := hM5.t.b
  obtain ⟨C2, e2, rfl, _⟩ := hM5.t.f
  obtain ⟨C3, e3, rfl, _⟩ := hM5.l
  obtain ⟨C4, e4, rfl, _⟩ := hM5.o
  have hy := Own.new_ w5 48 #[.slice C1 V.t.bs.length e1, .slice C2 V.t.fs.length e2, .slice C3 V.c.ls.length e3, .int .i64 V.c.hand, .int .i64 V.g.count, .int .i64 V.g.next, .int .i64 V.g.round, .slice C4 V.g.os.length e4, .int .i64 V.sp]
  have hb6 : Below w5.heap.size w5 (w5.alloc (.cells #[.slice C1 V.t.bs.length e1, .slice C2 V.t.fs.length e2, .slice C3 V.c.ls.length e3, .int .i64 V.c.hand, .int .i64 V.g.count, .int .i64 V.g.next, .int .i64 V.g.round, .slice C4 V.g.os.length e4, .int .i64 V.sp] 48)) := bA bR
  generalize hW6 : w5.alloc (.cells #[.slice C1 V.t.bs.length e1, .slice C2 V.t.fs.length e2, .slice C3 V.c.ls.length e3, .int .i64 V.c.hand, .int .i64 V.g.count, .int .i64 V.g.next, .int .i64 V.g.round, .slice C4 V.g.os.length e4, .int .i64 V.sp] 48) = w6 at hy hb6
  have hbx := bT hb5 hb6
  try replace HM := Hd (HM.out.now hbx)
  try replace HX := Hd (HX.out.below hbx)
  try replace HK := Hd (HK.out.below hbx)
  try replace HV := Hd (HV.out.now hbx)
  try replace HY := Hd (HY.out.below hbx)
  try replace HU := Hd (HU.out.now hbx)
  try replace HZ := Hd (HZ.out.below hbx)
  try replace HL := Hd (HL.out.now hbx)
  try replace HE := Hd (HE.out.now hbx)
  replace HB := Hd (bT HB.out hbx)
  have HU := Hd (hM5.now hb6)
  have HZ := Hd hy
  have hs5 := hb5.size
  clear hM5 hy hb6
  obtain ⟨p0a, p1a, p2a, p3a, p4a, p5a, p6a, p7a, p8a⟩ := cells9 HY.out
  obtain ⟨p0b, p1b, p2b, p3b, p4b, p5b, p6b, p7b, p8b⟩ := cells9 HZ.out
  clear hb5 hbx 
  go_wp2_with fail
  try rw [hW6]
  refine (MachineSame_same _ _ _ _ _ _ _ _ V w6 HV.out.r HU.out.r).mono ?_
  rintro e w7 ⟨rfl, hb7⟩
  clear hW6 p0a p1a p2a p3a p4a p5a p6a p7a p8a
  clear p0b p1b p2b p3b p4b p5b p6b p7b p8b
  try replace HM := Hd (HM.out.now hb7)
  try replace HX := Hd (HX.out.below hb7)
  try replace HK := Hd (HK.out.below hb7)
  try replace HV := Hd (HV.out.now hb7)
  try replace HY := Hd (HY.out.below hb7)
  try replace HU := Hd (HU.out.now hb7)
  try replace HZ := Hd (HZ.out.below hb7)
  try replace HL := Hd (HL.out.now hb7)
  try replace HE := Hd (HE.out.now hb7)
  replace HB := Hd (bT HB.out hb7)
  clear hb7
  cases O with
  | false =>
    obtain ⟨p0a, p1a, p2a, p3a, p4a, p5a, p6a, p7a, p8a⟩ := cells9 HY.out
    obtain ⟨p0b, p1b, p2b, p3b, p4b, p5b, p6b, p7b, p8b⟩ := cells9 HZ.out
    go_wp2_with fail
    refine (MachineSame_same _ _ _ _ _ _ _ _ V _ HV.out.r HU.out.r).mono ?_
    rintro e w8 ⟨rfl, hb8⟩
    try replace HM := Hd (HM.out.now hb8)
    try replace HX := Hd (HX.out.below hb8)
    try replace HK := Hd (HK.out.below hb8)
    try replace HV := Hd (HV.out.now hb8)
    try replace HY := Hd (HY.out.below hb8)
    try replace HU := Hd (HU.out.now hb8)
    try replace HZ := Hd (HZ.out.below hb8)
    try replace HL := Hd (HL.out.now hb8)
    try replace HE := Hd (HE.out.now hb8)
    replace HB := Hd (bT HB.out hb8)
    go_wp2
    go_ret
    exact ⟨rfl, HB.out⟩
  | true =>
    obtain ⟨n, rfl, hn1, hn2, hmm, hmv, hgn, hlen⟩ := tr_parts hV hO rfl
    have HG := Hd hgn
    have hlb : (kys m.t).length ≤ 16 := by have := kys_len m.t; have := ((tv_parts (mav_parts hmm).1).1).2.1; omega
    have HL2 := Hd hlen
    have HMV := Hd hmv
    have hp1 := hsp.1
    have hp2 := hsp.2
    clear hV hO hgn hlen hmm hmv
    go_wp2
    go_loopw [10] (fun u wr => ∃ k : Nat, k ≤ n ∧ u = .int .i64 k ∧ Below w7.heap.size w7 wr) (fun u _ => n - (intOf u).toNat)
    case atStart => exact ⟨0, by omega, rfl, bR⟩
    case round =>
      obtain ⟨k, hk, rfl, hbr⟩ := hrel
      try replace HM := Hd (HM.out.now hbr)
      try replace HX := Hd (HX.out.below hbr)
      try replace HK := Hd (HK.out.below hbr)
      try replace HV := Hd (HV.out.now hbr)
      try replace HY := Hd (HY.out.below hbr)
      try replace HU := Hd (HU.out.now hbr)
      try replace HZ := Hd (HZ.out.below hbr)
      try replace HL := Hd (HL.out.now hbr)
      try replace HE := Hd (HE.out.now hbr)
      replace HB := Hd (bT HB.out hbr)
      by_cases hlt : k < n
      · have hki : (k : Int) < (n : Int) := by omega
        have hwp : IntKind.i64.wrap (p + (k : Int)) = p + k := IntWalk.i64_in _ (by omega)
        have x0 := HY.out.cell_ 0 (v := .slice B1 V.t.bs.length d1) rfl
        have x1 := HY.out.cell_ 1 (v := .slice B2 V.t.fs.length d2) rfl
        have q0 := HK.out.cell_ 0 (v := .int .i64 s) rfl
        have q1 := HK.out.cell_ 1 (v := .int .i64 p) rfl
        go_wp2_with fail
        refine (FindPage_any _ _ V.t s (p + (k : Int)) wr HV.out.r.t (HF.out.now HB.out)).mono ?_
        rintro e w9 ⟨_, rfl, nst, rfl, hb9⟩
        rw [HG.out k hlt]
        have hbr9 := Hd (bT hbr hb9)
        clear x0 x1 q0 q1 hb9 hbr
        go_wp2
        go_roundw
        case rel => exact ⟨k + 1, by omega, by simp, hbr9.out⟩
        case measure => simp [intOf]; omega
      · obtain rfl : k = n := by omega
        have hki : decide ((k : Int) < (k : Int)) = false := by simp
        clear hbr
        clear hki
        have KMV := Hd (fun W (hb : Below wr.heap.size wr W) => post2_of (MachineValid_any _ _ _ _ V W (HV.out.now hb).r (HF.out.now (bT HB.out hb))))
        have KK1 := Hd (fun W (hb : Below wr.heap.size wr W) => KeysOf_imp _ _ V.t W (HV.out.now hb).r.t (HF.out.now (bT HB.out hb)))
        have KK2 := Hd (fun W (hb : Below wr.heap.size wr W) => KeysOf_imp _ _ m.t W (HM.out.now hb).r.t (HF.out.now (bT HB.out hb)))
        generalize (kys V.t).length = lv at *
        generalize (kys m.t).length = lm at *
        have hlm := HL2.out
        have hwr : IntKind.i64.wrap ((lm : Int) - (k : Int)) = (lv : Int) := by rw [show (lm : Int) - (k : Int) = lv by omega]; exact IntWalk.i64_in _ (by omega)
        have hln : ¬ lm < k := by omega
        obtain ⟨p0y, p1y, p2y, p3y, p4y, p5y, p6y, p7y, p8y⟩ := cells9 HY.out
        have x0 := HX.out.cell_ 0 (v := .slice A1 m.t.bs.length c1) rfl
        have x1 := HX.out.cell_ 1 (v := .slice A2 m.t.fs.length c2) rfl
        go_wp2_with fail
        go_region_held_law (fun w' => w'.cell? ⟨w3.heap.size, 0, none⟩ = some (.slice B1 V.t.bs.length d1) ∧ w'.cell? ⟨w3.heap.size, 1, none⟩ = some (.slice B2 V.t.fs.length d2) ∧ w'.cell? ⟨w3.heap.size, 2, none⟩ = some (.slice B3 V.c.ls.length d3) ∧ w'.cell? ⟨w3.heap.size, 3, none⟩ = some (.int .i64 V.c.hand) ∧ w'.cell? ⟨w3.heap.size, 4, none⟩ = some (.int .i64 V.g.count) ∧ w'.cell? ⟨w3.heap.size, 5, none⟩ = some (.int .i64 V.g.next) ∧ w'.cell? ⟨w3.heap.size, 6, none⟩ = some (.int .i64 V.g.round) ∧ w'.cell? ⟨w3.heap.size, 7, none⟩ = some (.slice B4 V.g.os.length d4) ∧ w'.cell? ⟨w3.heap.size, 8, none⟩ = some (.int .i64 V.sp) ∧ w'.cell? ⟨mb, 0, none⟩ = some (.slice A1 m.t.bs.length c1) ∧ w'.cell? ⟨mb, 1, none⟩ = some (.slice A2 m.t.fs.length c2)) (go_keep) (first
          | (go_at_call 31
             refine (KMV.out _ (bD (bR (w := wr)))).mono ?_
             rintro _ wa ⟨_, rfl, rfl, hba⟩
             rw [HMV.out]
             have HBa := Hd (bT (bD (bR (w := wr))) hba)
             have hya := HY.out.below HBa.out
             have hxa := HX.out.below HBa.out
             obtain ⟨p0p, p1p, p2p, p3p, p4p, p5p, p6p, p7p, p8p⟩ := cells9 hya
             have x0a := hxa.cell_ 0 (v := .slice A1 m.t.bs.length c1) rfl
             have x1a := hxa.cell_ 1 (v := .slice A2 m.t.fs.length c2) rfl
             clear hba hya hxa)
          | (go_at_call 24
             refine (KK2.out _ HBb.out).mono ?_
             rintro _ wc ⟨_, rfl, Kb, kb', rfl, hkb, _, hbc⟩
             have HBc := Hd (bT HBb.out hbc)
             have hyc := HY.out.below HBc.out
             have hxc := HX.out.below HBc.out
             obtain ⟨p0r, p1r, p2r, p3r, p4r, p5r, p6r, p7r, p8r⟩ := cells9 hyc
             have x0c := hxc.cell_ 0 (v := .slice A1 m.t.bs.length c1) rfl
             have x1c := hxc.cell_ 1 (v := .slice A2 m.t.fs.length c2) rfl
             clear hbc hyc hxc)
          | (go_at_call 24
             refine (KK1.out _ HBa.out).mono ?_
             rintro _ wb ⟨_, rfl, Ka, ka, rfl, hka, _, hbb⟩
             have HBb := Hd (bT HBa.out hbb)
             have hyb := HY.out.below HBb.out
             have hxb := HX.out.below HBb.out
             obtain ⟨p0q, p1q, p2q, p3q, p4q, p5q, p6q, p7q, p8q⟩ := cells9 hyb
             have x0b := hxb.cell_ 0 (v := .slice A1 m.t.bs.length c1) rfl
             have x1b := hxb.cell_ 1 (v := .slice A2 m.t.fs.length c2) rfl
             clear hbb hyb hxb))
        all_goals
          go_wp2
          go_ret
          exact ⟨rfl, bT HB.out HBc.out⟩
end Go.Proofs.YtibpnlojlfcpmaaGreatDoor.lTakeRange
namespace Go.Proofs.YtibpnlojlfcpmaaGreatDoor.lTakeRange
open Go.ChangeShapes Go.WideShapes Go.ChangeAt Go.RowKit Go.Joins
set_option maxRecDepth 100000 in
theorem lifted (os : Os) (started : os.Started) (H : Type) (enc : TypeId × Value → H) :
  ReturnsInHanded {} Tryz.checked os 8 .any (fun w args => (Rows.fnTakeRangeSpec.pre enc Tryz.prog Tryz.f8 Rows.fnTakeRangeRow.domain false w args ∧ laidMet Tryz.prog [("loop.example/invertedpages/impl.free", Rows.laid_loop_example_invertedpages_impl_free)] w) ∧ sizedMet enc Tryz.prog Tryz.f8 (OpenSpec.ofChange Rows.fnTakeRangeSpec) false w args)
   (Rows.fnTakeRangeSpec.post enc Tryz.prog Tryz.f8 false true false false) := by
 refine returnsInHanded_of_change_and (C := Tryz.checked) (X := fun w _ => laidMet Tryz.prog [("loop.example/invertedpages/impl.free", Rows.laid_loop_example_invertedpages_impl_free)] w) (fun _ _ _ hh h => h.of_heap hh) own_ started (by kernel_rfl) Tryz.func8
  (ChangeSpec.witness_at (enc := enc) (C := Tryz.checked) (os := os) (X := fun w _ => laidMet Tryz.prog [("loop.example/invertedpages/impl.free", Rows.laid_loop_example_invertedpages_impl_free)] w) false (laidWorld os) #[.slice none 0 0] 8 rfl (by kernel_rfl) (by kernel_rfl) (by kernel_rfl) (by kernel_rfl) (by kernel_rfl) (laid_met os _)) ?_
 intro W base args ds gs before hval0 hW hcnd _ hL _
 have hval : ∀ (j : Nat) t v, Tryz.f8.params[j]? = some t → args[j]? = some v → Value.okWide Tryz.prog W .any base t v := hval0
 have hW' := hW
 obtain ⟨p, q, hA0, hV0, rfl, hfz, hnd⟩ := hW
 have hA : DataW.TrodAll enc Tryz.prog W 0 (fun _ => true) true Tryz.f8.params.toList args.toList ds p := hA0
 have hV : DataW.TrodVars enc Tryz.prog W (fun _ => true) ["loop.example/invertedpages/impl.free"] gs q := hV0
 rw [Tryz.params8] at hA hval
 obtain ⟨v0, vs0, d0, ds0, p0, q0, hargs, rfl, rfl, h0, r0⟩ := trodAll_cons hA
 obtain ⟨rfl, rfl, rfl⟩ := trodAll_nil r0
 obtain rfl : args = #[v0] := by cases args; simp_all
 obtain ⟨hvar0, hfree⟩ := free_of_laid hL
 obtain ⟨g, t, cs, fuel, d, p', rfl, hg, ht, hvar, hd, rfl⟩ := trodVars_one hV
 obtain rfl := Option.some.inj (free_named.symm.trans hg)
 obtain rfl := Option.some.inj (free_type.symm.trans ht)
 obtain rfl : cs = freeCells := Option.some.inj (hvar.symm.trans hvar0)
 have k0 := h0
 have lt0 : ∀ x ∈ p0, x.block < W.heap.size := by obtain ⟨m, hm⟩ := k0; exact DataW.trod_lt m _ _ _ hm
 have kd : DataW.Trod enc Tryz.prog W 0 (fun _ => true) true 66 (.agg freeCells) d p' := ⟨fuel, hd⟩
 have ltd : ∀ x ∈ p', x.block < W.heap.size := DataW.trod_lt fuel _ _ _ hd
 obtain ⟨a0, len0, cap0, rfl⟩ := okWide_slice Tryz.underlying55 (hval 0 55 v0 rfl rfl)
 obtain ⟨z0, w0⟩ : ∃ zs, IsRow .u8 W a0 len0 cap0 zs := by
  obtain ⟨fuel, hf⟩ := h0
  rcases open_ints Tryz.underlying55 Tryz.underlying5 (by kernel_rfl) hf with ⟨hcs, _⟩ | ⟨x, l, c, zs, hcs, _, hl, hm, hz, _, hcell, hwz⟩
  ·simp [Value.cells] at hcs
   obtain ⟨rfl, rfl, rfl⟩ := hcs
   exact ⟨[], .inl ⟨rfl, rfl, rfl, rfl⟩⟩
  ·simp [Value.cells] at hcs
   obtain ⟨rfl, rfl, rfl⟩ := hcs
   exact ⟨zs, .inr ⟨_, rfl, hl, hm, by simpa using hz, hcell, hwz⟩⟩
 clear hA0 hV0 hval0
 refine (walk a0 len0 cap0 z0 W w0 hfree).mono fun e W' ⟨he, bel⟩ => ?_
 subst he
 have hvar' := var_stays hg hvar bel (Nat.le_refl _)
 obtain ⟨fuel', hd'⟩ := Below.trod laidOut (by kernel_rfl) (of_decide_eq_true (by kernel_rfl)) kd bel ltd
 exact ⟨_, rfl, _, _, _, [], _, _, hW', trodAll_mk1 (shut_bool Tryz.underlying4 _), (trodAll_cons_mk (Below.trod laidOut (by kernel_rfl) (of_decide_eq_true (by kernel_rfl)) k0 bel lt0) trodAll_mk0), ⟨0, 66, freeCells, fuel', _, _, hg, ht, hvar', hd', rfl, rfl⟩, bel.frame _, fun h => by cases h⟩
theorem over : Rows.fnTakeRangeRow.holds Tryz.pinned (OpenSpec.ofChange Rows.fnTakeRangeSpec) :=
 OpenClaim.holds_of_wide 8 Tryz.f8 rfl rfl rfl rfl rfl rfl rfl ⟨rfl, rfl, rfl, rfl, rfl⟩ rfl rfl rfl rfl rfl (by kernel_rfl) Tryz.func8 closed
  (of_decide_eq_true (by kernel_rfl)) (by unfold Func.isWrapper; rw [if_neg (of_decide_eq_false (by kernel_rfl))]; exact ⟨rfl, rfl⟩)
  (fun os started H enc _ => lifted os started H enc)
end Go.Proofs.YtibpnlojlfcpmaaGreatDoor.lTakeRange
