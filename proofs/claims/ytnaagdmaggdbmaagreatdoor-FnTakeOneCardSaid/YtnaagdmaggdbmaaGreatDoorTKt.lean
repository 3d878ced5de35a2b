/- A part of the proofs of this seat: Kt. -/
import Derived.Test.YtnaagdmaggdbmaaGreatDoorTKr
set_option linter.unusedVariables false
set_option linter.unusedSimpArgs false
namespace Go.Proofs.YtnaagdmaggdbmaaGreatDoor
open Go.RowKit
set_option maxRecDepth 1000000
set_option linter.unusedVariables false
set_option linter.unusedSimpArgs false
def KTP (w : World) (v : Value) (w' : World) : Prop := ∃ (m : Ma) (v1 v2 v3 v4 : Value) (a b k : Int), v = .tuple #[.agg #[v1, v2, v3, .int .i64 m.c.hand, .int .i64 m.g.count, .int .i64 m.g.next, .int .i64 m.g.round, v4, .int .i64 m.sp], .agg #[.int .i64 a, .int .i64 b], .int .i64 k] ∧ MaM w.heap.size w' v1 v2 v3 v4 m ∧ Sz 19 m ∧ small a ∧ small b ∧ small k ∧ Below w.heap.size w w'
set_option maxHeartbeats 4000000 in
theorem DrawTakeRange_any (A : Option Addr) (n c : Nat) (w : World) (hb : Bytes w.heap.size w A n) (hc : n ≤ c) (hn : n ≤ 1048576) :
  Calls Tryz.prog 22 #[.slice A n c] w (Post2 fun v w' => KTP w v w') := by
 have ho := (Own.new_ w 34 #[.slice none 0 0, .slice none 0 0, .slice none 0 0, .int .i64 0, .int .i64 0, .int .i64 0, .int .i64 0, .slice none 0 0, .int .i64 0]).alloc (o := .cells #[.int .i64 0, .int .i64 0] 36)
 have hk := ownAt (W := w.alloc (.cells #[.slice none 0 0, .slice none 0 0, .slice none 0 0, .int .i64 0, .int .i64 0, .int .i64 0, .int .i64 0, .slice none 0 0, .int .i64 0] 34)) (g := w.heap.size + 1) (t := 36) (cs := #[.int .i64 0, .int .i64 0]) (by simp)
 have hb0 : Below w.heap.size w ((w.alloc (.cells #[.slice none 0 0, .slice none 0 0, .slice none 0 0, .int .i64 0, .int .i64 0, .int .i64 0, .int .i64 0, .slice none 0 0, .int .i64 0] 34)).alloc (.cells #[.int .i64 0, .int .i64 0] 36)) := bA (bA bR)
 have hs0 : ((w.alloc (.cells #[.slice none 0 0, .slice none 0 0, .slice none 0 0, .int .i64 0, .int .i64 0, .int .i64 0, .int .i64 0, .slice none 0 0, .int .i64 0] 34)).alloc (.cells #[.int .i64 0, .int .i64 0] 36)).heap.size = w.heap.size + 2 := by simp
 generalize hW : (w.alloc (.cells #[.slice none 0 0, .slice none 0 0, .slice none 0 0, .int .i64 0, .int .i64 0, .int .i64 0, .int .i64 0, .slice none 0 0, .int .i64 0] 34)).alloc (.cells #[.int .i64 0, .int .i64 0] 36) = W0 at ho hk hb0 hs0
 have HBY := Lib.hid hb
 have HN := Lib.hid ho
 have HK := Lib.hid hk
 have HB := Lib.hid hb0
 have KC := Lib.hid (l10Range_any A n c W0 ((hb.keep fun q hq => hb0.cell hq).up (by omega)) hc hn)
 clear ho hk hb0 hb
 go_enter Tryz.func22, Tryz.ntmps22
 go_wp2_with fail
 refine KC.out.mono ?_
 rintro e w1 ⟨_, rfl, m, v1, v2, v3, v4, a, b, rfl, hM, hz, hsa, hsb, hb1⟩
 obtain ⟨A1, c1, rfl, _⟩ := hM.t.b
 obtain ⟨A2, c2, rfl, _⟩ := hM.t.f
 obtain ⟨A3, c3, rfl, _⟩ := hM.l
 obtain ⟨A4, c4, rfl, _⟩ := hM.o
 have hs1 := hb1.size
 have hn := HN.out.below hb1
 have hk := HK.out.below hb1
 have hx := (Own.new_ w1 34 #[.slice A1 m.t.bs.length c1, .slice A2 m.t.fs.length c2, .slice A3 m.c.ls.length c3, .int .i64 m.c.hand, .int .i64 m.g.count, .int .i64 m.g.next, .int .i64 m.g.round, .slice A4 m.g.os.length c4, .int .i64 m.sp]).alloc (o := .cells #[.int .i64 a, .int .i64 b] 36)
 have hy := ownAt (W := w1.alloc (.cells #[.slice A1 m.t.bs.length c1, .slice A2 m.t.fs.length c2, .slice A3 m.c.ls.length c3, .int .i64 m.c.hand, .int .i64 m.g.count, .int .i64 m.g.next, .int .i64 m.g.round, .slice A4 m.g.os.length c4, .int .i64 m.sp] 34)) (g := w1.heap.size + 1) (t := 36) (cs := #[.int .i64 a, .int .i64 b]) (by simp)
 have hb2 : Below w1.heap.size w1 ((w1.alloc (.cells #[.slice A1 m.t.bs.length c1, .slice A2 m.t.fs.length c2, .slice A3 m.c.ls.length c3, .int .i64 m.c.hand, .int .i64 m.g.count, .int .i64 m.g.next, .int .i64 m.g.round, .slice A4 m.g.os.length c4, .int .i64 m.sp] 34)).alloc (.cells #[.int .i64 a, .int .i64 b] 36)) := bA (bA bR)
 have hs2 : ((w1.alloc (.cells #[.slice A1 m.t.bs.length c1, .slice A2 m.t.fs.length c2, .slice A3 m.c.ls.length c3, .int .i64 m.c.hand, .int .i64 m.g.count, .int .i64 m.g.next, .int .i64 m.g.round, .slice A4 m.g.os.length c4, .int .i64 m.sp] 34)).alloc (.cells #[.int .i64 a, .int .i64 b] 36)).heap.size = w1.heap.size + 2 := by simp
 generalize hW2 : (w1.alloc (.cells #[.slice A1 m.t.bs.length c1, .slice A2 m.t.fs.length c2, .slice A3 m.c.ls.length c3, .int .i64 m.c.hand, .int .i64 m.g.count, .int .i64 m.g.next, .int .i64 m.g.round, .slice A4 m.g.os.length c4, .int .i64 m.sp] 34)).alloc (.cells #[.int .i64 a, .int .i64 b] 36) = w2 at hx hy hb2 hs2
 have HN2 := Lib.hid (hn.below hb2)
 have HK2 := Lib.hid (hk.below hb2)
 have HX := Lib.hid hx
 have HY := Lib.hid hy
 have HM := Lib.hid ((hM.now hb2).mono (show w.heap.size ≤ W0.heap.size by omega))
 have HB2 := Lib.hid (bT (bT HB.out hb1) hb2)
 have HZ := Lib.hid hz
 clear hM hb1 hb2 hn hx hz HN HB KC hW hk HK hy
 have hmb2 : w.heap.size + 2 ≤ w1.heap.size := by omega
 generalize hmb : w1.heap.size = mb at *
 go_wp2
 try rw [hW2]
 clear hW2
 have hst : GStat chg [5] [(mb, 34, #[.slice A1 m.t.bs.length c1, .slice A2 m.t.fs.length c2, .slice A3 m.c.ls.length c3, .int .i64 m.c.hand, .int .i64 m.g.count, .int .i64 m.g.next, .int .i64 m.g.round, .slice A4 m.g.os.length c4, .int .i64 m.sp]), (mb + 1, 36, #[.int .i64 a, .int .i64 b])] (fun v => MaM w.heap.size v (.slice A1 m.t.bs.length c1) (.slice A2 m.t.fs.length c2) (.slice A3 m.c.ls.length c3) (.slice A4 m.g.os.length c4) m) [sbE 6 (w.heap.size) 34 #[.slice none 0 0, .slice none 0 0, .slice none 0 0, .int .i64 0, .int .i64 0, .int .i64 0, .int .i64 0, .slice none 0 0, .int .i64 0] #[.slice A1 m.t.bs.length c1, .slice A2 m.t.fs.length c2, .slice A3 m.c.ls.length c3, .int .i64 m.c.hand, .int .i64 m.g.count, .int .i64 m.g.next, .int .i64 m.g.round, .slice A4 m.g.os.length c4, .int .i64 m.sp], sbE 7 (w.heap.size + 1) 36 #[.int .i64 0, .int .i64 0] #[.int .i64 a, .int .i64 b]] := by
  refine gstat_two (by decide) ?_ (fun _ _ ho h => h.chg ho) (show w.heap.size ≠ w.heap.size + 1 by omega) (show (6 : Nat) ≠ 7 by decide) (show 34 ≠ 141 by decide) (show 36 ≠ 141 by decide) sbE_keep sbE_keep
  ·intro f hf
   simp only [List.mem_cons, List.not_mem_nil, or_false] at hf
   rcases hf with rfl | rfl
   ·exact ⟨show 34 ≠ 141 by decide, show w.heap.size ≠ mb by omega, show w.heap.size + 1 ≠ mb by omega⟩
   ·exact ⟨show 36 ≠ 141 by decide, show w.heap.size ≠ mb + 1 by omega, show w.heap.size + 1 ≠ mb + 1 by omega⟩
 refine wp_region_rel4 (by kernel_rfl) [12, 13, 14, 15, 16, 17, 4] [[12], [13], [14], [15], [16], [17], [], [], [4]] (GC (w.heap.size) w [] [5] [(mb, 34, #[.slice A1 m.t.bs.length c1, .slice A2 m.t.fs.length c2, .slice A3 m.c.ls.length c3, .int .i64 m.c.hand, .int .i64 m.g.count, .int .i64 m.g.next, .int .i64 m.g.round, .slice A4 m.g.os.length c4, .int .i64 m.sp]), (mb + 1, 36, #[.int .i64 a, .int .i64 b])] (fun v => MaM w.heap.size v (.slice A1 m.t.bs.length c1) (.slice A2 m.t.fs.length c2) (.slice A3 m.c.ls.length c3) (.slice A4 m.g.os.length c4) m) [sbE 6 (w.heap.size) 34 #[.slice none 0 0, .slice none 0 0, .slice none 0 0, .int .i64 0, .int .i64 0, .int .i64 0, .int .i64 0, .slice none 0 0, .int .i64 0] #[.slice A1 m.t.bs.length c1, .slice A2 m.t.fs.length c2, .slice A3 m.c.ls.length c3, .int .i64 m.c.hand, .int .i64 m.g.count, .int .i64 m.g.next, .int .i64 m.g.round, .slice A4 m.g.os.length c4, .int .i64 m.sp], sbE 7 (w.heap.size + 1) 36 #[.int .i64 0, .int .i64 0] #[.int .i64 a, .int .i64 b]]) (kgs (q := chg) (B := w.heap.size) (nums := [5]) (S := [sbE 6 (w.heap.size) 34 #[.slice none 0 0, .slice none 0 0, .slice none 0 0, .int .i64 0, .int .i64 0, .int .i64 0, .int .i64 0, .slice none 0 0, .int .i64 0] #[.slice A1 m.t.bs.length c1, .slice A2 m.t.fs.length c2, .slice A3 m.c.ls.length c3, .int .i64 m.c.hand, .int .i64 m.g.count, .int .i64 m.g.next, .int .i64 m.g.round, .slice A4 m.g.os.length c4, .int .i64 m.sp], sbE 7 (w.heap.size + 1) 36 #[.int .i64 0, .int .i64 0] #[.int .i64 a, .int .i64 b]]) [KG.eq 12 (.agg #[.slice A1 m.t.bs.length c1, .slice A2 m.t.fs.length c2, .slice A3 m.c.ls.length c3, .int .i64 m.c.hand, .int .i64 m.g.count, .int .i64 m.g.next, .int .i64 m.g.round, .slice A4 m.g.os.length c4, .int .i64 m.sp]), KG.eq 13 (.agg #[.int .i64 a, .int .i64 b]), KG.eq 14 (.slice A n c), KG.rdr (by decide) 15, KG.lit chg_int 16 #[.int .i64 1, .int .i64 2, .int .i64 3, .int .i64 0, .int .i64 17] 5, KG.sat 17 (isIn [1, 2, 3, 0, 17]), KG.no, KG.no, KG.sat 4 (isIn [1, 2, 3, 0, 17])]) (gtt chg (w.heap.size) [5] [sbE 6 (w.heap.size) 34 #[.slice none 0 0, .slice none 0 0, .slice none 0 0, .int .i64 0, .int .i64 0, .int .i64 0, .int .i64 0, .slice none 0 0, .int .i64 0] #[.slice A1 m.t.bs.length c1, .slice A2 m.t.fs.length c2, .slice A3 m.c.ls.length c3, .int .i64 m.c.hand, .int .i64 m.g.count, .int .i64 m.g.next, .int .i64 m.g.round, .slice A4 m.g.os.length c4, .int .i64 m.sp], sbE 7 (w.heap.size + 1) 36 #[.int .i64 0, .int .i64 0] #[.int .i64 a, .int .i64 b]]) (by kernel_rfl) ?_ (kgs_loc (q := chg) (B := w.heap.size) (nums := [5]) (S := [sbE 6 (w.heap.size) 34 #[.slice none 0 0, .slice none 0 0, .slice none 0 0, .int .i64 0, .int .i64 0, .int .i64 0, .int .i64 0, .slice none 0 0, .int .i64 0] #[.slice A1 m.t.bs.length c1, .slice A2 m.t.fs.length c2, .slice A3 m.c.ls.length c3, .int .i64 m.c.hand, .int .i64 m.g.count, .int .i64 m.g.next, .int .i64 m.g.round, .slice A4 m.g.os.length c4, .int .i64 m.sp], sbE 7 (w.heap.size + 1) 36 #[.int .i64 0, .int .i64 0] #[.int .i64 a, .int .i64 b]]) (ks := [KG.eq 12 (.agg #[.slice A1 m.t.bs.length c1, .slice A2 m.t.fs.length c2, .slice A3 m.c.ls.length c3, .int .i64 m.c.hand, .int .i64 m.g.count, .int .i64 m.g.next, .int .i64 m.g.round, .slice A4 m.g.os.length c4, .int .i64 m.sp]), KG.eq 13 (.agg #[.int .i64 a, .int .i64 b]), KG.eq 14 (.slice A n c), KG.rdr (by decide) 15, KG.lit chg_int 16 #[.int .i64 1, .int .i64 2, .int .i64 3, .int .i64 0, .int .i64 17] 5, KG.sat 17 (isIn [1, 2, 3, 0, 17]), KG.no, KG.no, KG.sat 4 (isIn [1, 2, 3, 0, 17])])) kgs_keep ?_ ?_
 ·exact ⟨bD HB2.out, (by intro e he; cases he), (by intro e he; simp only [List.mem_cons, List.not_mem_nil, or_false] at he; rcases he with rfl | rfl; exact HX.out.drew; exact HY.out.drew), (HM.out.now (bD bR)), (by intro e he; simp only [List.mem_cons, List.not_mem_nil, or_false] at he; rcases he with rfl | rfl; exact ⟨_, HN2.out.drew, fun _ => rfl, fun h => absurd h (by decide)⟩; exact ⟨_, HK2.out.drew, fun _ => rfl, fun h => absurd h (by decide)⟩)⟩
 ·intro i o ho D x v hD hC hd K hK
  match i, ho with
  | 0, ho =>
   cases ho
   simp only [fillA, Act.put, List.setIfInBounds_toArray, List.set_cons_zero, List.set_cons_succ] at hK ⊢
   have hx : Own v (mb) 34 #[.slice A1 m.t.bs.length c1, .slice A2 m.t.fs.length c2, .slice A3 m.c.ls.length c3, .int .i64 m.c.hand, .int .i64 m.g.count, .int .i64 m.g.next, .int .i64 m.g.round, .slice A4 m.g.os.length c4, .int .i64 m.sp] := hC.ob _ List.mem_cons_self
   obtain ⟨z0, z1, z2, z3, z4, z5, z6, z7, z8⟩ := cells9 hx
   go_simp
   exact hK _ _ GT.same (hC.step hst hD GT.same rfl) rfl
  | 1, ho =>
   cases ho
   simp only [fillA, Act.put, List.setIfInBounds_toArray, List.set_cons_zero, List.set_cons_succ] at hK ⊢
   have hx : Own v (mb + 1) 36 #[.int .i64 a, .int .i64 b] := hC.ob _ (List.mem_cons_of_mem _ List.mem_cons_self)
   have z0 := hx.cell_ 0 (v := .int .i64 a) rfl
   have z1 := hx.cell_ 1 (v := .int .i64 b) rfl
   go_simp
   exact hK _ _ GT.same (hC.step hst hD GT.same rfl) rfl
  | 2, ho =>
   cases ho
   simp only [fillA, Act.put, List.setIfInBounds_toArray, List.set_cons_zero, List.set_cons_succ] at hK ⊢
   go_simp
   exact hK _ _ GT.same (hC.step hst hD GT.same rfl) rfl
  | 3, ho =>
   cases ho
   simp only [fillA, Act.put, List.setIfInBounds_toArray, List.set_cons_zero, List.set_cons_succ] at hK ⊢
   have d0 := hd 2 ⟨⟨2, .data⟩, by simp, rfl, rfl⟩
   change x 14 = .slice A n c at d0
   simp only [d0] at hK ⊢
   go_wp2_with fail
   refine (l12Open_low w.heap.size A n c v (HBY.out.keep fun q hq => hC.bl.cell hq) hC.bl.size hc hn).mono ?_
   rintro e v' ⟨rfl, hrd, hb⟩
   go_simp
   exact hK _ _ (GT.below hb hC.bl.size) (hC.step hst hD (GT.below hb hC.bl.size) rfl) ⟨_, 0, rfl, Nat.zero_le _, hrd⟩
  | 4, ho =>
   cases ho
   simp only [fillA, Act.put, List.setIfInBounds_toArray, List.set_cons_zero, List.set_cons_succ] at hK ⊢
   go_simp
   exact hK _ _ (GT.below (bA bR) hC.bl.size) (hC.step hst hD (GT.below (bA bR) hC.bl.size) rfl) ⟨_, rfl, Own.new_ _ _ _⟩
  | 5, ho =>
   cases ho
   simp only [fillA, Act.put, List.setIfInBounds_toArray, List.set_cons_zero, List.set_cons_succ] at hK ⊢
   have d0 := hd 3 ⟨⟨3, .data⟩, by simp, rfl, rfl⟩
   obtain ⟨gr, p', d0, hp', hrd⟩ := d0
   change x 15 = .pointer (some ⟨gr, 0, none⟩) at d0
   have d1 := hd 4 ⟨⟨4, .data⟩, by simp, rfl, rfl⟩
   obtain ⟨gd1, d1, od1⟩ := d1
   change x 16 = .slice (some ⟨gd1, 0, none⟩) 5 5 at d1
   simp only [d0, d1] at hK ⊢
   have hcn : cn D [5] ≤ 1 := cn_le D _
   obtain ⟨Ar, nr, cr, hor, _⟩ := hrd.ok
   go_wp2_with fail
   refine (num_any w.heap.size gr p' gd1 [1, 2, 3, 0, 17] v hrd od1 (od1.ne hor (by decide)) (by omega) (by simp) (by simp)).mono ?_
   rintro e v' ⟨z, rfl, hz, hrd', hgr⟩
   go_simp
   exact hK _ _ (GT.read chg_rd hrd hrd' (by omega) hgr) (hC.step hst hD (GT.read chg_rd hrd hrd' (by omega) hgr) rfl) ⟨z, rfl, hz⟩
  | 6, ho =>
   cases ho
   simp only [fillA, Act.put, List.setIfInBounds_toArray, List.set_cons_zero, List.set_cons_succ] at hK ⊢
   have d0 := hd 0 ⟨⟨0, .data⟩, by simp, rfl, rfl⟩
   change x 12 = .agg #[.slice A1 m.t.bs.length c1, .slice A2 m.t.fs.length c2, .slice A3 m.c.ls.length c3, .int .i64 m.c.hand, .int .i64 m.g.count, .int .i64 m.g.next, .int .i64 m.g.round, .slice A4 m.g.os.length c4, .int .i64 m.sp] at d0
   obtain ⟨cs, hob, hold, _⟩ := hC.st (sbE 6 (w.heap.size) 34 #[.slice none 0 0, .slice none 0 0, .slice none 0 0, .int .i64 0, .int .i64 0, .int .i64 0, .int .i64 0, .slice none 0 0, .int .i64 0] #[.slice A1 m.t.bs.length c1, .slice A2 m.t.fs.length c2, .slice A3 m.c.ls.length c3, .int .i64 m.c.hand, .int .i64 m.g.count, .int .i64 m.g.next, .int .i64 m.g.round, .slice A4 m.g.os.length c4, .int .i64 m.sp]) List.mem_cons_self
   obtain rfl := hold hD
   change Own v (w.heap.size) 34 #[.slice none 0 0, .slice none 0 0, .slice none 0 0, .int .i64 0, .int .i64 0, .int .i64 0, .int .i64 0, .slice none 0 0, .int .i64 0] at hob
   obtain ⟨r0x, r1x, r2x, r3x, r4x, r5x, r6x, r7x, r8x⟩ := cells9 hob
   obtain ⟨z0x, z1x, z2x, z3x, z4x, z5x, z6x, z7x, z8x⟩ := free9 hob
   have hlo := hob.lt
   simp only [d0] at hK ⊢
   go_simp
   refine hK undef _ ?_ ?_ trivial
   ·exact GT.set9 hob chg_ma (by decide) (by omega) _ _ _ _ _ _ _ _ _
   ·exact hC.store (e0 := sbE 6 (w.heap.size) 34 #[.slice none 0 0, .slice none 0 0, .slice none 0 0, .int .i64 0, .int .i64 0, .int .i64 0, .int .i64 0, .slice none 0 0, .int .i64 0] #[.slice A1 m.t.bs.length c1, .slice A2 m.t.fs.length c2, .slice A3 m.c.ls.length c3, .int .i64 m.c.hand, .int .i64 m.g.count, .int .i64 m.g.next, .int .i64 m.g.round, .slice A4 m.g.os.length c4, .int .i64 m.sp]) hst hD (GT.set9 hob chg_ma (by decide) (by omega) _ _ _ _ _ _ _ _ _) List.mem_cons_self rfl (hob.set9 _ _ _ _ _ _ _ _ _) rfl
  | 7, ho =>
   cases ho
   simp only [fillA, Act.put, List.setIfInBounds_toArray, List.set_cons_zero, List.set_cons_succ] at hK ⊢
   have d0 := hd 1 ⟨⟨1, .data⟩, by simp, rfl, rfl⟩
   change x 13 = .agg #[.int .i64 a, .int .i64 b] at d0
   obtain ⟨cs, hob, hold, _⟩ := hC.st (sbE 7 (w.heap.size + 1) 36 #[.int .i64 0, .int .i64 0] #[.int .i64 a, .int .i64 b]) (List.mem_cons_of_mem _ List.mem_cons_self)
   obtain rfl := hold hD
   change Own v (w.heap.size + 1) 36 #[.int .i64 0, .int .i64 0] at hob
   have z0 := hob.cell_ 0 (v := .int .i64 0) rfl
   have z1 := hob.cell_ 1 (v := .int .i64 0) rfl
   have y0 := hob.free 0
   have y1 := hob.free 1
   have hlo := hob.lt
   simp only [d0] at hK ⊢
   go_simp
   refine hK undef _ ?_ ?_ trivial
   ·exact GT.set2 hob chg_ky (by decide) (by omega) _ _
   ·exact hC.store (e0 := sbE 7 (w.heap.size + 1) 36 #[.int .i64 0, .int .i64 0] #[.int .i64 a, .int .i64 b]) hst hD (GT.set2 hob chg_ky (by decide) (by omega) _ _) (List.mem_cons_of_mem _ List.mem_cons_self) rfl (by simpa using (hob.set_ 0 _).set_ 1 _) rfl
  | 8, ho =>
   cases ho
   simp only [fillA, Act.put, List.setIfInBounds_toArray, List.set_cons_zero, List.set_cons_succ] at hK ⊢
   have d0 := hd 5 ⟨⟨5, .data⟩, by simp, rfl, rfl⟩
   obtain ⟨nd0, d0, hd0⟩ := d0
   change x 17 = .int .i64 nd0 at d0
   simp only [d0] at hK ⊢
   go_simp
   exact hK _ _ GT.same (hC.step hst hD GT.same rfl) ⟨_, rfl, hd0⟩
  | _ + 9, ho => simp at ho
 intro D xa wz hD hC hd
 obtain ⟨cs0, ho0, _, hn0⟩ := hC.st (sbE 6 (w.heap.size) 34 #[.slice none 0 0, .slice none 0 0, .slice none 0 0, .int .i64 0, .int .i64 0, .int .i64 0, .int .i64 0, .slice none 0 0, .int .i64 0] #[.slice A1 m.t.bs.length c1, .slice A2 m.t.fs.length c2, .slice A3 m.c.ls.length c3, .int .i64 m.c.hand, .int .i64 m.g.count, .int .i64 m.g.next, .int .i64 m.g.round, .slice A4 m.g.os.length c4, .int .i64 m.sp]) List.mem_cons_self
 have hn0 := hn0 (hD 6 (by decide))
 change Own wz (w.heap.size) 34 cs0 at ho0
 change cs0 = #[.slice A1 m.t.bs.length c1, .slice A2 m.t.fs.length c2, .slice A3 m.c.ls.length c3, .int .i64 m.c.hand, .int .i64 m.g.count, .int .i64 m.g.next, .int .i64 m.g.round, .slice A4 m.g.os.length c4, .int .i64 m.sp] at hn0
 subst hn0
 obtain ⟨cs1, ho1, _, hn1⟩ := hC.st (sbE 7 (w.heap.size + 1) 36 #[.int .i64 0, .int .i64 0] #[.int .i64 a, .int .i64 b]) (List.mem_cons_of_mem _ List.mem_cons_self)
 have hn1 := hn1 (hD 7 (by decide))
 change Own wz (w.heap.size + 1) 36 cs1 at ho1
 change cs1 = #[.int .i64 a, .int .i64 b] at hn1
 subst hn1
 have dA4 := hd 8 (by decide)
 obtain ⟨r4, dA4, hr4⟩ := dA4
 change xa 4 = .int .i64 r4 at dA4
 simp only [fillA, Act.put, List.setIfInBounds_toArray, List.set_cons_zero, List.set_cons_succ, dA4]
 have HBL := Lib.hid hC.bl
 have HMM := Lib.hid hC.mm
 clear hd hD dA4
 obtain ⟨p0t, p1t, p2t, p3t, p4t, p5t, p6t, p7t, p8t⟩ := cells9 ho0
 have k0 := ho1.cell_ 0 (v := .int .i64 a) rfl
 have k1 := ho1.cell_ 1 (v := .int .i64 b) rfl
 clear ho0 ho1 hC
 go_wp2
 refine bodyPost_ret (v := .tuple #[.agg #[.slice A1 m.t.bs.length c1, .slice A2 m.t.fs.length c2, .slice A3 m.c.ls.length c3, .int .i64 m.c.hand, .int .i64 m.g.count, .int .i64 m.g.next, .int .i64 m.g.round, .slice A4 m.g.os.length c4, .int .i64 m.sp], .agg #[.int .i64 a, .int .i64 b], .int .i64 r4]) (by simp [results, Tryz.results22, go_sem, p0t, p1t, p2t, p3t, p4t, p5t, p6t, p7t, p8t, k0, k1]) rfl ⟨_, rfl, m, _, _, _, _, a, b, r4, rfl, HMM.out, HZ.out, hsa, hsb, isIn_small (by decide) hr4, HBL.out⟩
end Go.Proofs.YtnaagdmaggdbmaaGreatDoor
