/- A part of the proofs of this seat: Ds, Ip, Ipl, K6, Kn, Kr, RowB. -/
import Derived.Deep.RegionHeldLaw
import Derived.Deep.CutRange
import Derived.Test.YtibpnlojlfcpmaaGreatDoorRL10c
set_option linter.unusedVariables false
set_option linter.unusedSimpArgs false
set_option maxRecDepth 1000000
namespace Go.Proofs.YtibpnlojlfcpmaaGreatDoor
open Go.RowKit
theorem Bytes.up {B B' : Nat} {w : World} {A : Option Addr} {n : Nat} (h : Bytes B w A n) (hB : B ≤ B') : Bytes B' w A n :=
 ⟨fun j hj => let ⟨b, o, v, e, hb, hc, h1⟩ := h.at_ j hj; ⟨b, o, v, e, by omega, hc, h1⟩⟩
structure K6 (w : World) (g p mb kb : Nat) (vb vf vl vo : Value) (m : Ma) (rb : Nat) (rv : Value) (l : List Key) (v : World) : Prop where
 bl : Below w.heap.size w v
 rd : Rdr w.heap.size v g p
 hm : MaM w.heap.size v vb vf vl vo m
 ob : Own v mb 48 #[vb, vf, vl, .int .i64 m.c.hand, .int .i64 m.g.count, .int .i64 m.g.next, .int .i64 m.g.round, vo, .int .i64 m.sp]
 n : Own v w.heap.size 48 #[.slice none 0 0, .slice none 0 0, .slice none 0 0, .int .i64 0, .int .i64 0, .int .i64 0, .int .i64 0, .slice none 0 0, .int .i64 0]
 k : Own v (w.heap.size + 1) 61 #[.int .i64 0, .int .i64 0]
 kv : ∃ a b : Int, small a ∧ small b ∧ Own v kb 61 #[.int .i64 a, .int .i64 b]
 row : v.ownsRow rb 61 2 rv l.length (kcells l)
section
variable {w v v' : World} {g p mb kb : Nat} {vb vf vl vo : Value} {m : Ma} {rb : Nat} {rv : Value} {l : List Key}
theorem K6.below (h : K6 w g p mb kb vb vf vl vo m rb rv l v) (hb : Below v.heap.size v v') : K6 w g p mb kb vb vf vl vo m rb rv l v' :=
 ⟨bT h.bl hb, rdr_below h.rd hb, h.hm.now hb, h.ob.below hb, h.n.below hb, h.k.below hb, let ⟨a, b, h1, h2, h3⟩ := h.kv; ⟨a, b, h1, h2, h3.below hb⟩, own_kept h.row hb⟩
theorem K6.gr {p' : Nat} (h : K6 w g p mb kb vb vf vl vo m rb rv l v) (hr : Rdr w.heap.size v' g p') (hg : v.grownBy v' (some g)) : K6 w g p' mb kb vb vf vl vo m rb rv l v' := by
 obtain ⟨A, n, c, ho, _, _, hBg⟩ := h.rd.ok
 obtain ⟨a, b, h1, h2, h3⟩ := h.kv
 exact ⟨bG h.bl hg (by intro k hk; injection hk with hk; omega), hr, h.hm.gr h.rd hg, own_gr h.ob hg (h.ob.ne ho (by decide)), own_gr h.n hg (h.n.ne ho (by decide)), own_gr h.k hg (h.k.ne ho (by decide)), ⟨a, b, h1, h2, own_gr h3 hg (h3.ne ho (by decide))⟩, ownsRow_gr h.row h.rd hg (by decide)⟩
theorem row_far {base n gk : Nat} {e : TypeId} {sz i : Nat} {w : World} {rv : Value} {xs : List Value} {u : Value} (h : w.ownsRow base e sz rv n xs) (hne : ∀ b, rv.ownBlock = some b → b ≠ gk) : (w.setCell ⟨gk, i, none⟩ u).ownsRow base e sz rv n xs := by
 obtain ⟨h1, h2⟩ := h
 rcases h2 with ⟨e1, h0⟩ | ⟨g', cap, cur, e1, hb, ho, hc⟩
 ·exact ⟨h1, .inl ⟨e1, h0⟩⟩
 ·subst e1
  exact ⟨h1, .inr ⟨g', cap, cur, rfl, hb, (show Own w g' e cur from ho).far (hne g' rfl), hc⟩⟩
theorem K6.key (h : K6 w g p mb kb vb vf vl vo m rb rv l v) (hB : w.heap.size + 2 ≤ kb) (hr : ∀ b, rv.ownBlock = some b → b ≠ kb) {a b : Int} (ha : small a) (hb : small b) : K6 w g p mb kb vb vf vl vo m rb rv l ((v.setCell ⟨kb, 0, none⟩ (.int .i64 a)).setCell ⟨kb, 1, none⟩ (.int .i64 b)) := by
 obtain ⟨a0, b0, h1, h2, h3⟩ := h.kv
 obtain ⟨A, n, c, ho, _, _, hBg⟩ := h.rd.ok
 have o1 := h3.set_ 0 (.int .i64 a)
 exact ⟨bS (bS h.bl (by show w.heap.size ≤ kb; omega)) (by show w.heap.size ≤ kb; omega), rdr_far (rdr_far h.rd (ho.ne h3 (by decide)) (by omega)) (ho.ne h3 (by decide)) (by omega), (h.hm.chg (GT.set2 (B := 0) h3 chg_ky (by decide) (by omega) _ _).oth), (h.ob.far (h.ob.ne h3 (by decide))).far (h.ob.ne h3 (by decide)), (h.n.far (by show w.heap.size ≠ kb; omega)).far (by show w.heap.size ≠ kb; omega), (h.k.far (by show w.heap.size + 1 ≠ kb; omega)).far (by show w.heap.size + 1 ≠ kb; omega), ⟨a, b, ha, hb, by simpa using o1.set_ 1 (.int .i64 b)⟩, row_far (row_far h.row hr) hr⟩
end
def MNP (w : World) (v : Value) (w' : World) : Prop := ∃ (m : Ma) (v1 v2 v3 v4 : Value) (a : Int), v = .tuple #[.agg #[v1, v2, v3, .int .i64 m.c.hand, .int .i64 m.g.count, .int .i64 m.g.next, .int .i64 m.g.round, v4, .int .i64 m.sp], .int .i64 a] ∧ MaM w.heap.size w' v1 v2 v3 v4 m ∧ Sz 19 m ∧ small a ∧ Below w.heap.size w w'
set_option maxHeartbeats 4000000 in
theorem DrawRangesOf_any (A : Option Addr) (n c : Nat) (w : World) (hb : Bytes w.heap.size w A n) (hc : n ≤ c) (hn : n ≤ 1048576) :
  Calls Tryz.prog 22 #[.slice A n c] w (Post2 fun v w' => MNP w v w') := by
 have ho := Own.new_ w 48 #[.slice none 0 0, .slice none 0 0, .slice none 0 0, .int .i64 0, .int .i64 0, .int .i64 0, .int .i64 0, .slice none 0 0, .int .i64 0]
 have hb0 : Below w.heap.size w (w.alloc (.cells #[.slice none 0 0, .slice none 0 0, .slice none 0 0, .int .i64 0, .int .i64 0, .int .i64 0, .int .i64 0, .slice none 0 0, .int .i64 0] 48)) := bA bR
 have hs0 : (w.alloc (.cells #[.slice none 0 0, .slice none 0 0, .slice none 0 0, .int .i64 0, .int .i64 0, .int .i64 0, .int .i64 0, .slice none 0 0, .int .i64 0] 48)).heap.size = w.heap.size + 1 := by simp
 generalize hW : w.alloc (.cells #[.slice none 0 0, .slice none 0 0, .slice none 0 0, .int .i64 0, .int .i64 0, .int .i64 0, .int .i64 0, .slice none 0 0, .int .i64 0] 48) = W0 at ho hb0 hs0
 have HBY := Hd hb
 have HN := Hd ho
 have HB := Hd hb0
 have KC := Hd (l10Case_any A n c W0 ((hb.keep fun q hq => hb0.cell hq).up (by omega)) hc hn)
 clear ho hb0 hb
 go_enter Tryz.func22, Tryz.ntmps22
 go_wp2_with fail
 refine KC.out.mono ?_
 rintro e w1 ⟨_, rfl, m, v1, v2, v3, v4, rfl, hM, hz, hb1⟩
 obtain ⟨A1, c1, rfl, _⟩ := hM.t.b
 obtain ⟨A2, c2, rfl, _⟩ := hM.t.f
 obtain ⟨A3, c3, rfl, _⟩ := hM.l
 obtain ⟨A4, c4, rfl, _⟩ := hM.o
 have hs1 := hb1.size
 have hn := HN.out.below hb1
 have hx := Own.new_ w1 48 #[.slice A1 m.t.bs.length c1, .slice A2 m.t.fs.length c2, .slice A3 m.c.ls.length c3, .int .i64 m.c.hand, .int .i64 m.g.count, .int .i64 m.g.next, .int .i64 m.g.round, .slice A4 m.g.os.length c4, .int .i64 m.sp]
 have hb2 : Below w1.heap.size w1 (w1.alloc (.cells #[.slice A1 m.t.bs.length c1, .slice A2 m.t.fs.length c2, .slice A3 m.c.ls.length c3, .int .i64 m.c.hand, .int .i64 m.g.count, .int .i64 m.g.next, .int .i64 m.g.round, .slice A4 m.g.os.length c4, .int .i64 m.sp] 48)) := bA bR
 have hs2 : (w1.alloc (.cells #[.slice A1 m.t.bs.length c1, .slice A2 m.t.fs.length c2, .slice A3 m.c.ls.length c3, .int .i64 m.c.hand, .int .i64 m.g.count, .int .i64 m.g.next, .int .i64 m.g.round, .slice A4 m.g.os.length c4, .int .i64 m.sp] 48)).heap.size = w1.heap.size + 1 := by simp
 generalize hW2 : w1.alloc (.cells #[.slice A1 m.t.bs.length c1, .slice A2 m.t.fs.length c2, .slice A3 m.c.ls.length c3, .int .i64 m.c.hand, .int .i64 m.g.count, .int .i64 m.g.next, .int .i64 m.g.round, .slice A4 m.g.os.length c4, .int .i64 m.sp] 48) = w2 at hx hb2 hs2
 have HN2 := Hd (hn.below hb2)
 have HX := Hd hx
 have HM := Hd ((hM.now hb2).mono (show w.heap.size ≤ W0.heap.size by omega))
 have HB2 := Hd (bT (bT HB.out hb1) hb2)
 have HZ := Hd hz
 clear hM hb1 hb2 hn hx hz HN HB KC hW
 have hmb2 : w.heap.size + 1 ≤ w1.heap.size := by omega
 generalize hmb : w1.heap.size = mb at *
 go_wp2
 try rw [hW2]
 clear hW2
 have hst : GStat chg [4] [(mb, 48, #[.slice A1 m.t.bs.length c1, .slice A2 m.t.fs.length c2, .slice A3 m.c.ls.length c3, .int .i64 m.c.hand, .int .i64 m.g.count, .int .i64 m.g.next, .int .i64 m.g.round, .slice A4 m.g.os.length c4, .int .i64 m.sp])] (fun v => MaM w.heap.size v (.slice A1 m.t.bs.length c1) (.slice A2 m.t.fs.length c2) (.slice A3 m.c.ls.length c3) (.slice A4 m.g.os.length c4) m) [sbE 5 (w.heap.size) 48 #[.slice none 0 0, .slice none 0 0, .slice none 0 0, .int .i64 0, .int .i64 0, .int .i64 0, .int .i64 0, .slice none 0 0, .int .i64 0] #[.slice A1 m.t.bs.length c1, .slice A2 m.t.fs.length c2, .slice A3 m.c.ls.length c3, .int .i64 m.c.hand, .int .i64 m.g.count, .int .i64 m.g.next, .int .i64 m.g.round, .slice A4 m.g.os.length c4, .int .i64 m.sp]] := by
  refine gstat_one (by decide) ?_ (fun _ _ ho h => h.chg ho) (show 48 ≠ 172 by decide) sbE_keep
  ·intro f hf
   simp only [List.mem_cons, List.not_mem_nil, or_false] at hf
   subst hf
   ·exact ⟨show 48 ≠ 172 by decide, show w.heap.size ≠ mb by omega⟩
 refine wp_region_rel4 (by kernel_rfl) [7, 8, 9, 10, 11, 3] [[7], [8], [9], [10], [11], [], [3]] (GC (w.heap.size) w [] [4] [(mb, 48, #[.slice A1 m.t.bs.length c1, .slice A2 m.t.fs.length c2, .slice A3 m.c.ls.length c3, .int .i64 m.c.hand, .int .i64 m.g.count, .int .i64 m.g.next, .int .i64 m.g.round, .slice A4 m.g.os.length c4, .int .i64 m.sp])] (fun v => MaM w.heap.size v (.slice A1 m.t.bs.length c1) (.slice A2 m.t.fs.length c2) (.slice A3 m.c.ls.length c3) (.slice A4 m.g.os.length c4) m) [sbE 5 (w.heap.size) 48 #[.slice none 0 0, .slice none 0 0, .slice none 0 0, .int .i64 0, .int .i64 0, .int .i64 0, .int .i64 0, .slice none 0 0, .int .i64 0] #[.slice A1 m.t.bs.length c1, .slice A2 m.t.fs.length c2, .slice A3 m.c.ls.length c3, .int .i64 m.c.hand, .int .i64 m.g.count, .int .i64 m.g.next, .int .i64 m.g.round, .slice A4 m.g.os.length c4, .int .i64 m.sp]]) (kgs (q := chg) (B := w.heap.size) (nums := [4]) (S := [sbE 5 (w.heap.size) 48 #[.slice none 0 0, .slice none 0 0, .slice none 0 0, .int .i64 0, .int .i64 0, .int .i64 0, .int .i64 0, .slice none 0 0, .int .i64 0] #[.slice A1 m.t.bs.length c1, .slice A2 m.t.fs.length c2, .slice A3 m.c.ls.length c3, .int .i64 m.c.hand, .int .i64 m.g.count, .int .i64 m.g.next, .int .i64 m.g.round, .slice A4 m.g.os.length c4, .int .i64 m.sp]]) [KG.eq 7 (.agg #[.slice A1 m.t.bs.length c1, .slice A2 m.t.fs.length c2, .slice A3 m.c.ls.length c3, .int .i64 m.c.hand, .int .i64 m.g.count, .int .i64 m.g.next, .int .i64 m.g.round, .slice A4 m.g.os.length c4, .int .i64 m.sp]), KG.eq 8 (.slice A n c), KG.rdr (by decide) 9, KG.lit chg_int 10 #[.int .i64 0, .int .i64 1, .int .i64 2, .int .i64 0, .int .i64 16] 5, KG.sat 11 (isIn [0, 1, 2, 0, 16]), KG.no, KG.sat 3 (isIn [0, 1, 2, 0, 16])]) (gtt chg (w.heap.size) [4] [sbE 5 (w.heap.size) 48 #[.slice none 0 0, .slice none 0 0, .slice none 0 0, .int .i64 0, .int .i64 0, .int .i64 0, .int .i64 0, .slice none 0 0, .int .i64 0] #[.slice A1 m.t.bs.length c1, .slice A2 m.t.fs.length c2, .slice A3 m.c.ls.length c3, .int .i64 m.c.hand, .int .i64 m.g.count, .int .i64 m.g.next, .int .i64 m.g.round, .slice A4 m.g.os.length c4, .int .i64 m.sp]]) (by kernel_rfl) ?_ (kgs_loc (q := chg) (B := w.heap.size) (nums := [4]) (S := [sbE 5 (w.heap.size) 48 #[.slice none 0 0, .slice none 0 0, .slice none 0 0, .int .i64 0, .int .i64 0, .int .i64 0, .int .i64 0, .slice none 0 0, .int .i64 0] #[.slice A1 m.t.bs.length c1, .slice A2 m.t.fs.length c2, .slice A3 m.c.ls.length c3, .int .i64 m.c.hand, .int .i64 m.g.count, .int .i64 m.g.next, .int .i64 m.g.round, .slice A4 m.g.os.length c4, .int .i64 m.sp]]) (ks := [KG.eq 7 (.agg #[.slice A1 m.t.bs.length c1, .slice A2 m.t.fs.length c2, .slice A3 m.c.ls.length c3, .int .i64 m.c.hand, .int .i64 m.g.count, .int .i64 m.g.next, .int .i64 m.g.round, .slice A4 m.g.os.length c4, .int .i64 m.sp]), KG.eq 8 (.slice A n c), KG.rdr (by decide) 9, KG.lit chg_int 10 #[.int .i64 0, .int .i64 1, .int .i64 2, .int .i64 0, .int .i64 16] 5, KG.sat 11 (isIn [0, 1, 2, 0, 16]), KG.no, KG.sat 3 (isIn [0, 1, 2, 0, 16])])) kgs_keep ?_ ?_
 ·exact ⟨bD HB2.out, (by intro e he; cases he), (by intro e he; simp only [List.mem_cons, List.not_mem_nil, or_false] at he; subst he; exact HX.out.drew), (HM.out.now (bD bR)), (by intro e he; simp only [List.mem_cons, List.not_mem_nil, or_false] at he; subst he; exact ⟨_, HN2.out.drew, fun _ => rfl, fun h => absurd h (by decide)⟩)⟩
 ·intro i o ho D x v hD hC hd K hK
  match i, ho with
  | 0, ho =>
   cases ho
   simp only [fillA, Act.put, sA9, sB9, sC9] at hK ⊢
   have hx : Own v (mb) 48 #[.slice A1 m.t.bs.length c1, .slice A2 m.t.fs.length c2, .slice A3 m.c.ls.length c3, .int .i64 m.c.hand, .int .i64 m.g.count, .int .i64 m.g.next, .int .i64 m.g.round, .slice A4 m.g.os.length c4, .int .i64 m.sp] := hC.ob _ List.mem_cons_self
   obtain ⟨z0, z1, z2, z3, z4, z5, z6, z7, z8⟩ := cells9 hx
   go_simp
   exact hK _ _ GT.same (hC.step hst hD GT.same rfl) rfl
  | 1, ho =>
   cases ho
   simp only [fillA, Act.put, sA9, sB9, sC9] at hK ⊢
   go_simp
   exact hK _ _ GT.same (hC.step hst hD GT.same rfl) rfl
  | 2, ho =>
   cases ho
   simp only [fillA, Act.put, sA9, sB9, sC9] at hK ⊢
   have d0 := hd 1 ⟨⟨1, .data⟩, by simp, rfl, rfl⟩
   change x 8 = .slice A n c at d0
   simp only [d0] at hK ⊢
   go_wp2_with fail
   refine (l12Open_low w.heap.size A n c v (HBY.out.keep fun q hq => hC.bl.cell hq) hC.bl.size hc hn).mono ?_
   rintro e v' ⟨rfl, hrd, hb⟩
   go_simp
   exact hK _ _ (GT.below hb hC.bl.size) (hC.step hst hD (GT.below hb hC.bl.size) rfl) ⟨_, 0, rfl, Nat.zero_le _, hrd⟩
  | 3, ho =>
   cases ho
   simp only [fillA, Act.put, sA9, sB9, sC9] at hK ⊢
   go_simp
   exact hK _ _ (GT.below (bA bR) hC.bl.size) (hC.step hst hD (GT.below (bA bR) hC.bl.size) rfl) ⟨_, rfl, Own.new_ _ _ _⟩
  | 4, ho =>
   cases ho
   simp only [fillA, Act.put, sA9, sB9, sC9] at hK ⊢
   have d0 := hd 2 ⟨⟨2, .data⟩, by simp, rfl, rfl⟩
   obtain ⟨gr, p', d0, hp', hrd⟩ := d0
   change x 9 = .pointer (some ⟨gr, 0, none⟩) at d0
   have d1 := hd 3 ⟨⟨3, .data⟩, by simp, rfl, rfl⟩
   obtain ⟨gd1, d1, od1⟩ := d1
   change x 10 = .slice (some ⟨gd1, 0, none⟩) 5 5 at d1
   simp only [d0, d1] at hK ⊢
   have hcn : cn D [4] ≤ 1 := cn_le D _
   obtain ⟨Ar, nr, cr, hor, _⟩ := hrd.ok
   go_wp2_with fail
   refine (num_any w.heap.size gr p' gd1 [0, 1, 2, 0, 16] v hrd od1 (od1.ne hor (by decide)) (by omega) (by simp) (by simp)).mono ?_
   rintro e v' ⟨z, rfl, hz, hrd', hgr⟩
   go_simp
   exact hK _ _ (GT.read chg_rd hrd hrd' (by omega) hgr) (hC.step hst hD (GT.read chg_rd hrd hrd' (by omega) hgr) rfl) ⟨z, rfl, hz⟩
  | 5, ho =>
   cases ho
   simp only [fillA, Act.put, sA9, sB9, sC9] at hK ⊢
   have d0 := hd 0 ⟨⟨0, .data⟩, by simp, rfl, rfl⟩
   change x 7 = .agg #[.slice A1 m.t.bs.length c1, .slice A2 m.t.fs.length c2, .slice A3 m.c.ls.length c3, .int .i64 m.c.hand, .int .i64 m.g.count, .int .i64 m.g.next, .int .i64 m.g.round, .slice A4 m.g.os.length c4, .int .i64 m.sp] at d0
   obtain ⟨cs, hob, hold, _⟩ := hC.st (sbE 5 (w.heap.size) 48 #[.slice none 0 0, .slice none 0 0, .slice none 0 0, .int .i64 0, .int .i64 0, .int .i64 0, .int .i64 0, .slice none 0 0, .int .i64 0] #[.slice A1 m.t.bs.length c1, .slice A2 m.t.fs.length c2, .slice A3 m.c.ls.length c3, .int .i64 m.c.hand, .int .i64 m.g.count, .int .i64 m.g.next, .int .i64 m.g.round, .slice A4 m.g.os.length c4, .int .i64 m.sp]) List.mem_cons_self
   obtain rfl := hold hD
   change Own v (w.heap.size) 48 #[.slice none 0 0, .slice none 0 0, .slice none 0 0, .int .i64 0, .int .i64 0, .int .i64 0, .int .i64 0, .slice none 0 0, .int .i64 0] at hob
   obtain ⟨r0x, r1x, r2x, r3x, r4x, r5x, r6x, r7x, r8x⟩ := cells9 hob
   obtain ⟨z0x, z1x, z2x, z3x, z4x, z5x, z6x, z7x, z8x⟩ := free9 hob
   have hlo := hob.lt
   simp only [d0] at hK ⊢
   go_simp
   refine hK undef _ ?_ ?_ trivial
   ·exact GT.set9 hob chg_ma (by decide) (by omega) _ _ _ _ _ _ _ _ _
   ·exact hC.store (e0 := sbE 5 (w.heap.size) 48 #[.slice none 0 0, .slice none 0 0, .slice none 0 0, .int .i64 0, .int .i64 0, .int .i64 0, .int .i64 0, .slice none 0 0, .int .i64 0] #[.slice A1 m.t.bs.length c1, .slice A2 m.t.fs.length c2, .slice A3 m.c.ls.length c3, .int .i64 m.c.hand, .int .i64 m.g.count, .int .i64 m.g.next, .int .i64 m.g.round, .slice A4 m.g.os.length c4, .int .i64 m.sp]) hst hD (GT.set9 hob chg_ma (by decide) (by omega) _ _ _ _ _ _ _ _ _) List.mem_cons_self rfl (hob.set9 _ _ _ _ _ _ _ _ _) rfl
  | 6, ho =>
   cases ho
   simp only [fillA, Act.put, sA9, sB9, sC9] at hK ⊢
   have d0 := hd 4 ⟨⟨4, .data⟩, by simp, rfl, rfl⟩
   obtain ⟨nd0, d0, hd0⟩ := d0
   change x 11 = .int .i64 nd0 at d0
   simp only [d0] at hK ⊢
   go_simp
   exact hK _ _ GT.same (hC.step hst hD GT.same rfl) ⟨_, rfl, hd0⟩
  | _ + 7, ho => simp at ho
 intro D xa wz hD hC hd
 obtain ⟨cs0, ho0, _, hn0⟩ := hC.st (sbE 5 (w.heap.size) 48 #[.slice none 0 0, .slice none 0 0, .slice none 0 0, .int .i64 0, .int .i64 0, .int .i64 0, .int .i64 0, .slice none 0 0, .int .i64 0] #[.slice A1 m.t.bs.length c1, .slice A2 m.t.fs.length c2, .slice A3 m.c.ls.length c3, .int .i64 m.c.hand, .int .i64 m.g.count, .int .i64 m.g.next, .int .i64 m.g.round, .slice A4 m.g.os.length c4, .int .i64 m.sp]) List.mem_cons_self
 have hn0 := hn0 (hD 5 (by decide))
 change Own wz (w.heap.size) 48 cs0 at ho0
 change cs0 = #[.slice A1 m.t.bs.length c1, .slice A2 m.t.fs.length c2, .slice A3 m.c.ls.length c3, .int .i64 m.c.hand, .int .i64 m.g.count, .int .i64 m.g.next, .int .i64 m.g.round, .slice A4 m.g.os.length c4, .int .i64 m.sp] at hn0
 subst hn0
 have dA3 := hd 6 (by decide)
 obtain ⟨r3, dA3, hr3⟩ := dA3
 change xa 3 = .int .i64 r3 at dA3
 simp only [fillA, Act.put, sA9, sB9, sC9, dA3]
 have HBL := Hd hC.bl
 have HMM := Hd hC.mm
 clear hd hD dA3
 obtain ⟨p0t, p1t, p2t, p3t, p4t, p5t, p6t, p7t, p8t⟩ := cells9 ho0
 clear ho0 hC
 go_wp2
 refine bodyPost_ret (v := .tuple #[.agg #[.slice A1 m.t.bs.length c1, .slice A2 m.t.fs.length c2, .slice A3 m.c.ls.length c3, .int .i64 m.c.hand, .int .i64 m.g.count, .int .i64 m.g.next, .int .i64 m.g.round, .slice A4 m.g.os.length c4, .int .i64 m.sp], .int .i64 r3]) (by simp [results, Tryz.results22, go_sem, p0t, p1t, p2t, p3t, p4t, p5t, p6t, p7t, p8t]) rfl ⟨_, rfl, m, _, _, _, _, r3, rfl, HMM.out, HZ.out, isIn_small (by decide) hr3, HBL.out⟩
theorem ipInts_rs (A A' : Option Addr) (c c' : Nat) (l : List Int) (w : World) (h : Rs intE w.heap.size w A l) (h' : Rs intE w.heap.size w A' l) (hl : l.length ≤ 9223372036854775807) :
  Calls Tryz.prog 73 #[.slice A l.length c, .slice A' l.length c'] w fun r w' => r = .returned (.bool true) ∧ Below w.heap.size w w' := by
 go_enter Tryz.func73, Tryz.ntmps73
 go_wp2
 go_loopw [5] (fun i wr => ∃ k : Nat, k ≤ l.length ∧ i = .int .i64 k ∧ Below w.heap.size w wr) (fun i _ => l.length - (intOf i).toNat)
 case atStart => exact ⟨0, by omega, rfl, bR⟩
 case round =>
  obtain ⟨k, hk, rfl, hb⟩ := hrel
  by_cases hlt : k < l.length
  ·obtain ⟨x, ex⟩ : ∃ x, l[k]? = some x := ⟨_, List.getElem?_eq_getElem hlt⟩
   obtain ⟨b, o, rfl, hbb, c1⟩ := Rd.i1 (h.now (Nat.le_refl _) hb) ex
   obtain ⟨b', o', rfl, hbb', c2⟩ := Rd.i1 (h'.now (Nat.le_refl _) hb) ex
   clear ex
   go_wp2
   go_quiet (fail)
   go_wp2
   go_roundw
   case rel => exact ⟨k + 1, by omega, by go_num, bDN hb⟩
   case measure => simp [intOf]; omega
  ·go_wp2
   go_ret
   exact ⟨rfl, hb⟩
set_option maxHeartbeats 2000000 in
theorem ipLists_rs (B B' : Nat) (A A' : Option Addr) (c c' n : Nat) (a : List Rng) (w : World) (h : RgR B w (.slice A n c) a) (h' : RgR B' w (.slice A' n c') a) :
  Calls Tryz.prog 23 #[.slice A n c, .slice A' n c'] w fun r w' => r = .returned (.bool true) ∧ Below w.heap.size w w' := by
 obtain ⟨rfl, hl⟩ := h.len
 have H1 := Hd h
 have H2 := Hd h'
 clear h h'
 go_enter Tryz.func23, Tryz.ntmps23
 go_wp2
 go_loopw [5] (fun i wr => ∃ k : Nat, k ≤ a.length ∧ i = .int .i64 k ∧ Below w.heap.size w wr) (fun i _ => a.length - (intOf i).toNat)
 case atStart => exact ⟨0, by omega, rfl, bR⟩
 case round =>
  obtain ⟨k, hk, rfl, hb⟩ := hrel
  by_cases hlt : k < a.length
  ·obtain ⟨x, ex⟩ : ∃ x, a[k]? = some x := ⟨_, List.getElem?_eq_getElem hlt⟩
   obtain ⟨b1, o1, g1, rfl, hb1, e1, ho1⟩ := (H1.out.now hb).at_ ex
   obtain ⟨b2, o2, g2, rfl, hb2, e2, ho2⟩ := (H2.out.now hb).at_ ex
   have KI : Hid (∀ W, Below wr.heap.size wr W → Calls Tryz.prog 73 #[.slice (some ⟨g1, 0, none⟩) 3 3, .slice (some ⟨g2, 0, none⟩) 3 3] W fun r w' => r = .returned (.bool true) ∧ Below W.heap.size W w') :=
    Hd (fun W hbw => ipInts_rs _ _ 3 3 [x.1, x.2.1, x.2.2] W (own_rs3 (ho1.below hbw)) (own_rs3 (ho2.below hbw)) (by simp))
   have hki : (k : Int) < (a.length : Int) := by omega
   have hk0 : (0 : Int) ≤ (k : Int) := by omega
   have t1 := xcell e1 hb1
   have t2 := xcell e2 hb2
   have HB := Hd hb
   clear ex e1 e2 ho1 ho2 hb
   go_wp2
   refine wp_region_ext (by kernel_rfl) (by kernel_rfl) ?_
   repeat (go_big_quiet_step ((go_at_call 73; exact ext_call (KI.out _ (Ext.ok _)))))
   refine wpQuiet_nil ?_
   intro _ hw'
   obtain ⟨⟨wq, hq⟩, hw''⟩ := hw'
   subst hw''
   try dsimp only
   have HBQ := Hd (bT HB.out hq)
   clear t1 t2 hq
   go_wp2
   go_roundw
   case rel => exact ⟨k + 1, by omega, by go_num, HBQ.out⟩
   case measure => simp [intOf]; omega
  ·go_wp2
   go_ret
   exact ⟨rfl, hb⟩
def IsRow (k : IntKind) (w : World) (a : Option Addr) (len cap : Nat) (zs : List Int) : Prop :=
 (a = none ∧ len = 0 ∧ cap = 0 ∧ zs = []) ∨
 ∃ x, a = some x ∧ len ≤ cap ∧ cap ≤ maxLen ∧ zs.length = cap ∧ (∀ i, i < zs.length → w.cell? (x.add i) = some (.int k (zs.getD i 0))) ∧ ∀ n ∈ zs, (Lit.int k n).wf = true
theorem row_cap {w : World} {a : Option Addr} {len cap : Nat} {zs : List Int} (h : IsRow .u8 w a len cap zs) : len ≤ cap := by
 rcases h with ⟨_, rfl, rfl, _⟩ | ⟨x, _, h, _⟩
 ·exact Nat.le_refl _
 ·exact h
theorem wf_u8_in {n : Int} (h : (Lit.int .u8 n).wf = true) : 0 ≤ n ∧ n ≤ 255 := by
 simp [Lit.wf, IntKind.min, IntKind.max, IntKind.signed, IntKind.bits] at h
 omega
theorem row_bytes {w : World} {a : Option Addr} {len cap : Nat} {zs : List Int} (h : IsRow .u8 w a len cap zs) : Bytes w.heap.size w a len := by
 rcases h with ⟨_, rfl, _, _⟩ | ⟨x, rfl, hlc, _, hz, hc, hw⟩
 ·exact ⟨fun j hj => absurd hj (by omega)⟩
 ·refine ⟨fun j hj => ?_⟩
  obtain ⟨b, o, s⟩ := x
  have h0 := hc 0 (by omega)
  have hs : s = none := by simpa [Addr.add] using World.cell?_spot h0
  subst hs
  have h1 := hc j (by omega)
  rw [add_lit_] at h1
  have hm : zs.getD j 0 ∈ zs := by
   have e : zs.getD j 0 = zs[j]'(by omega) := by rw [List.getD_eq_getElem?_getD, List.getElem?_eq_getElem (by omega)]; rfl
   rw [e]; exact List.getElem_mem _
  obtain ⟨h2, h3⟩ := wf_u8_in (hw _ hm)
  obtain ⟨v, hv⟩ := Int.eq_ofNat_of_zero_le h2
  rw [hv] at h1 h3
  exact ⟨b, o, v, rfl, World.block_lt_of_cell? w _ h1, h1, by omega⟩
end Go.Proofs.YtibpnlojlfcpmaaGreatDoor
