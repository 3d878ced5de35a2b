/- A part of the proofs of this seat: Kr. -/
import Derived.Test.YtibpnlojlfcpmaaGreatDoorALTrD
set_option linter.unusedVariables false
set_option linter.unusedSimpArgs false
set_option maxRecDepth 1000000
namespace Go.Proofs.YtibpnlojlfcpmaaGreatDoor
open Go.RowKit
theorem row_own {base g c n : Nat} {e : TypeId} {w : World} {xs : List Value} {sz : Nat} (h : w.ownsRow base e sz (.slice (some ⟨g, 0, none⟩) n c) n xs) : base ≤ g ∧ ∃ cur, Own w g e cur ∧ ∀ v : World, Own v g e cur → v.ownsRow base e sz (.slice (some ⟨g, 0, none⟩) n c) n xs := by
 obtain ⟨h1, h2⟩ := h
 rcases h2 with ⟨e1, _⟩ | ⟨g', cap, cur, e1, hb, ho, hc, hm, hs, ht⟩
 ·cases e1
 ·injection e1 with e1 _ e2
  injection e1 with e1
  injection e1 with e1
  subst e1 e2
  exact ⟨hb, cur, ho, fun v hv => ⟨h1, .inr ⟨g, c, cur, rfl, hb, hv, hc, hm, hs, ht⟩⟩⟩
def isKp (g n : Nat) (u : Value) : Prop := ∃ k : Nat, u = .pointer (some ⟨g, k * 2, none⟩) ∧ k < n
set_option maxHeartbeats 4000000 in
theorem l10Range_any (A : Option Addr) (n c : Nat) (w : World) (hb : Bytes w.heap.size w A n) (hc : n ≤ c) (hn : n ≤ 1048576) :
  Calls Tryz.prog 103 #[.slice A n c] w (Post2 fun v w' => KRP w v w') := by
 have ho := (Own.new_ w 48 #[.slice none 0 0, .slice none 0 0, .slice none 0 0, .int .i64 0, .int .i64 0, .int .i64 0, .int .i64 0, .slice none 0 0, .int .i64 0]).alloc (o := .cells #[.int .i64 0, .int .i64 0] 61)
 have hk := ownAt (W := w.alloc (.cells #[.slice none 0 0, .slice none 0 0, .slice none 0 0, .int .i64 0, .int .i64 0, .int .i64 0, .int .i64 0, .slice none 0 0, .int .i64 0] 48)) (g := w.heap.size + 1) (t := 61) (cs := #[.int .i64 0, .int .i64 0]) (by simp)
 have hb0 : Below w.heap.size w ((w.alloc (.cells #[.slice none 0 0, .slice none 0 0, .slice none 0 0, .int .i64 0, .int .i64 0, .int .i64 0, .int .i64 0, .slice none 0 0, .int .i64 0] 48)).alloc (.cells #[.int .i64 0, .int .i64 0] 61)) := bA (bA bR)
 have hs0 : ((w.alloc (.cells #[.slice none 0 0, .slice none 0 0, .slice none 0 0, .int .i64 0, .int .i64 0, .int .i64 0, .int .i64 0, .slice none 0 0, .int .i64 0] 48)).alloc (.cells #[.int .i64 0, .int .i64 0] 61)).heap.size = w.heap.size + 2 := by simp
 generalize hW : (w.alloc (.cells #[.slice none 0 0, .slice none 0 0, .slice none 0 0, .int .i64 0, .int .i64 0, .int .i64 0, .int .i64 0, .slice none 0 0, .int .i64 0] 48)).alloc (.cells #[.int .i64 0, .int .i64 0] 61) = W0 at ho hk hb0 hs0
 have HBY := Hd hb
 have HN := Hd ho
 have HK := Hd hk
 have HB := Hd hb0
 have KC := Hd (l10Case_any A n c W0 ((hb.keep fun q hq => hb0.cell hq).up (by omega)) hc hn)
 clear ho hk hb0 hb
 go_enter Tryz.func103, Tryz.ntmps103
 go_wp2_with fail
 refine KC.out.mono ?_
 rintro e w1 ⟨_, rfl, m, v1, v2, v3, v4, rfl, hM, hz, hb1⟩
 obtain ⟨A1, c1, rfl, _⟩ := hM.t.b
 obtain ⟨A2, c2, rfl, _⟩ := hM.t.f
 obtain ⟨A3, c3, rfl, _⟩ := hM.l
 obtain ⟨A4, c4, rfl, _⟩ := hM.o
 have hs1 := hb1.size
 have hn := HN.out.below hb1
 have hk := HK.out.below hb1
 have hx := Own.new_ w1 48 #[.slice A1 m.t.bs.length c1, .slice A2 m.t.fs.length c2, .slice A3 m.c.ls.length c3, .int .i64 m.c.hand, .int .i64 m.g.count, .int .i64 m.g.next, .int .i64 m.g.round, .slice A4 m.g.os.length c4, .int .i64 m.sp]
 have hb2 : Below w1.heap.size w1 (w1.alloc (.cells #[.slice A1 m.t.bs.length c1, .slice A2 m.t.fs.length c2, .slice A3 m.c.ls.length c3, .int .i64 m.c.hand, .int .i64 m.g.count, .int .i64 m.g.next, .int .i64 m.g.round, .slice A4 m.g.os.length c4, .int .i64 m.sp] 48)) := bA bR
 have hs2 : (w1.alloc (.cells #[.slice A1 m.t.bs.length c1, .slice A2 m.t.fs.length c2, .slice A3 m.c.ls.length c3, .int .i64 m.c.hand, .int .i64 m.g.count, .int .i64 m.g.next, .int .i64 m.g.round, .slice A4 m.g.os.length c4, .int .i64 m.sp] 48)).heap.size = w1.heap.size + 1 := by simp
 generalize hW2 : w1.alloc (.cells #[.slice A1 m.t.bs.length c1, .slice A2 m.t.fs.length c2, .slice A3 m.c.ls.length c3, .int .i64 m.c.hand, .int .i64 m.g.count, .int .i64 m.g.next, .int .i64 m.g.round, .slice A4 m.g.os.length c4, .int .i64 m.sp] 48) = w2 at hx hb2 hs2
 have HN2 := Hd (hn.below hb2)
 have HK2 := Hd (hk.below hb2)
 have HX := Hd hx
 have HM := Hd ((hM.now hb2).mono (show w.heap.size ≤ W0.heap.size by omega))
 have HB2 := Hd (bT (bT HB.out hb1) hb2)
 have HZ := Hd hz
 clear hM hb1 hb2 hn hx hz HN HB KC hW hk HK
 have hmb2 : w.heap.size + 2 ≤ w1.heap.size := by omega
 generalize hmb : w1.heap.size = mb at *
 have KO := Hd (l12Open_low w.heap.size A n c w2 (HBY.out.keep fun q hq => HB2.out.cell hq) (by omega) hc hn)
 go_wp2_with fail
 try rw [hW2]
 refine KO.out.mono ?_
 rintro e w3 ⟨rfl, hrd, hb3⟩
 have HN3 := Hd (HN2.out.below hb3)
 have HK3 := Hd (HK2.out.below hb3)
 have HX3 := Hd (HX.out.below hb3)
 have HM3 := Hd (HM.out.now hb3)
 have HB3 := Hd (bT HB2.out hb3)
 have hs3 := hb3.size
 obtain ⟨g, hg⟩ : ∃ g, mb + 1 = g := ⟨_, rfl⟩
 rw [hs2, hg] at hrd ⊢
 have HR3 := Hd hrd
 clear HN2 HK2 HX HM HB2 KO hrd hb3 hW2
 have hgm : mb < g := by omega
 have hgl := rdr_lt HR3.out
 have x0 := HX3.out.cell_ 0 (v := .slice A1 m.t.bs.length c1) rfl
 have x1 := HX3.out.cell_ 1 (v := .slice A2 m.t.fs.length c2) rfl
 go_wp2_with fail
 refine (KeysOf_any _ _ m.t w3 HM3.out.r.t (by have := HZ.out.f; omega)).mono ?_
 rintro e w4 ⟨_, rfl, hown, hb4⟩
 obtain ⟨A8, c8, rfl, _⟩ := own_rd hown
 have HN4 := Hd (HN3.out.below hb4)
 have HK4 := Hd (HK3.out.below hb4)
 have HX4 := Hd (HX3.out.below hb4)
 have HM4 := Hd (HM3.out.now hb4)
 have HB4 := Hd (bT HB3.out hb4)
 have HR4 := Hd (rdr_below HR3.out hb4)
 have HO4 := Hd hown
 have hs4 := hb4.size
 clear HN3 HK3 HX3 HM3 HB3 HR3 hown hb4 x0 x1
 have hkl : (kys m.t).length ≤ 1000 := Nat.le_trans (kys_len _) (by have := HZ.out.f; omega)
 by_cases hk0 : (kys m.t).length = 0
 ·have hki : (((kys m.t).length : Int) == 0) = true := by rw [hk0]; rfl
  have HN5 := HN4
  have HK5 := HK4
  have HX5 := HX4
  have HM5 := HM4
  have HB5 := HB4
  have HR5 := Hd (rdr_below HR4.out (bR (w := w4)))
  clear HO4
  go_wp2
  have hst : GStat chg [2, 5] [(mb, 48, #[.slice A1 m.t.bs.length c1, .slice A2 m.t.fs.length c2, .slice A3 m.c.ls.length c3, .int .i64 m.c.hand, .int .i64 m.g.count, .int .i64 m.g.next, .int .i64 m.g.round, .slice A4 m.g.os.length c4, .int .i64 m.sp])] (fun v => MaM w.heap.size v (.slice A1 m.t.bs.length c1) (.slice A2 m.t.fs.length c2) (.slice A3 m.c.ls.length c3) (.slice A4 m.g.os.length c4) m) [sbE 7 (w.heap.size) 48 #[.slice none 0 0, .slice none 0 0, .slice none 0 0, .int .i64 0, .int .i64 0, .int .i64 0, .int .i64 0, .slice none 0 0, .int .i64 0] #[.slice A1 m.t.bs.length c1, .slice A2 m.t.fs.length c2, .slice A3 m.c.ls.length c3, .int .i64 m.c.hand, .int .i64 m.g.count, .int .i64 m.g.next, .int .i64 m.g.round, .slice A4 m.g.os.length c4, .int .i64 m.sp], sbK 8 (w.heap.size + 1)] := by
   refine gstat_two (by decide) ?_ (fun _ _ ho h => h.chg ho) (show w.heap.size ≠ w.heap.size + 1 by omega) (show (7 : Nat) ≠ 8 by decide) (show 48 ≠ 172 by decide) (show 61 ≠ 172 by decide) sbE_keep (fun _ _ _ _ h => h)
   ·intro f hf
    simp only [List.mem_cons, List.not_mem_nil, or_false] at hf
    subst hf
    ·exact ⟨show 48 ≠ 172 by decide, show w.heap.size ≠ mb by omega, show w.heap.size + 1 ≠ mb by omega⟩
  refine wp_region_rel4 (by kernel_rfl) [22, 23, 24, 25, 26, 27, 28] [[22], [23], [24], [25], [26], [27], [28], [], []] (GC (w.heap.size) w [(g, 0)] [2, 5] [(mb, 48, #[.slice A1 m.t.bs.length c1, .slice A2 m.t.fs.length c2, .slice A3 m.c.ls.length c3, .int .i64 m.c.hand, .int .i64 m.g.count, .int .i64 m.g.next, .int .i64 m.g.round, .slice A4 m.g.os.length c4, .int .i64 m.sp])] (fun v => MaM w.heap.size v (.slice A1 m.t.bs.length c1) (.slice A2 m.t.fs.length c2) (.slice A3 m.c.ls.length c3) (.slice A4 m.g.os.length c4) m) [sbE 7 (w.heap.size) 48 #[.slice none 0 0, .slice none 0 0, .slice none 0 0, .int .i64 0, .int .i64 0, .int .i64 0, .int .i64 0, .slice none 0 0, .int .i64 0] #[.slice A1 m.t.bs.length c1, .slice A2 m.t.fs.length c2, .slice A3 m.c.ls.length c3, .int .i64 m.c.hand, .int .i64 m.g.count, .int .i64 m.g.next, .int .i64 m.g.round, .slice A4 m.g.os.length c4, .int .i64 m.sp], sbK 8 (w.heap.size + 1)]) (kgs (q := chg) (B := w.heap.size) (nums := [2, 5]) (S := [sbE 7 (w.heap.size) 48 #[.slice none 0 0, .slice none 0 0, .slice none 0 0, .int .i64 0, .int .i64 0, .int .i64 0, .int .i64 0, .slice none 0 0, .int .i64 0] #[.slice A1 m.t.bs.length c1, .slice A2 m.t.fs.length c2, .slice A3 m.c.ls.length c3, .int .i64 m.c.hand, .int .i64 m.g.count, .int .i64 m.g.next, .int .i64 m.g.round, .slice A4 m.g.os.length c4, .int .i64 m.sp], sbK 8 (w.heap.size + 1)]) [KG.eq 22 (.agg #[.slice A1 m.t.bs.length c1, .slice A2 m.t.fs.length c2, .slice A3 m.c.ls.length c3, .int .i64 m.c.hand, .int .i64 m.g.count, .int .i64 m.g.next, .int .i64 m.g.round, .slice A4 m.g.os.length c4, .int .i64 m.sp]), KG.eq 23 (.pointer (some ⟨g, 0, none⟩)), KG.sat 24 (isPk (3)), KG.eq 25 (.pointer (some ⟨g, 0, none⟩)), KG.lit chg_int 26 #[.int .i64 1, .int .i64 255, .int .i64 127, .int .i64 256] 4, KG.sat 27 (isIn [1, 255, 127, 256]), KG.sat 28 isKy, KG.no, KG.no]) (gtt chg (w.heap.size) [2, 5] [sbE 7 (w.heap.size) 48 #[.slice none 0 0, .slice none 0 0, .slice none 0 0, .int .i64 0, .int .i64 0, .int .i64 0, .int .i64 0, .slice none 0 0, .int .i64 0] #[.slice A1 m.t.bs.length c1, .slice A2 m.t.fs.length c2, .slice A3 m.c.ls.length c3, .int .i64 m.c.hand, .int .i64 m.g.count, .int .i64 m.g.next, .int .i64 m.g.round, .slice A4 m.g.os.length c4, .int .i64 m.sp], sbK 8 (w.heap.size + 1)]) (by kernel_rfl) ?_ (kgs_loc (q := chg) (B := w.heap.size) (nums := [2, 5]) (S := [sbE 7 (w.heap.size) 48 #[.slice none 0 0, .slice none 0 0, .slice none 0 0, .int .i64 0, .int .i64 0, .int .i64 0, .int .i64 0, .slice none 0 0, .int .i64 0] #[.slice A1 m.t.bs.length c1, .slice A2 m.t.fs.length c2, .slice A3 m.c.ls.length c3, .int .i64 m.c.hand, .int .i64 m.g.count, .int .i64 m.g.next, .int .i64 m.g.round, .slice A4 m.g.os.length c4, .int .i64 m.sp], sbK 8 (w.heap.size + 1)]) (ks := [KG.eq 22 (.agg #[.slice A1 m.t.bs.length c1, .slice A2 m.t.fs.length c2, .slice A3 m.c.ls.length c3, .int .i64 m.c.hand, .int .i64 m.g.count, .int .i64 m.g.next, .int .i64 m.g.round, .slice A4 m.g.os.length c4, .int .i64 m.sp]), KG.eq 23 (.pointer (some ⟨g, 0, none⟩)), KG.sat 24 (isPk (3)), KG.eq 25 (.pointer (some ⟨g, 0, none⟩)), KG.lit chg_int 26 #[.int .i64 1, .int .i64 255, .int .i64 127, .int .i64 256] 4, KG.sat 27 (isIn [1, 255, 127, 256]), KG.sat 28 isKy, KG.no, KG.no])) kgs_keep ?_ ?_
  ·exact ⟨bD HB5.out, (by intro e he; simp only [List.mem_cons, List.not_mem_nil, or_false] at he; subst he; exact ⟨_, Nat.le_add_right _ _, rdr_below HR5.out (bD bR)⟩), (by intro e he; simp only [List.mem_cons, List.not_mem_nil, or_false] at he; subst he; exact HX5.out.drew), (HM5.out.now (bD bR)), (by intro e he; simp only [List.mem_cons, List.not_mem_nil, or_false] at he; rcases he with rfl | rfl; exact ⟨_, HN5.out.drew, fun _ => rfl, fun h => absurd h (by decide)⟩; exact ⟨_, HK5.out.drew, fun _ => rfl, fun h => absurd h (by decide)⟩)⟩
  ·intro i o ho D x v hD hC hd K hK
   match i, ho with
   | 0, ho =>
    cases ho
    simp only [fillA, Act.put, sA9, sB9, sC9] at hK ⊢
    have hx : Own v (mb) 48 #[.slice A1 m.t.bs.length c1, .slice A2 m.t.fs.length c2, .slice A3 m.c.ls.length c3, .int .i64 m.c.hand, .int .i64 m.g.count, .int .i64 m.g.next, .int .i64 m.g.round, .slice A4 m.g.os.length c4, .int .i64 m.sp] := hC.ob _ List.mem_cons_self
    obtain ⟨z0, z1, z2, z3, z4, z5, z6, z7, z8⟩ := cells9 hx
    go_simp
    exact hK _ _ GT.same (hC.step hst hD GT.same rfl) rfl
   | 1, ho =>
    cases ho
    simp only [fillA, Act.put, sA9, sB9, sC9] at hK ⊢
    go_simp
    exact hK _ _ GT.same (hC.step hst hD GT.same rfl) rfl
   | 2, ho =>
    cases ho
    simp only [fillA, Act.put, sA9, sB9, sC9] at hK ⊢
    have d0 := hd 1 ⟨⟨1, .data⟩, by simp, rfl, rfl⟩
    change x 23 = .pointer (some ⟨g, 0, none⟩) at d0
    simp only [d0] at hK ⊢
    obtain ⟨p', hp'', hrd⟩ := hC.rd (g, 0) List.mem_cons_self
    have hp' : p' ≤ 0 + 1000 * cn D [2, 5] := hp''
    have hcn : cn D [2, 5] ≤ 2 := cn_le D _
    go_wp2_with fail
    refine (pick_any w.heap.size g p' (3) v hrd (by omega) (by omega)).mono ?_
    rintro e v' ⟨z, rfl, hz0, hz1, hrd', hgr⟩
    go_simp
    exact hK _ _ (GT.read chg_rd hrd hrd' (by omega) hgr) (hC.step hst hD (GT.read chg_rd hrd hrd' (by omega) hgr) rfl) ⟨z, rfl, hz0, hz1⟩
   | 3, ho =>
    cases ho
    simp only [fillA, Act.put, sA9, sB9, sC9] at hK ⊢
    go_simp
    exact hK _ _ GT.same (hC.step hst hD GT.same rfl) rfl
   | 4, ho =>
    cases ho
    simp only [fillA, Act.put, sA9, sB9, sC9] at hK ⊢
    go_simp
    exact hK _ _ (GT.below (bA bR) hC.bl.size) (hC.step hst hD (GT.below (bA bR) hC.bl.size) rfl) ⟨_, rfl, Own.new_ _ _ _⟩
   | 5, ho =>
    cases ho
    simp only [fillA, Act.put, sA9, sB9, sC9] at hK ⊢
    have d0 := hd 3 ⟨⟨3, .data⟩, by simp, rfl, rfl⟩
    change x 25 = .pointer (some ⟨g, 0, none⟩) at d0
    have d1 := hd 4 ⟨⟨4, .data⟩, by simp, rfl, rfl⟩
    obtain ⟨gd1, d1, od1⟩ := d1
    change x 26 = .slice (some ⟨gd1, 0, none⟩) 4 4 at d1
    simp only [d0, d1] at hK ⊢
    obtain ⟨p', hp'', hrd⟩ := hC.rd (g, 0) List.mem_cons_self
    have hp' : p' ≤ 0 + 1000 * cn D [2, 5] := hp''
    have hcn : cn D [2, 5] ≤ 2 := cn_le D _
    obtain ⟨Ar, nr, cr, hor, _⟩ := hrd.ok
    go_wp2_with fail
    refine (num_any w.heap.size g p' gd1 [1, 255, 127, 256] v hrd od1 (od1.ne hor (by decide)) (by omega) (by simp) (by simp)).mono ?_
    rintro e v' ⟨z, rfl, hz, hrd', hgr⟩
    go_simp
    exact hK _ _ (GT.read chg_rd hrd hrd' (by omega) hgr) (hC.step hst hD (GT.read chg_rd hrd hrd' (by omega) hgr) rfl) ⟨z, rfl, hz⟩
   | 6, ho =>
    cases ho
    simp only [fillA, Act.put, sA9, sB9, sC9] at hK ⊢
    have d0 := hd 2 ⟨⟨2, .data⟩, by simp, rfl, rfl⟩
    obtain ⟨nd0, d0, hd0⟩ := d0
    change x 24 = .int .i64 nd0 at d0
    have d1 := hd 5 ⟨⟨5, .data⟩, by simp, rfl, rfl⟩
    obtain ⟨nd1, d1, hd1⟩ := d1
    change x 27 = .int .i64 nd1 at d1
    simp only [d0, d1] at hK ⊢
    go_simp
    exact hK _ _ GT.same (hC.step hst hD GT.same rfl) ⟨_, _, rfl, (by have := hd0.1; have := hd0.2 (by decide); unfold small; omega), (isIn_small (by decide) hd1)⟩
   | 7, ho =>
    cases ho
    simp only [fillA, Act.put, sA9, sB9, sC9] at hK ⊢
    have d0 := hd 0 ⟨⟨0, .data⟩, by simp, rfl, rfl⟩
    change x 22 = .agg #[.slice A1 m.t.bs.length c1, .slice A2 m.t.fs.length c2, .slice A3 m.c.ls.length c3, .int .i64 m.c.hand, .int .i64 m.g.count, .int .i64 m.g.next, .int .i64 m.g.round, .slice A4 m.g.os.length c4, .int .i64 m.sp] at d0
    obtain ⟨cs, hob, hold, _⟩ := hC.st (sbE 7 (w.heap.size) 48 #[.slice none 0 0, .slice none 0 0, .slice none 0 0, .int .i64 0, .int .i64 0, .int .i64 0, .int .i64 0, .slice none 0 0, .int .i64 0] #[.slice A1 m.t.bs.length c1, .slice A2 m.t.fs.length c2, .slice A3 m.c.ls.length c3, .int .i64 m.c.hand, .int .i64 m.g.count, .int .i64 m.g.next, .int .i64 m.g.round, .slice A4 m.g.os.length c4, .int .i64 m.sp]) List.mem_cons_self
    obtain rfl := hold hD
    change Own v (w.heap.size) 48 #[.slice none 0 0, .slice none 0 0, .slice none 0 0, .int .i64 0, .int .i64 0, .int .i64 0, .int .i64 0, .slice none 0 0, .int .i64 0] at hob
    obtain ⟨r0x, r1x, r2x, r3x, r4x, r5x, r6x, r7x, r8x⟩ := cells9 hob
    obtain ⟨z0x, z1x, z2x, z3x, z4x, z5x, z6x, z7x, z8x⟩ := free9 hob
    have hlo := hob.lt
    simp only [d0] at hK ⊢
    go_simp
    refine hK undef _ ?_ ?_ trivial
    ·exact GT.set9 hob chg_ma (by decide) (by omega) _ _ _ _ _ _ _ _ _
    ·exact hC.store (e0 := sbE 7 (w.heap.size) 48 #[.slice none 0 0, .slice none 0 0, .slice none 0 0, .int .i64 0, .int .i64 0, .int .i64 0, .int .i64 0, .slice none 0 0, .int .i64 0] #[.slice A1 m.t.bs.length c1, .slice A2 m.t.fs.length c2, .slice A3 m.c.ls.length c3, .int .i64 m.c.hand, .int .i64 m.g.count, .int .i64 m.g.next, .int .i64 m.g.round, .slice A4 m.g.os.length c4, .int .i64 m.sp]) hst hD (GT.set9 hob chg_ma (by decide) (by omega) _ _ _ _ _ _ _ _ _) List.mem_cons_self rfl (hob.set9 _ _ _ _ _ _ _ _ _) rfl
   | 8, ho =>
    cases ho
    simp only [fillA, Act.put, sA9, sB9, sC9] at hK ⊢
    have d0 := hd 6 ⟨⟨6, .data⟩, by simp, rfl, rfl⟩
    obtain ⟨ad0, bd0, d0, had0, hbd0⟩ := d0
    change x 28 = .agg #[.int .i64 ad0, .int .i64 bd0] at d0
    obtain ⟨cs, hob, hold, _⟩ := hC.st (sbK 8 (w.heap.size + 1)) (List.mem_cons_of_mem _ List.mem_cons_self)
    obtain rfl := hold hD
    change Own v (w.heap.size + 1) 61 #[.int .i64 0, .int .i64 0] at hob
    have z0 := hob.cell_ 0 (v := .int .i64 0) rfl
    have z1 := hob.cell_ 1 (v := .int .i64 0) rfl
    have y0 := hob.free 0
    have y1 := hob.free 1
    have hlo := hob.lt
    simp only [d0] at hK ⊢
    go_simp
    refine hK undef _ ?_ ?_ trivial
    ·exact GT.set2 hob chg_ky (by decide) (by omega) _ _
    ·exact hC.store (e0 := sbK 8 (w.heap.size + 1)) hst hD (GT.set2 hob chg_ky (by decide) (by omega) _ _) (List.mem_cons_of_mem _ List.mem_cons_self) rfl (by simpa using (hob.set_ 0 _).set_ 1 _) ⟨_, _, rfl, had0, hbd0⟩
   | _ + 9, ho => simp at ho
  intro D xa wz hD hC hd
  obtain ⟨cs0, ho0, _, hn0⟩ := hC.st (sbE 7 (w.heap.size) 48 #[.slice none 0 0, .slice none 0 0, .slice none 0 0, .int .i64 0, .int .i64 0, .int .i64 0, .int .i64 0, .slice none 0 0, .int .i64 0] #[.slice A1 m.t.bs.length c1, .slice A2 m.t.fs.length c2, .slice A3 m.c.ls.length c3, .int .i64 m.c.hand, .int .i64 m.g.count, .int .i64 m.g.next, .int .i64 m.g.round, .slice A4 m.g.os.length c4, .int .i64 m.sp]) List.mem_cons_self
  have hn0 := hn0 (hD 7 (by decide))
  change Own wz (w.heap.size) 48 cs0 at ho0
  change cs0 = #[.slice A1 m.t.bs.length c1, .slice A2 m.t.fs.length c2, .slice A3 m.c.ls.length c3, .int .i64 m.c.hand, .int .i64 m.g.count, .int .i64 m.g.next, .int .i64 m.g.round, .slice A4 m.g.os.length c4, .int .i64 m.sp] at hn0
  subst hn0
  obtain ⟨cs1, ho1, _, hn1⟩ := hC.st (sbK 8 (w.heap.size + 1)) (List.mem_cons_of_mem _ List.mem_cons_self)
  have hn1 := hn1 (hD 8 (by decide))
  change Own wz (w.heap.size + 1) 61 cs1 at ho1
  obtain ⟨ka, kb, rfl, hka, hkb⟩ := hn1
  simp only [fillA, Act.put, sA9, sB9, sC9]
  have HBL := Hd hC.bl
  have HMM := Hd hC.mm
  clear hd hD 
  obtain ⟨p0t, p1t, p2t, p3t, p4t, p5t, p6t, p7t, p8t⟩ := cells9 ho0
  have k0 := ho1.cell_ 0 (v := .int .i64 ka) rfl
  have k1 := ho1.cell_ 1 (v := .int .i64 kb) rfl
  clear ho0 ho1 hn0 hn1 hC
  go_wp2
  refine bodyPost_ret (v := .tuple #[.agg #[.slice A1 m.t.bs.length c1, .slice A2 m.t.fs.length c2, .slice A3 m.c.ls.length c3, .int .i64 m.c.hand, .int .i64 m.g.count, .int .i64 m.g.next, .int .i64 m.g.round, .slice A4 m.g.os.length c4, .int .i64 m.sp], .agg #[.int .i64 ka, .int .i64 kb]]) (by simp [results, Tryz.results103, go_sem, p0t, p1t, p2t, p3t, p4t, p5t, p6t, p7t, p8t, k0, k1]) rfl ⟨_, rfl, m, _, _, _, _, ka, kb, rfl, HMM.out, HZ.out, hka, hkb, HBL.out⟩
 ·have hki : (((kys m.t).length : Int) == 0) = false := by rw [beq_eq_false_iff_ne]; omega
  go_wp2_with fail
  refine (pick_any w.heap.size g 0 6 w4 HR4.out (by omega) (by omega)).mono ?_
  rintro e w5 ⟨z, rfl, hz0, hz1, hrd, hgr⟩
  have HN5 := Hd (own_gr HN4.out hgr (by omega))
  have HK5 := Hd (own_gr HK4.out hgr (by omega))
  have HX5 := Hd (own_gr HX4.out hgr (by omega))
  have HM5 := Hd (HM4.out.gr HR4.out hgr)
  have HB5 := Hd (bG HB4.out hgr (by intro k hk; injection hk with hk; omega))
  have HR5 := Hd hrd
  have HO5 := Hd (ownsRow_gr HO4.out HR4.out hgr (by decide))
  clear HN4 HK4 HX4 HM4 HB4 HR4 HO4 hrd hgr hz0 hz1
  cases hz6 : (z == 0) with
  | true =>
   clear HO5
   go_wp2
   have hst : GStat chg [2, 5] [(mb, 48, #[.slice A1 m.t.bs.length c1, .slice A2 m.t.fs.length c2, .slice A3 m.c.ls.length c3, .int .i64 m.c.hand, .int .i64 m.g.count, .int .i64 m.g.next, .int .i64 m.g.round, .slice A4 m.g.os.length c4, .int .i64 m.sp])] (fun v => MaM w.heap.size v (.slice A1 m.t.bs.length c1) (.slice A2 m.t.fs.length c2) (.slice A3 m.c.ls.length c3) (.slice A4 m.g.os.length c4) m) [sbE 7 (w.heap.size) 48 #[.slice none 0 0, .slice none 0 0, .slice none 0 0, .int .i64 0, .int .i64 0, .int .i64 0, .int .i64 0, .slice none 0 0, .int .i64 0] #[.slice A1 m.t.bs.length c1, .slice A2 m.t.fs.length c2, .slice A3 m.c.ls.length c3, .int .i64 m.c.hand, .int .i64 m.g.count, .int .i64 m.g.next, .int .i64 m.g.round, .slice A4 m.g.os.length c4, .int .i64 m.sp], sbK 8 (w.heap.size + 1)] := by
    refine gstat_two (by decide) ?_ (fun _ _ ho h => h.chg ho) (show w.heap.size ≠ w.heap.size + 1 by omega) (show (7 : Nat) ≠ 8 by decide) (show 48 ≠ 172 by decide) (show 61 ≠ 172 by decide) sbE_keep (fun _ _ _ _ h => h)
    ·intro f hf
     simp only [List.mem_cons, List.not_mem_nil, or_false] at hf
     subst hf
     ·exact ⟨show 48 ≠ 172 by decide, show w.heap.size ≠ mb by omega, show w.heap.size + 1 ≠ mb by omega⟩
   refine wp_region_rel4 (by kernel_rfl) [22, 23, 24, 25, 26, 27, 28] [[22], [23], [24], [25], [26], [27], [28], [], []] (GC (w.heap.size) w [(g, 1)] [2, 5] [(mb, 48, #[.slice A1 m.t.bs.length c1, .slice A2 m.t.fs.length c2, .slice A3 m.c.ls.length c3, .int .i64 m.c.hand, .int .i64 m.g.count, .int .i64 m.g.next, .int .i64 m.g.round, .slice A4 m.g.os.length c4, .int .i64 m.sp])] (fun v => MaM w.heap.size v (.slice A1 m.t.bs.length c1) (.slice A2 m.t.fs.length c2) (.slice A3 m.c.ls.length c3) (.slice A4 m.g.os.length c4) m) [sbE 7 (w.heap.size) 48 #[.slice none 0 0, .slice none 0 0, .slice none 0 0, .int .i64 0, .int .i64 0, .int .i64 0, .int .i64 0, .slice none 0 0, .int .i64 0] #[.slice A1 m.t.bs.length c1, .slice A2 m.t.fs.length c2, .slice A3 m.c.ls.length c3, .int .i64 m.c.hand, .int .i64 m.g.count, .int .i64 m.g.next, .int .i64 m.g.round, .slice A4 m.g.os.length c4, .int .i64 m.sp], sbK 8 (w.heap.size + 1)]) (kgs (q := chg) (B := w.heap.size) (nums := [2, 5]) (S := [sbE 7 (w.heap.size) 48 #[.slice none 0 0, .slice none 0 0, .slice none 0 0, .int .i64 0, .int .i64 0, .int .i64 0, .int .i64 0, .slice none 0 0, .int .i64 0] #[.slice A1 m.t.bs.length c1, .slice A2 m.t.fs.length c2, .slice A3 m.c.ls.length c3, .int .i64 m.c.hand, .int .i64 m.g.count, .int .i64 m.g.next, .int .i64 m.g.round, .slice A4 m.g.os.length c4, .int .i64 m.sp], sbK 8 (w.heap.size + 1)]) [KG.eq 22 (.agg #[.slice A1 m.t.bs.length c1, .slice A2 m.t.fs.length c2, .slice A3 m.c.ls.length c3, .int .i64 m.c.hand, .int .i64 m.g.count, .int .i64 m.g.next, .int .i64 m.g.round, .slice A4 m.g.os.length c4, .int .i64 m.sp]), KG.eq 23 (.pointer (some ⟨g, 0, none⟩)), KG.sat 24 (isPk (3)), KG.eq 25 (.pointer (some ⟨g, 0, none⟩)), KG.lit chg_int 26 #[.int .i64 1, .int .i64 255, .int .i64 127, .int .i64 256] 4, KG.sat 27 (isIn [1, 255, 127, 256]), KG.sat 28 isKy, KG.no, KG.no]) (gtt chg (w.heap.size) [2, 5] [sbE 7 (w.heap.size) 48 #[.slice none 0 0, .slice none 0 0, .slice none 0 0, .int .i64 0, .int .i64 0, .int .i64 0, .int .i64 0, .slice none 0 0, .int .i64 0] #[.slice A1 m.t.bs.length c1, .slice A2 m.t.fs.length c2, .slice A3 m.c.ls.length c3, .int .i64 m.c.hand, .int .i64 m.g.count, .int .i64 m.g.next, .int .i64 m.g.round, .slice A4 m.g.os.length c4, .int .i64 m.sp], sbK 8 (w.heap.size + 1)]) (by kernel_rfl) ?_ (kgs_loc (q := chg) (B := w.heap.size) (nums := [2, 5]) (S := [sbE 7 (w.heap.size) 48 #[.slice none 0 0, .slice none 0 0, .slice none 0 0, .int .i64 0, .int .i64 0, .int .i64 0, .int .i64 0, .slice none 0 0, .int .i64 0] #[.slice A1 m.t.bs.length c1, .slice A2 m.t.fs.length c2, .slice A3 m.c.ls.length c3, .int .i64 m.c.hand, .int .i64 m.g.count, .int .i64 m.g.next, .int .i64 m.g.round, .slice A4 m.g.os.length c4, .int .i64 m.sp], sbK 8 (w.heap.size + 1)]) (ks := [KG.eq 22 (.agg #[.slice A1 m.t.bs.length c1, .slice A2 m.t.fs.length c2, .slice A3 m.c.ls.length c3, .int .i64 m.c.hand, .int .i64 m.g.count, .int .i64 m.g.next, .int .i64 m.g.round, .slice A4 m.g.os.length c4, .int .i64 m.sp]), KG.eq 23 (.pointer (some ⟨g, 0, none⟩)), KG.sat 24 (isPk (3)), KG.eq 25 (.pointer (some ⟨g, 0, none⟩)), KG.lit chg_int 26 #[.int .i64 1, .int .i64 255, .int .i64 127, .int .i64 256] 4, KG.sat 27 (isIn [1, 255, 127, 256]), KG.sat 28 isKy, KG.no, KG.no])) kgs_keep ?_ ?_
   ·exact ⟨bD HB5.out, (by intro e he; simp only [List.mem_cons, List.not_mem_nil, or_false] at he; subst he; exact ⟨_, Nat.le_add_right _ _, rdr_below HR5.out (bD bR)⟩), (by intro e he; simp only [List.mem_cons, List.not_mem_nil, or_false] at he; subst he; exact HX5.out.drew), (HM5.out.now (bD bR)), (by intro e he; simp only [List.mem_cons, List.not_mem_nil, or_false] at he; rcases he with rfl | rfl; exact ⟨_, HN5.out.drew, fun _ => rfl, fun h => absurd h (by decide)⟩; exact ⟨_, HK5.out.drew, fun _ => rfl, fun h => absurd h (by decide)⟩)⟩
   ·intro i o ho D x v hD hC hd K hK
    match i, ho with
    | 0, ho =>
     cases ho
     simp only [fillA, Act.put, sA9, sB9, sC9] at hK ⊢
     have hx : Own v (mb) 48 #[.slice A1 m.t.bs.length c1, .slice A2 m.t.fs.length c2, .slice A3 m.c.ls.length c3, .int .i64 m.c.hand, .int .i64 m.g.count, .int .i64 m.g.next, .int .i64 m.g.round, .slice A4 m.g.os.length c4, .int .i64 m.sp] := hC.ob _ List.mem_cons_self
     obtain ⟨z0, z1, z2, z3, z4, z5, z6, z7, z8⟩ := cells9 hx
     go_simp
     exact hK _ _ GT.same (hC.step hst hD GT.same rfl) rfl
    | 1, ho =>
     cases ho
     simp only [fillA, Act.put, sA9, sB9, sC9] at hK ⊢
     go_simp
     exact hK _ _ GT.same (hC.step hst hD GT.same rfl) rfl
    | 2, ho =>
     cases ho
     simp only [fillA, Act.put, sA9, sB9, sC9] at hK ⊢
     have d0 := hd 1 ⟨⟨1, .data⟩, by simp, rfl, rfl⟩
     change x 23 = .pointer (some ⟨g, 0, none⟩) at d0
     simp only [d0] at hK ⊢
     obtain ⟨p', hp'', hrd⟩ := hC.rd (g, 1) List.mem_cons_self
     have hp' : p' ≤ 1 + 1000 * cn D [2, 5] := hp''
     have hcn : cn D [2, 5] ≤ 2 := cn_le D _
     go_wp2_with fail
     refine (pick_any w.heap.size g p' (3) v hrd (by omega) (by omega)).mono ?_
     rintro e v' ⟨z, rfl, hz0, hz1, hrd', hgr⟩
     go_simp
     exact hK _ _ (GT.read chg_rd hrd hrd' (by omega) hgr) (hC.step hst hD (GT.read chg_rd hrd hrd' (by omega) hgr) rfl) ⟨z, rfl, hz0, hz1⟩
    | 3, ho =>
     cases ho
     simp only [fillA, Act.put, sA9, sB9, sC9] at hK ⊢
     go_simp
     exact hK _ _ GT.same (hC.step hst hD GT.same rfl) rfl
    | 4, ho =>
     cases ho
     simp only [fillA, Act.put, sA9, sB9, sC9] at hK ⊢
     go_simp
     exact hK _ _ (GT.below (bA bR) hC.bl.size) (hC.step hst hD (GT.below (bA bR) hC.bl.size) rfl) ⟨_, rfl, Own.new_ _ _ _⟩
    | 5, ho =>
     cases ho
     simp only [fillA, Act.put, sA9, sB9, sC9] at hK ⊢
     have d0 := hd 3 ⟨⟨3, .data⟩, by simp, rfl, rfl⟩
     change x 25 = .pointer (some ⟨g, 0, none⟩) at d0
     have d1 := hd 4 ⟨⟨4, .data⟩, by simp, rfl, rfl⟩
     obtain ⟨gd1, d1, od1⟩ := d1
     change x 26 = .slice (some ⟨gd1, 0, none⟩) 4 4 at d1
     simp only [d0, d1] at hK ⊢
     obtain ⟨p', hp'', hrd⟩ := hC.rd (g, 1) List.mem_cons_self
     have hp' : p' ≤ 1 + 1000 * cn D [2, 5] := hp''
     have hcn : cn D [2, 5] ≤ 2 := cn_le D _
     obtain ⟨Ar, nr, cr, hor, _⟩ := hrd.ok
     go_wp2_with fail
     refine (num_any w.heap.size g p' gd1 [1, 255, 127, 256] v hrd od1 (od1.ne hor (by decide)) (by omega) (by simp) (by simp)).mono ?_
     rintro e v' ⟨z, rfl, hz, hrd', hgr⟩
     go_simp
     exact hK _ _ (GT.read chg_rd hrd hrd' (by omega) hgr) (hC.step hst hD (GT.read chg_rd hrd hrd' (by omega) hgr) rfl) ⟨z, rfl, hz⟩
    | 6, ho =>
     cases ho
     simp only [fillA, Act.put, sA9, sB9, sC9] at hK ⊢
     have d0 := hd 2 ⟨⟨2, .data⟩, by simp, rfl, rfl⟩
     obtain ⟨nd0, d0, hd0⟩ := d0
     change x 24 = .int .i64 nd0 at d0
     have d1 := hd 5 ⟨⟨5, .data⟩, by simp, rfl, rfl⟩
     obtain ⟨nd1, d1, hd1⟩ := d1
     change x 27 = .int .i64 nd1 at d1
     simp only [d0, d1] at hK ⊢
     go_simp
     exact hK _ _ GT.same (hC.step hst hD GT.same rfl) ⟨_, _, rfl, (by have := hd0.1; have := hd0.2 (by decide); unfold small; omega), (isIn_small (by decide) hd1)⟩
    | 7, ho =>
     cases ho
     simp only [fillA, Act.put, sA9, sB9, sC9] at hK ⊢
     have d0 := hd 0 ⟨⟨0, .data⟩, by simp, rfl, rfl⟩
     change x 22 = .agg #[.slice A1 m.t.bs.length c1, .slice A2 m.t.fs.length c2, .slice A3 m.c.ls.length c3, .int .i64 m.c.hand, .int .i64 m.g.count, .int .i64 m.g.next, .int .i64 m.g.round, .slice A4 m.g.os.length c4, .int .i64 m.sp] at d0
     obtain ⟨cs, hob, hold, _⟩ := hC.st (sbE 7 (w.heap.size) 48 #[.slice none 0 0, .slice none 0 0, .slice none 0 0, .int .i64 0, .int .i64 0, .int .i64 0, .int .i64 0, .slice none 0 0, .int .i64 0] #[.slice A1 m.t.bs.length c1, .slice A2 m.t.fs.length c2, .slice A3 m.c.ls.length c3, .int .i64 m.c.hand, .int .i64 m.g.count, .int .i64 m.g.next, .int .i64 m.g.round, .slice A4 m.g.os.length c4, .int .i64 m.sp]) List.mem_cons_self
     obtain rfl := hold hD
     change Own v (w.heap.size) 48 #[.slice none 0 0, .slice none 0 0, .slice none 0 0, .int .i64 0, .int .i64 0, .int .i64 0, .int .i64 0, .slice none 0 0, .int .i64 0] at hob
     obtain ⟨r0x, r1x, r2x, r3x, r4x, r5x, r6x, r7x, r8x⟩ := cells9 hob
     obtain ⟨z0x, z1x, z2x, z3x, z4x, z5x, z6x, z7x, z8x⟩ := free9 hob
     have hlo := hob.lt
     simp only [d0] at hK ⊢
     go_simp
     refine hK undef _ ?_ ?_ trivial
     ·exact GT.set9 hob chg_ma (by decide) (by omega) _ _ _ _ _ _ _ _ _
     ·exact hC.store (e0 := sbE 7 (w.heap.size) 48 #[.slice none 0 0, .slice none 0 0, .slice none 0 0, .int .i64 0, .int .i64 0, .int .i64 0, .int .i64 0, .slice none 0 0, .int .i64 0] #[.slice A1 m.t.bs.length c1, .slice A2 m.t.fs.length c2, .slice A3 m.c.ls.length c3, .int .i64 m.c.hand, .int .i64 m.g.count, .int .i64 m.g.next, .int .i64 m.g.round, .slice A4 m.g.os.length c4, .int .i64 m.sp]) hst hD (GT.set9 hob chg_ma (by decide) (by omega) _ _ _ _ _ _ _ _ _) List.mem_cons_self rfl (hob.set9 _ _ _ _ _ _ _ _ _) rfl
    | 8, ho =>
     cases ho
     simp only [fillA, Act.put, sA9, sB9, sC9] at hK ⊢
     have d0 := hd 6 ⟨⟨6, .data⟩, by simp, rfl, rfl⟩
     obtain ⟨ad0, bd0, d0, had0, hbd0⟩ := d0
     change x 28 = .agg #[.int .i64 ad0, .int .i64 bd0] at d0
     obtain ⟨cs, hob, hold, _⟩ := hC.st (sbK 8 (w.heap.size + 1)) (List.mem_cons_of_mem _ List.mem_cons_self)
     obtain rfl := hold hD
     change Own v (w.heap.size + 1) 61 #[.int .i64 0, .int .i64 0] at hob
     have z0 := hob.cell_ 0 (v := .int .i64 0) rfl
     have z1 := hob.cell_ 1 (v := .int .i64 0) rfl
     have y0 := hob.free 0
     have y1 := hob.free 1
     have hlo := hob.lt
     simp only [d0] at hK ⊢
     go_simp
     refine hK undef _ ?_ ?_ trivial
     ·exact GT.set2 hob chg_ky (by decide) (by omega) _ _
     ·exact hC.store (e0 := sbK 8 (w.heap.size + 1)) hst hD (GT.set2 hob chg_ky (by decide) (by omega) _ _) (List.mem_cons_of_mem _ List.mem_cons_self) rfl (by simpa using (hob.set_ 0 _).set_ 1 _) ⟨_, _, rfl, had0, hbd0⟩
    | _ + 9, ho => simp at ho
   intro D xa wz hD hC hd
   obtain ⟨cs0, ho0, _, hn0⟩ := hC.st (sbE 7 (w.heap.size) 48 #[.slice none 0 0, .slice none 0 0, .slice none 0 0, .int .i64 0, .int .i64 0, .int .i64 0, .int .i64 0, .slice none 0 0, .int .i64 0] #[.slice A1 m.t.bs.length c1, .slice A2 m.t.fs.length c2, .slice A3 m.c.ls.length c3, .int .i64 m.c.hand, .int .i64 m.g.count, .int .i64 m.g.next, .int .i64 m.g.round, .slice A4 m.g.os.length c4, .int .i64 m.sp]) List.mem_cons_self
   have hn0 := hn0 (hD 7 (by decide))
   change Own wz (w.heap.size) 48 cs0 at ho0
   change cs0 = #[.slice A1 m.t.bs.length c1, .slice A2 m.t.fs.length c2, .slice A3 m.c.ls.length c3, .int .i64 m.c.hand, .int .i64 m.g.count, .int .i64 m.g.next, .int .i64 m.g.round, .slice A4 m.g.os.length c4, .int .i64 m.sp] at hn0
   subst hn0
   obtain ⟨cs1, ho1, _, hn1⟩ := hC.st (sbK 8 (w.heap.size + 1)) (List.mem_cons_of_mem _ List.mem_cons_self)
   have hn1 := hn1 (hD 8 (by decide))
   change Own wz (w.heap.size + 1) 61 cs1 at ho1
   obtain ⟨ka, kb, rfl, hka, hkb⟩ := hn1
   simp only [fillA, Act.put, sA9, sB9, sC9]
   have HBL := Hd hC.bl
   have HMM := Hd hC.mm
   clear hd hD 
   obtain ⟨p0t, p1t, p2t, p3t, p4t, p5t, p6t, p7t, p8t⟩ := cells9 ho0
   have k0 := ho1.cell_ 0 (v := .int .i64 ka) rfl
   have k1 := ho1.cell_ 1 (v := .int .i64 kb) rfl
   clear ho0 ho1 hn0 hn1 hC
   go_wp2
   refine bodyPost_ret (v := .tuple #[.agg #[.slice A1 m.t.bs.length c1, .slice A2 m.t.fs.length c2, .slice A3 m.c.ls.length c3, .int .i64 m.c.hand, .int .i64 m.g.count, .int .i64 m.g.next, .int .i64 m.g.round, .slice A4 m.g.os.length c4, .int .i64 m.sp], .agg #[.int .i64 ka, .int .i64 kb]]) (by simp [results, Tryz.results103, go_sem, p0t, p1t, p2t, p3t, p4t, p5t, p6t, p7t, p8t, k0, k1]) rfl ⟨_, rfl, m, _, _, _, _, ka, kb, rfl, HMM.out, HZ.out, hka, hkb, HBL.out⟩
  | false =>
   obtain ⟨g8, c8', e8⟩ : ∃ g c', (Value.slice A8 (kys m.t).length c8) = .slice (some ⟨g, 0, none⟩) (kys m.t).length c' := by
    rcases HO5.out.2 with ⟨e, h0⟩ | ⟨g, cap, cur, e, _⟩
    ·omega
    ·exact ⟨g, cap, e⟩
   injection e8 with e81 e82 e83
   subst e81 e83
   obtain ⟨hg8, cur, hcu, hrw⟩ := row_own HO5.out
   have HRO := Hd hcu
   have HRW := Hd hrw
   clear hcu hrw HO5
   go_wp2
   have hst : GStat chg [5] [(mb, 48, #[.slice A1 m.t.bs.length c1, .slice A2 m.t.fs.length c2, .slice A3 m.c.ls.length c3, .int .i64 m.c.hand, .int .i64 m.g.count, .int .i64 m.g.next, .int .i64 m.g.round, .slice A4 m.g.os.length c4, .int .i64 m.sp]), (g8, 61, cur)] (fun v => MaM w.heap.size v (.slice A1 m.t.bs.length c1) (.slice A2 m.t.fs.length c2) (.slice A3 m.c.ls.length c3) (.slice A4 m.g.os.length c4) m) [sbE 8 (w.heap.size) 48 #[.slice none 0 0, .slice none 0 0, .slice none 0 0, .int .i64 0, .int .i64 0, .int .i64 0, .int .i64 0, .slice none 0 0, .int .i64 0] #[.slice A1 m.t.bs.length c1, .slice A2 m.t.fs.length c2, .slice A3 m.c.ls.length c3, .int .i64 m.c.hand, .int .i64 m.g.count, .int .i64 m.g.next, .int .i64 m.g.round, .slice A4 m.g.os.length c4, .int .i64 m.sp], sbK 9 (w.heap.size + 1)] := by
    refine gstat_two (by decide) ?_ (fun _ _ ho h => h.chg ho) (show w.heap.size ≠ w.heap.size + 1 by omega) (show (8 : Nat) ≠ 9 by decide) (show 48 ≠ 172 by decide) (show 61 ≠ 172 by decide) sbE_keep (fun _ _ _ _ h => h)
    ·intro f hf
     simp only [List.mem_cons, List.not_mem_nil, or_false] at hf
     rcases hf with rfl | rfl
     ·exact ⟨show 48 ≠ 172 by decide, show w.heap.size ≠ mb by omega, show w.heap.size + 1 ≠ mb by omega⟩
     ·exact ⟨show 61 ≠ 172 by decide, show w.heap.size ≠ g8 by omega, show w.heap.size + 1 ≠ g8 by omega⟩
   refine wp_region_rel4 (by kernel_rfl) [29, 30, 31, 32, 33, 34, 35, 36] [[29], [30], [31], [32], [33], [34], [35], [36], [], []] (GC (w.heap.size) w [(g, 1)] [5] [(mb, 48, #[.slice A1 m.t.bs.length c1, .slice A2 m.t.fs.length c2, .slice A3 m.c.ls.length c3, .int .i64 m.c.hand, .int .i64 m.g.count, .int .i64 m.g.next, .int .i64 m.g.round, .slice A4 m.g.os.length c4, .int .i64 m.sp]), (g8, 61, cur)] (fun v => MaM w.heap.size v (.slice A1 m.t.bs.length c1) (.slice A2 m.t.fs.length c2) (.slice A3 m.c.ls.length c3) (.slice A4 m.g.os.length c4) m) [sbE 8 (w.heap.size) 48 #[.slice none 0 0, .slice none 0 0, .slice none 0 0, .int .i64 0, .int .i64 0, .int .i64 0, .int .i64 0, .slice none 0 0, .int .i64 0] #[.slice A1 m.t.bs.length c1, .slice A2 m.t.fs.length c2, .slice A3 m.c.ls.length c3, .int .i64 m.c.hand, .int .i64 m.g.count, .int .i64 m.g.next, .int .i64 m.g.round, .slice A4 m.g.os.length c4, .int .i64 m.sp], sbK 9 (w.heap.size + 1)]) (kgs (q := chg) (B := w.heap.size) (nums := [5]) (S := [sbE 8 (w.heap.size) 48 #[.slice none 0 0, .slice none 0 0, .slice none 0 0, .int .i64 0, .int .i64 0, .int .i64 0, .int .i64 0, .slice none 0 0, .int .i64 0] #[.slice A1 m.t.bs.length c1, .slice A2 m.t.fs.length c2, .slice A3 m.c.ls.length c3, .int .i64 m.c.hand, .int .i64 m.g.count, .int .i64 m.g.next, .int .i64 m.g.round, .slice A4 m.g.os.length c4, .int .i64 m.sp], sbK 9 (w.heap.size + 1)]) [KG.eq 29 (.agg #[.slice A1 m.t.bs.length c1, .slice A2 m.t.fs.length c2, .slice A3 m.c.ls.length c3, .int .i64 m.c.hand, .int .i64 m.g.count, .int .i64 m.g.next, .int .i64 m.g.round, .slice A4 m.g.os.length c4, .int .i64 m.sp]), KG.eq 30 (.slice (some ⟨g8, 0, none⟩) (kys m.t).length c8), KG.eq 31 (.pointer (some ⟨g, 0, none⟩)), KG.eq 32 (.slice (some ⟨g8, 0, none⟩) (kys m.t).length c8), KG.eq 33 (.int .i64 ((kys m.t).length : Int)), KG.sat 34 (isPk (((kys m.t).length : Int))), KG.sat 35 (isKp g8 (kys m.t).length), KG.sat 36 isKy, KG.no, KG.no]) (gtt chg (w.heap.size) [5] [sbE 8 (w.heap.size) 48 #[.slice none 0 0, .slice none 0 0, .slice none 0 0, .int .i64 0, .int .i64 0, .int .i64 0, .int .i64 0, .slice none 0 0, .int .i64 0] #[.slice A1 m.t.bs.length c1, .slice A2 m.t.fs.length c2, .slice A3 m.c.ls.length c3, .int .i64 m.c.hand, .int .i64 m.g.count, .int .i64 m.g.next, .int .i64 m.g.round, .slice A4 m.g.os.length c4, .int .i64 m.sp], sbK 9 (w.heap.size + 1)]) (by kernel_rfl) ?_ (kgs_loc (q := chg) (B := w.heap.size) (nums := [5]) (S := [sbE 8 (w.heap.size) 48 #[.slice none 0 0, .slice none 0 0, .slice none 0 0, .int .i64 0, .int .i64 0, .int .i64 0, .int .i64 0, .slice none 0 0, .int .i64 0] #[.slice A1 m.t.bs.length c1, .slice A2 m.t.fs.length c2, .slice A3 m.c.ls.length c3, .int .i64 m.c.hand, .int .i64 m.g.count, .int .i64 m.g.next, .int .i64 m.g.round, .slice A4 m.g.os.length c4, .int .i64 m.sp], sbK 9 (w.heap.size + 1)]) (ks := [KG.eq 29 (.agg #[.slice A1 m.t.bs.length c1, .slice A2 m.t.fs.length c2, .slice A3 m.c.ls.length c3, .int .i64 m.c.hand, .int .i64 m.g.count, .int .i64 m.g.next, .int .i64 m.g.round, .slice A4 m.g.os.length c4, .int .i64 m.sp]), KG.eq 30 (.slice (some ⟨g8, 0, none⟩) (kys m.t).length c8), KG.eq 31 (.pointer (some ⟨g, 0, none⟩)), KG.eq 32 (.slice (some ⟨g8, 0, none⟩) (kys m.t).length c8), KG.eq 33 (.int .i64 ((kys m.t).length : Int)), KG.sat 34 (isPk (((kys m.t).length : Int))), KG.sat 35 (isKp g8 (kys m.t).length), KG.sat 36 isKy, KG.no, KG.no])) kgs_keep ?_ ?_
   ·exact ⟨bD HB5.out, (by intro e he; simp only [List.mem_cons, List.not_mem_nil, or_false] at he; subst he; exact ⟨_, Nat.le_add_right _ _, rdr_below HR5.out (bD bR)⟩), (by intro e he; simp only [List.mem_cons, List.not_mem_nil, or_false] at he; rcases he with rfl | rfl; exact HX5.out.drew; exact HRO.out.drew), (HM5.out.now (bD bR)), (by intro e he; simp only [List.mem_cons, List.not_mem_nil, or_false] at he; rcases he with rfl | rfl; exact ⟨_, HN5.out.drew, fun _ => rfl, fun h => absurd h (by decide)⟩; exact ⟨_, HK5.out.drew, fun _ => rfl, fun h => absurd h (by decide)⟩)⟩
   ·intro i o ho D x v hD hC hd K hK
    match i, ho with
    | 0, ho =>
     cases ho
     simp only [fillA, Act.put, sA9, sB9, sC9] at hK ⊢
     have hx : Own v (mb) 48 #[.slice A1 m.t.bs.length c1, .slice A2 m.t.fs.length c2, .slice A3 m.c.ls.length c3, .int .i64 m.c.hand, .int .i64 m.g.count, .int .i64 m.g.next, .int .i64 m.g.round, .slice A4 m.g.os.length c4, .int .i64 m.sp] := hC.ob _ List.mem_cons_self
     obtain ⟨z0, z1, z2, z3, z4, z5, z6, z7, z8⟩ := cells9 hx
     go_simp
     exact hK _ _ GT.same (hC.step hst hD GT.same rfl) rfl
    | 1, ho =>
     cases ho
     simp only [fillA, Act.put, sA9, sB9, sC9] at hK ⊢
     go_simp
     exact hK _ _ GT.same (hC.step hst hD GT.same rfl) rfl
    | 2, ho =>
     cases ho
     simp only [fillA, Act.put, sA9, sB9, sC9] at hK ⊢
     go_simp
     exact hK _ _ GT.same (hC.step hst hD GT.same rfl) rfl
    | 3, ho =>
     cases ho
     simp only [fillA, Act.put, sA9, sB9, sC9] at hK ⊢
     go_simp
     exact hK _ _ GT.same (hC.step hst hD GT.same rfl) rfl
    | 4, ho =>
     cases ho
     simp only [fillA, Act.put, sA9, sB9, sC9] at hK ⊢
     have d0 := hd 3 ⟨⟨3, .data⟩, by simp, rfl, rfl⟩
     change x 32 = .slice (some ⟨g8, 0, none⟩) (kys m.t).length c8 at d0
     simp only [d0] at hK ⊢
     go_simp
     exact hK _ _ GT.same (hC.step hst hD GT.same rfl) rfl
    | 5, ho =>
     cases ho
     simp only [fillA, Act.put, sA9, sB9, sC9] at hK ⊢
     have d0 := hd 2 ⟨⟨2, .data⟩, by simp, rfl, rfl⟩
     change x 31 = .pointer (some ⟨g, 0, none⟩) at d0
     have d1 := hd 4 ⟨⟨4, .data⟩, by simp, rfl, rfl⟩
     change x 33 = .int .i64 ((kys m.t).length : Int) at d1
     simp only [d0, d1] at hK ⊢
     obtain ⟨p', hp'', hrd⟩ := hC.rd (g, 1) List.mem_cons_self
     have hp' : p' ≤ 1 + 1000 * cn D [5] := hp''
     have hcn : cn D [5] ≤ 1 := cn_le D _
     go_wp2_with fail
     refine (pick_any w.heap.size g p' (((kys m.t).length : Int)) v hrd (by omega) (by omega)).mono ?_
     rintro e v' ⟨z, rfl, hz0, hz1, hrd', hgr⟩
     go_simp
     exact hK _ _ (GT.read chg_rd hrd hrd' (by omega) hgr) (hC.step hst hD (GT.read chg_rd hrd hrd' (by omega) hgr) rfl) ⟨z, rfl, hz0, hz1⟩
    | 6, ho =>
     cases ho
     simp only [fillA, Act.put, sA9, sB9, sC9] at hK ⊢
     have d0 := hd 1 ⟨⟨1, .data⟩, by simp, rfl, rfl⟩
     change x 30 = .slice (some ⟨g8, 0, none⟩) (kys m.t).length c8 at d0
     have d1 := hd 5 ⟨⟨5, .data⟩, by simp, rfl, rfl⟩
     obtain ⟨nd1, d1, hd10, hd11⟩ := d1
     change x 34 = .int .i64 nd1 at d1
     obtain ⟨k, rfl⟩ := Int.eq_ofNat_of_zero_le hd10
     have hkl : k < (kys m.t).length := by have := hd11 (by omega); omega
     simp only [d0, d1] at hK ⊢
     go_simp
     exact hK _ _ GT.same (hC.step hst hD GT.same rfl) ⟨k, rfl, hkl⟩
    | 7, ho =>
     cases ho
     simp only [fillA, Act.put, sA9, sB9, sC9] at hK ⊢
     have d0 := hd 6 ⟨⟨6, .data⟩, by simp, rfl, rfl⟩
     obtain ⟨k, d0, hkl⟩ := d0
     change x 35 = .pointer (some ⟨g8, k * 2, none⟩) at d0
     have hx : Own v g8 61 cur := hC.ob _ (List.mem_cons_of_mem _ List.mem_cons_self)
     obtain ⟨a0, a1, a2, a3, a4⟩ := own_keyat (HRW.out v hx) rfl hkl
     have hok := kys_small hkl
     simp only [d0] at hK ⊢
     go_simp
     exact hK _ _ GT.same (hC.step hst hD GT.same rfl) ⟨_, _, rfl, hok.1, hok.2⟩
    | 8, ho =>
     cases ho
     simp only [fillA, Act.put, sA9, sB9, sC9] at hK ⊢
     have d0 := hd 0 ⟨⟨0, .data⟩, by simp, rfl, rfl⟩
     change x 29 = .agg #[.slice A1 m.t.bs.length c1, .slice A2 m.t.fs.length c2, .slice A3 m.c.ls.length c3, .int .i64 m.c.hand, .int .i64 m.g.count, .int .i64 m.g.next, .int .i64 m.g.round, .slice A4 m.g.os.length c4, .int .i64 m.sp] at d0
     obtain ⟨cs, hob, hold, _⟩ := hC.st (sbE 8 (w.heap.size) 48 #[.slice none 0 0, .slice none 0 0, .slice none 0 0, .int .i64 0, .int .i64 0, .int .i64 0, .int .i64 0, .slice none 0 0, .int .i64 0] #[.slice A1 m.t.bs.length c1, .slice A2 m.t.fs.length c2, .slice A3 m.c.ls.length c3, .int .i64 m.c.hand, .int .i64 m.g.count, .int .i64 m.g.next, .int .i64 m.g.round, .slice A4 m.g.os.length c4, .int .i64 m.sp]) List.mem_cons_self
     obtain rfl := hold hD
     change Own v (w.heap.size) 48 #[.slice none 0 0, .slice none 0 0, .slice none 0 0, .int .i64 0, .int .i64 0, .int .i64 0, .int .i64 0, .slice none 0 0, .int .i64 0] at hob
     obtain ⟨r0x, r1x, r2x, r3x, r4x, r5x, r6x, r7x, r8x⟩ := cells9 hob
     obtain ⟨z0x, z1x, z2x, z3x, z4x, z5x, z6x, z7x, z8x⟩ := free9 hob
     have hlo := hob.lt
     simp only [d0] at hK ⊢
     go_simp
     refine hK undef _ ?_ ?_ trivial
     ·exact GT.set9 hob chg_ma (by decide) (by omega) _ _ _ _ _ _ _ _ _
     ·exact hC.store (e0 := sbE 8 (w.heap.size) 48 #[.slice none 0 0, .slice none 0 0, .slice none 0 0, .int .i64 0, .int .i64 0, .int .i64 0, .int .i64 0, .slice none 0 0, .int .i64 0] #[.slice A1 m.t.bs.length c1, .slice A2 m.t.fs.length c2, .slice A3 m.c.ls.length c3, .int .i64 m.c.hand, .int .i64 m.g.count, .int .i64 m.g.next, .int .i64 m.g.round, .slice A4 m.g.os.length c4, .int .i64 m.sp]) hst hD (GT.set9 hob chg_ma (by decide) (by omega) _ _ _ _ _ _ _ _ _) List.mem_cons_self rfl (hob.set9 _ _ _ _ _ _ _ _ _) rfl
    | 9, ho =>
     cases ho
     simp only [fillA, Act.put, sA9, sB9, sC9] at hK ⊢
     have d0 := hd 7 ⟨⟨7, .data⟩, by simp, rfl, rfl⟩
     obtain ⟨ad0, bd0, d0, had0, hbd0⟩ := d0
     change x 36 = .agg #[.int .i64 ad0, .int .i64 bd0] at d0
     obtain ⟨cs, hob, hold, _⟩ := hC.st (sbK 9 (w.heap.size + 1)) (List.mem_cons_of_mem _ List.mem_cons_self)
     obtain rfl := hold hD
     change Own v (w.heap.size + 1) 61 #[.int .i64 0, .int .i64 0] at hob
     have z0 := hob.cell_ 0 (v := .int .i64 0) rfl
     have z1 := hob.cell_ 1 (v := .int .i64 0) rfl
     have y0 := hob.free 0
     have y1 := hob.free 1
     have hlo := hob.lt
     simp only [d0] at hK ⊢
     go_simp
     refine hK undef _ ?_ ?_ trivial
     ·exact GT.set2 hob chg_ky (by decide) (by omega) _ _
     ·exact hC.store (e0 := sbK 9 (w.heap.size + 1)) hst hD (GT.set2 hob chg_ky (by decide) (by omega) _ _) (List.mem_cons_of_mem _ List.mem_cons_self) rfl (by simpa using (hob.set_ 0 _).set_ 1 _) ⟨_, _, rfl, had0, hbd0⟩
    | _ + 10, ho => simp at ho
   intro D xa wz hD hC hd
   obtain ⟨cs0, ho0, _, hn0⟩ := hC.st (sbE 8 (w.heap.size) 48 #[.slice none 0 0, .slice none 0 0, .slice none 0 0, .int .i64 0, .int .i64 0, .int .i64 0, .int .i64 0, .slice none 0 0, .int .i64 0] #[.slice A1 m.t.bs.length c1, .slice A2 m.t.fs.length c2, .slice A3 m.c.ls.length c3, .int .i64 m.c.hand, .int .i64 m.g.count, .int .i64 m.g.next, .int .i64 m.g.round, .slice A4 m.g.os.length c4, .int .i64 m.sp]) List.mem_cons_self
   have hn0 := hn0 (hD 8 (by decide))
   change Own wz (w.heap.size) 48 cs0 at ho0
   change cs0 = #[.slice A1 m.t.bs.length c1, .slice A2 m.t.fs.length c2, .slice A3 m.c.ls.length c3, .int .i64 m.c.hand, .int .i64 m.g.count, .int .i64 m.g.next, .int .i64 m.g.round, .slice A4 m.g.os.length c4, .int .i64 m.sp] at hn0
   subst hn0
   obtain ⟨cs1, ho1, _, hn1⟩ := hC.st (sbK 9 (w.heap.size + 1)) (List.mem_cons_of_mem _ List.mem_cons_self)
   have hn1 := hn1 (hD 9 (by decide))
   change Own wz (w.heap.size + 1) 61 cs1 at ho1
   obtain ⟨ka, kb, rfl, hka, hkb⟩ := hn1
   simp only [fillA, Act.put, sA9, sB9, sC9]
   have HBL := Hd hC.bl
   have HMM := Hd hC.mm
   clear hd hD 
   obtain ⟨p0t, p1t, p2t, p3t, p4t, p5t, p6t, p7t, p8t⟩ := cells9 ho0
   have k0 := ho1.cell_ 0 (v := .int .i64 ka) rfl
   have k1 := ho1.cell_ 1 (v := .int .i64 kb) rfl
   clear ho0 ho1 hn0 hn1 hC
   go_wp2
   refine bodyPost_ret (v := .tuple #[.agg #[.slice A1 m.t.bs.length c1, .slice A2 m.t.fs.length c2, .slice A3 m.c.ls.length c3, .int .i64 m.c.hand, .int .i64 m.g.count, .int .i64 m.g.next, .int .i64 m.g.round, .slice A4 m.g.os.length c4, .int .i64 m.sp], .agg #[.int .i64 ka, .int .i64 kb]]) (by simp [results, Tryz.results103, go_sem, p0t, p1t, p2t, p3t, p4t, p5t, p6t, p7t, p8t, k0, k1]) rfl ⟨_, rfl, m, _, _, _, _, ka, kb, rfl, HMM.out, HZ.out, hka, hkb, HBL.out⟩
end Go.Proofs.YtibpnlojlfcpmaaGreatDoor
