/- A part of the proofs of this seat: Ent2, Gn, K6, LTpD. -/
import Derived.Deep.CutRange
import Derived.Test.YtibpnlojlfcpmaaGreatDoorAVicS
import Derived.Test.YtibpnlojlfcpmaaGreatDoorAGnv1
import Derived.Test.YtibpnlojlfcpmaaGreatDoorAK6
set_option linter.unusedVariables false
set_option linter.unusedSimpArgs false
set_option maxRecDepth 1000000
namespace Go.Proofs.YtibpnlojlfcpmaaGreatDoor
open Go.RowKit
def isMa (B z : Nat) (u : Value) (v : World) : Prop := ∃ (m : Ma) (v1 v2 v3 v4 : Value), u = .agg #[v1, v2, v3, .int .i64 m.c.hand, .int .i64 m.g.count, .int .i64 m.g.next, .int .i64 m.g.round, v4, .int .i64 m.sp] ∧ MaM B v v1 v2 v3 v4 m ∧ Sz z m
theorem isMa_keep {B z : Nat} : ∀ u v v', Oth chg v v' → isMa B z u v → isMa B z u v' := by
 rintro u v v' ho ⟨m, v1, v2, v3, v4, h1, h2, h3⟩
 exact ⟨m, v1, v2, v3, v4, h1, h2.chg ho, h3⟩
abbrev sbM (op box B z : Nat) : SBx := ⟨op, box, 48, #[.slice none 0 0, .slice none 0 0, .slice none 0 0, .int .i64 0, .int .i64 0, .int .i64 0, .int .i64 0, .slice none 0 0, .int .i64 0], fun cs v => ∃ (m : Ma) (v1 v2 v3 v4 : Value), cs = #[v1, v2, v3, .int .i64 m.c.hand, .int .i64 m.g.count, .int .i64 m.g.next, .int .i64 m.g.round, v4, .int .i64 m.sp] ∧ MaM B v v1 v2 v3 v4 m ∧ Sz z m⟩
theorem sbM_keep {B z : Nat} : ∀ (cs : Array Value) (v v' : World), Oth chg v v' → (∃ (m : Ma) (v1 v2 v3 v4 : Value), cs = #[v1, v2, v3, .int .i64 m.c.hand, .int .i64 m.g.count, .int .i64 m.g.next, .int .i64 m.g.round, v4, .int .i64 m.sp] ∧ MaM B v v1 v2 v3 v4 m ∧ Sz z m) → ∃ (m : Ma) (v1 v2 v3 v4 : Value), cs = #[v1, v2, v3, .int .i64 m.c.hand, .int .i64 m.g.count, .int .i64 m.g.next, .int .i64 m.g.round, v4, .int .i64 m.sp] ∧ MaM B v' v1 v2 v3 v4 m ∧ Sz z m := by
 rintro cs v v' ho ⟨m, v1, v2, v3, v4, h1, h2, h3⟩
 exact ⟨m, v1, v2, v3, v4, h1, h2.chg ho, h3⟩
end Go.Proofs.YtibpnlojlfcpmaaGreatDoor
namespace Go.Proofs.YtibpnlojlfcpmaaGreatDoor.lTakePage
open Go.ChangeShapes Go.WideShapes Go.ChangeAt Go.RowKit Go.Joins
set_option maxRecDepth 100000 in
theorem closed : joinedFacts Tryz.prog 9 Tryz.f9 Rows.fnTakePageSpec Rows.fnTakePageRow = true := by
 unfold joinedFacts
 rw [may_enter, lifts_final, make_cut]
 refine Eq.trans ?_ (Eq.refl _)
 kernel_rfl
end Go.Proofs.YtibpnlojlfcpmaaGreatDoor.lTakePage
namespace Go.Proofs.YtibpnlojlfcpmaaGreatDoor
open Go.RowKit
theorem l6Page_in (B g p : Nat) (w : World) (h : Rdr B w g p) (hp : p ≤ 1000000) : Calls Tryz.prog 175 #[.pointer (some ⟨g, 0, none⟩)] w (fun e w' => ∃ z : Int, e = .returned (.int .i64 z) ∧ z ∈ [1, 2, 3, 4, 200, 201, 5] ∧ Rdr B w' g (p + 1) ∧ w.grownBy w' (some g)) := by
 have hl := rdr_lt h
 have HR := Hd (rdr_alloc h (.cells #[.int .i64 1, .int .i64 2, .int .i64 3, .int .i64 4, .int .i64 200, .int .i64 201, .int .i64 5] 3))
 clear h
 go_enter Tryz.func175, Tryz.ntmps175
 go_wp2_with fail
 refine (num_any B g p w.heap.size [1, 2, 3, 4, 200, 201, 5] _ HR.out (Own.new_ w _ _) (by omega) hp (by simp) (by simp)).mono ?_
 rintro e w' ⟨r, rfl, hr, hrd, hg⟩
 have HRD := Hd hrd
 have HG := Hd (gT (gA gR) hg)
 have HIN := Hd hr
 clear hrd hg hr
 go_wp2
 go_ret
 exact ⟨r, rfl, HIN.out, HRD.out, HG.out⟩
theorem keyI_small {s p : Int} (h : small s) : small (keyI s p) := by
 unfold keyI
 unfold small at *
 split <;> omega
set_option maxHeartbeats 4000000 in
theorem l6Key_any (A : Option Addr) (n c : Nat) (w : World) (hb : Bytes w.heap.size w A n) (hc : n ≤ c) (hn : n ≤ 1048576) :
  Calls Tryz.prog 104 #[.slice A n c] w (Post2 fun v w' => KRP w v w') := by
 have ho := (Own.new_ w 48 #[.slice none 0 0, .slice none 0 0, .slice none 0 0, .int .i64 0, .int .i64 0, .int .i64 0, .int .i64 0, .slice none 0 0, .int .i64 0]).alloc (o := .cells #[.int .i64 0, .int .i64 0] 61)
 have hk := ownAt (W := w.alloc (.cells #[.slice none 0 0, .slice none 0 0, .slice none 0 0, .int .i64 0, .int .i64 0, .int .i64 0, .int .i64 0, .slice none 0 0, .int .i64 0] 48)) (g := w.heap.size + 1) (t := 61) (cs := #[.int .i64 0, .int .i64 0]) (by simp)
 have hb0 : Below w.heap.size w ((w.alloc (.cells #[.slice none 0 0, .slice none 0 0, .slice none 0 0, .int .i64 0, .int .i64 0, .int .i64 0, .int .i64 0, .slice none 0 0, .int .i64 0] 48)).alloc (.cells #[.int .i64 0, .int .i64 0] 61)) := bA (bA bR)
 have hs0 : ((w.alloc (.cells #[.slice none 0 0, .slice none 0 0, .slice none 0 0, .int .i64 0, .int .i64 0, .int .i64 0, .int .i64 0, .slice none 0 0, .int .i64 0] 48)).alloc (.cells #[.int .i64 0, .int .i64 0] 61)).heap.size = w.heap.size + 2 := by simp
 generalize hW : (w.alloc (.cells #[.slice none 0 0, .slice none 0 0, .slice none 0 0, .int .i64 0, .int .i64 0, .int .i64 0, .int .i64 0, .slice none 0 0, .int .i64 0] 48)).alloc (.cells #[.int .i64 0, .int .i64 0] 61) = W0 at ho hk hb0 hs0
 have HBY := Hd hb
 have HN := Hd ho
 have HK := Hd hk
 have HB := Hd hb0
 have KC := Hd (l12Open_low w.heap.size A n c W0 (hb.keep fun q hq => hb0.cell hq) (by omega) hc hn)
 clear ho hk hb0 hb
 go_enter Tryz.func104, Tryz.ntmps104
 go_wp2_with fail
 refine KC.out.mono ?_
 rintro e w1 ⟨rfl, hrd, hb1⟩
 rw [hs0] at hrd ⊢
 have HR1 := Hd hrd
 have HN1 := Hd (HN.out.below hb1)
 have HK1 := Hd (HK.out.below hb1)
 have HB1 := Hd (bT HB.out hb1)
 have hs1 := HB1.out.size
 clear hrd hb1 HN HK HB KC hW
 obtain ⟨g, hg⟩ : ∃ g, w.heap.size + 2 = g := ⟨_, rfl⟩
 rw [hg] at HR1 ⊢
 go_wp2_with fail
 refine (l6Draw_any w.heap.size g 0 w1 HR1.out (by omega) hs1).mono ?_
 rintro e w2 ⟨_, rfl, m, v1, v2, v3, v4, p2, rfl, hM, hz, hrd, hp2, hgr⟩
 obtain ⟨A1, c1, rfl, _⟩ := hM.t.b
 obtain ⟨A2, c2, rfl, _⟩ := hM.t.f
 obtain ⟨A3, c3, rfl, _⟩ := hM.l
 obtain ⟨A4, c4, rfl, _⟩ := hM.o
 have hb2 := bG HB1.out hgr (by intro k hk; injection hk with hk; omega)
 have hs2 := hb2.size
 have hgl := rdr_lt hrd
 have hx := Own.new_ w2 48 #[.slice A1 m.t.bs.length c1, .slice A2 m.t.fs.length c2, .slice A3 m.c.ls.length c3, .int .i64 m.c.hand, .int .i64 m.g.count, .int .i64 m.g.next, .int .i64 m.g.round, .slice A4 m.g.os.length c4, .int .i64 m.sp]
 have hb3 : Below w2.heap.size w2 (w2.alloc (.cells #[.slice A1 m.t.bs.length c1, .slice A2 m.t.fs.length c2, .slice A3 m.c.ls.length c3, .int .i64 m.c.hand, .int .i64 m.g.count, .int .i64 m.g.next, .int .i64 m.g.round, .slice A4 m.g.os.length c4, .int .i64 m.sp] 48)) := bA bR
 have hs3 : (w2.alloc (.cells #[.slice A1 m.t.bs.length c1, .slice A2 m.t.fs.length c2, .slice A3 m.c.ls.length c3, .int .i64 m.c.hand, .int .i64 m.g.count, .int .i64 m.g.next, .int .i64 m.g.round, .slice A4 m.g.os.length c4, .int .i64 m.sp] 48)).heap.size = w2.heap.size + 1 := by simp
 have HN2 := Hd ((own_gr HN1.out hgr (by omega)).alloc (o := .cells #[.slice A1 m.t.bs.length c1, .slice A2 m.t.fs.length c2, .slice A3 m.c.ls.length c3, .int .i64 m.c.hand, .int .i64 m.g.count, .int .i64 m.g.next, .int .i64 m.g.round, .slice A4 m.g.os.length c4, .int .i64 m.sp] 48))
 have HK2 := Hd ((own_gr HK1.out hgr (by omega)).alloc (o := .cells #[.slice A1 m.t.bs.length c1, .slice A2 m.t.fs.length c2, .slice A3 m.c.ls.length c3, .int .i64 m.c.hand, .int .i64 m.g.count, .int .i64 m.g.next, .int .i64 m.g.round, .slice A4 m.g.os.length c4, .int .i64 m.sp] 48))
 generalize hW2 : w2.alloc (.cells #[.slice A1 m.t.bs.length c1, .slice A2 m.t.fs.length c2, .slice A3 m.c.ls.length c3, .int .i64 m.c.hand, .int .i64 m.g.count, .int .i64 m.g.next, .int .i64 m.g.round, .slice A4 m.g.os.length c4, .int .i64 m.sp] 48) = w3 at hx hb3 hs3 HN2 HK2
 have HX := Hd hx
 have HM := Hd (hM.now hb3)
 have HB3 := Hd (bT hb2 hb3)
 have HR3 := Hd (rdr_below hrd hb3)
 have HZ := Hd hz
 have hzf := hz.f
 clear hM hb2 hb3 hx hrd hgr hz HR1 HN1 HK1 HB1
 have hmb2 : w.heap.size + 2 ≤ w2.heap.size := by omega
 generalize hmb : w2.heap.size = mb at *
 have x0 := HX.out.cell_ 0 (v := .slice A1 m.t.bs.length c1) rfl
 have x1 := HX.out.cell_ 1 (v := .slice A2 m.t.fs.length c2) rfl
 go_wp2_with fail
 try rw [hW2]
 refine (KeysOf_any _ _ m.t w3 HM.out.r.t (by omega)).mono ?_
 rintro e w4 ⟨_, rfl, hown, hb4⟩
 obtain ⟨A8, c8, rfl, _⟩ := own_rd hown
 have HN4 := Hd (HN2.out.below hb4)
 have HK4 := Hd (HK2.out.below hb4)
 have HX4 := Hd (HX.out.below hb4)
 have HM4 := Hd (HM.out.now hb4)
 have HB4 := Hd (bT HB3.out hb4)
 have HR4 := Hd (rdr_below HR3.out hb4)
 have HO4 := Hd hown
 have hs4 := hb4.size
 have hbl : ∀ b, (Value.slice A8 (kys m.t).length c8).ownBlock = some b → w3.heap.size ≤ b := own_block hown
 have hbl2 : ∀ b, (Value.slice A8 (kys m.t).length c8).ownBlock = some b → b < w4.heap.size := by
  intro b hb
  rcases hown.2 with ⟨e, _⟩ | ⟨g, cap, cur, e, _, ho, _⟩
  ·rw [e] at hb; cases hb
  ·rw [e] at hb
   injection hb with hb
   subst hb
   exact (show Own w4 _ _ cur from ho).lt
 have HBL2 := Hd hbl2
 clear HN2 HK2 HX HM HB3 HR3 hown hb4 x0 x1 hW2 hbl hbl2
 have hkl : (kys m.t).length ≤ 1000 := Nat.le_trans (kys_len _) (by omega)
 have HSM : Hid (∀ k (h : k < (kys m.t).length), small (kys m.t)[k].1 ∧ small (kys m.t)[k].2) := Hd (fun k h => kys_small h)
 generalize hl : kys m.t = l at *
 go_wp2_with fail
 refine (pick_any w.heap.size g p2 3 w4 HR4.out (by omega) (by omega)).mono ?_
 rintro e w5 ⟨z5, rfl, hz50, hz51, hrd5, hgr5⟩
 go_wp2_with fail
 refine (l6Page_in w.heap.size g (p2 + 1) w5 hrd5 (by omega)).mono ?_
 rintro e w6 ⟨z6, rfl, hz6, hrd6, hgr6⟩
 go_wp2_with fail
 refine (sKeyFor_any z5 z6 w6).mono ?_
 rintro e w7 ⟨rfl, hb7⟩
 have hgr7 : w4.grownBy w7 (some g) := gT (gT hgr5 hgr6) (gr_below hb7)
 have hy7 := Own.new_ w7 61 #[.int .i64 (keyI z5 z6), .int .i64 z6]
 have hb8 : Below w7.heap.size w7 (w7.alloc (.cells #[.int .i64 (keyI z5 z6), .int .i64 z6] 61)) := bA bR
 have HK6 : Hid (K6 w g (p2 + 2) mb w7.heap.size (.slice A1 m.t.bs.length c1) (.slice A2 m.t.fs.length c2) (.slice A3 m.c.ls.length c3) (.slice A4 m.g.os.length c4) m w3.heap.size (.slice A8 l.length c8) l (w7.alloc (.cells #[.int .i64 (keyI z5 z6), .int .i64 z6] 61))) := by
  obtain ⟨Ar, nr, cr, hor, _⟩ := HR4.out.ok
  exact ⟨bT (bG HB4.out hgr7 (by intro k hk; injection hk with hk; omega)) hb8, rdr_below (rdr_below hrd6 hb7) hb8, (HM4.out.gr HR4.out hgr7).now hb8, (own_gr HX4.out hgr7 (HX4.out.ne hor (by decide))).below hb8, (own_gr HN4.out hgr7 (HN4.out.ne hor (by decide))).below hb8, (own_gr HK4.out hgr7 (HK4.out.ne hor (by decide))).below hb8, ⟨_, _, keyI_small (by have := hz51 (by decide); unfold small; omega), isIn_small (by decide) hz6, hy7⟩, own_kept (ownsRow_gr HO4.out HR4.out hgr7 (by decide)) hb8⟩
 have hs7 := hgr7.size
 have hkb : ∀ b, (Value.slice A8 l.length c8).ownBlock = some b → b ≠ w7.heap.size := fun b hb => by have := HBL2.out b hb; omega
 have HKB := Hd hkb
 generalize hW8 : w7.alloc (.cells #[.int .i64 (keyI z5 z6), .int .i64 z6] 61) = w8 at HK6 hb8
 have hkm : w.heap.size + 2 ≤ w7.heap.size := by omega
 clear hrd5 hgr5 hrd6 hgr6 hb7 hgr7 hy7 hb8 hz50 hz51 hz6 HN4 HK4 HX4 HM4 HB4 HR4 HO4 HBL2 hkb
 generalize hkbe : w7.heap.size = kb at *
 have hpp : p2 + 2 ≤ 200 := by omega
 generalize hp : p2 + 2 = p at *
 go_upto_region 5 with fail
 try rw [hW8]
 clear hW8
 go_cut [27] from 8 (fun u wx => ∃ (z : Bool) (p : Nat), u = .bool z ∧ (z = true → 0 < l.length) ∧ p ≤ 201 ∧ Hid (K6 w g p mb kb (.slice A1 m.t.bs.length c1) (.slice A2 m.t.fs.length c2) (.slice A3 m.c.ls.length c3) (.slice A4 m.g.os.length c4) m w3.heap.size (.slice A8 l.length c8) l wx))
 case first =>
  by_cases hk0 : l.length = 0
  ·have hki : decide (0 < (l.length : Int)) = false := by rw [hk0]; rfl
   go_wp2
   go_meet
   exact ⟨false, p, rfl, fun h => absurd h (by decide), by omega, HK6⟩
  ·have hki : decide (0 < (l.length : Int)) = true := by simp; omega
   go_wp2_with fail
   refine (pick_any w.heap.size g p 3 w8 HK6.out.rd (by omega) (by omega)).mono ?_
   rintro e w9 ⟨z9, rfl, _, _, hrd9, hgr9⟩
   have HK9 := Hd (HK6.out.gr hrd9 hgr9)
   clear hrd9 hgr9
   go_wp2
   go_meet
   exact ⟨_, p + 1, rfl, fun _ => by omega, by omega, HK9⟩
 case rest =>
  obtain ⟨z, p', rfl, hzl, hp', HK6'⟩ := hcut
  clear HK6
  go_upto_if 27 with fail
  go_cut [] from 8 (fun wx => ∃ p, p ≤ 202 ∧ Hid (K6 w g p mb kb (.slice A1 m.t.bs.length c1) (.slice A2 m.t.fs.length c2) (.slice A3 m.c.ls.length c3) (.slice A4 m.g.os.length c4) m w3.heap.size (.slice A8 l.length c8) l wx))
  case first =>
   cases z with
   | false =>
    go_wp2
    go_meet
    exact ⟨p', by omega, HK6'⟩
   | true =>
    have hl0 := hzl rfl
    go_wp2_with fail
    refine (pick_any w.heap.size g p' (l.length : Int) wc HK6'.out.rd (by omega) (by omega)).mono ?_
    rintro e w9 ⟨z9, rfl, hz0, hz1, hrd9, hgr9⟩
    have HK9 := Hd (HK6'.out.gr hrd9 hgr9)
    obtain ⟨k, rfl⟩ := Int.eq_ofNat_of_zero_le hz0
    have hkl2 : k < l.length := by have := hz1 (by omega); omega
    clear hrd9 hgr9 hz0 hz1 HK6'
    obtain ⟨g8, c8', e8⟩ : ∃ g c', (Value.slice A8 l.length c8) = .slice (some ⟨g, 0, none⟩) l.length c' := by
     rcases HK9.out.row.2 with ⟨e, h0⟩ | ⟨g, cap, cur, e, _⟩
     ·omega
     ·exact ⟨g, cap, e⟩
    injection e8 with e81 e82 e83
    subst e81 e83
    obtain ⟨a0, a1, a2, a3, a4⟩ := own_keyat HK9.out.row rfl hkl2
    obtain ⟨ka, kb2, hka, hkb2, hkv⟩ := HK9.out.kv
    have x0 := hkv.cell_ 0 (v := .int .i64 ka) rfl
    have x1 := hkv.cell_ 1 (v := .int .i64 kb2) rfl
    have y0 := hkv.free 0
    have y1 := hkv.free 1
    have hlk := hkv.lt
    have hg : l.getD k (0, 0) = l[k] := by rw [List.getD_eq_getElem?_getD, List.getElem?_eq_getElem hkl2]; rfl
    rw [hg] at a0 a1
    have hsm := HSM.out k hkl2
    generalize l[k] = u at a0 a1 hsm
    have hk0 : (0 : Int) ≤ (k : Int) := by omega
    have hki2 : (k : Int) < (l.length : Int) := by omega
    have HK10 := Hd (HK9.out.key hkm HKB.out hsm.1 hsm.2)
    clear hkv HK9 hg hsm
    go_wp2
    go_meet
    exact ⟨p' + 1, by omega, HK10⟩
  case rest =>
   obtain ⟨p2', hp2', HK7⟩ := hcut
   clear HK6'
   go_wp2_with fail
   refine (pick_any w.heap.size g p2' 20 wc HK7.out.rd (by omega) (by omega)).mono ?_
   rintro e w9 ⟨z9, rfl, _, _, hrd9, hgr9⟩
   have HK8 := Hd (HK7.out.gr hrd9 hgr9)
   clear hrd9 hgr9 HK7
   go_upto_if 37 with fail
   go_cut [] from 8 (fun wx => ∃ p, p ≤ 204 ∧ Hid (K6 w g p mb kb (.slice A1 m.t.bs.length c1) (.slice A2 m.t.fs.length c2) (.slice A3 m.c.ls.length c3) (.slice A4 m.g.os.length c4) m w3.heap.size (.slice A8 l.length c8) l wx))
   case first =>
    cases hz : (z9 == 0) with
    | false =>
     go_wp2
     go_meet
     exact ⟨p2' + 1, by omega, HK8⟩
    | true =>
     have hR8 := rdr_alloc HK8.out.rd (.cells #[.int .i64 1, .int .i64 16] 3)
     have HK9 := Hd (HK8.out.below (bA (bR (w := w9)) (o := .cells #[.int .i64 1, .int .i64 16] 3)))
     go_wp2_with fail
     refine (num_lit w.heap.size g (p2' + 1) [1, 16] w9 _ _ rfl rfl HK8.out.rd (by omega) (by simp) (by simp)).mono ?_
     rintro e w10 ⟨z10, rfl, hz10, hrd10, hgr10⟩
     have HK10 := Hd (HK8.out.gr hrd10 hgr10)
     obtain ⟨ka, kb2, hka, hkb2, hkv⟩ := HK10.out.kv
     have x0 := hkv.cell_ 0 (v := .int .i64 ka) rfl
     have x1 := hkv.cell_ 1 (v := .int .i64 kb2) rfl
     have y0 := hkv.free 0
     have y1 := hkv.free 1
     have hlk := hkv.lt
     have HK11 := Hd (HK10.out.key hkm HKB.out (a := z10) (b := 200) (isIn_small (by decide) hz10) (by unfold small; omega))
     clear hkv HK10 hrd10 hgr10 HK9 HK8 hR8 hz10
     go_wp2
     go_meet
     exact ⟨p2' + 2, by omega, HK11⟩
   case rest =>
    obtain ⟨p, hp4, HK6⟩ := hcut
    obtain ⟨a, b, hsa, hsb, hkv⟩ := HK6.out.kv
    clear HK8
    go_wp2
    have hst : GStat chg [2] [(mb, 48, #[.slice A1 m.t.bs.length c1, .slice A2 m.t.fs.length c2, .slice A3 m.c.ls.length c3, .int .i64 m.c.hand, .int .i64 m.g.count, .int .i64 m.g.next, .int .i64 m.g.round, .slice A4 m.g.os.length c4, .int .i64 m.sp]), (kb, 61, #[.int .i64 a, .int .i64 b])] (fun v => MaM w.heap.size v (.slice A1 m.t.bs.length c1) (.slice A2 m.t.fs.length c2) (.slice A3 m.c.ls.length c3) (.slice A4 m.g.os.length c4) m) [sbM 4 (w.heap.size) (w.heap.size) 19, sbE 5 (w.heap.size + 1) 61 #[.int .i64 0, .int .i64 0] #[.int .i64 a, .int .i64 b]] := by
     refine gstat_two (by decide) ?_ (fun _ _ ho h => h.chg ho) (show w.heap.size ≠ w.heap.size + 1 by omega) (show (4 : Nat) ≠ 5 by decide) (show 48 ≠ 172 by decide) (show 61 ≠ 172 by decide) sbM_keep sbE_keep
     ·intro f hf
      simp only [List.mem_cons, List.not_mem_nil, or_false] at hf
      rcases hf with rfl | rfl
      ·exact ⟨show 48 ≠ 172 by decide, show w.heap.size ≠ mb by omega, show w.heap.size + 1 ≠ mb by omega⟩
      ·exact ⟨show 61 ≠ 172 by decide, show w.heap.size ≠ kb by omega, show w.heap.size + 1 ≠ kb by omega⟩
    refine wp_region_rel4 (by kernel_rfl) [42, 43, 44, 45] [[42], [43], [44], [45], [], []] (GC (w.heap.size) w [(g, p)] [2] [(mb, 48, #[.slice A1 m.t.bs.length c1, .slice A2 m.t.fs.length c2, .slice A3 m.c.ls.length c3, .int .i64 m.c.hand, .int .i64 m.g.count, .int .i64 m.g.next, .int .i64 m.g.round, .slice A4 m.g.os.length c4, .int .i64 m.sp]), (kb, 61, #[.int .i64 a, .int .i64 b])] (fun v => MaM w.heap.size v (.slice A1 m.t.bs.length c1) (.slice A2 m.t.fs.length c2) (.slice A3 m.c.ls.length c3) (.slice A4 m.g.os.length c4) m) [sbM 4 (w.heap.size) (w.heap.size) 19, sbE 5 (w.heap.size + 1) 61 #[.int .i64 0, .int .i64 0] #[.int .i64 a, .int .i64 b]]) (kgs (q := chg) (B := w.heap.size) (nums := [2]) (S := [sbM 4 (w.heap.size) (w.heap.size) 19, sbE 5 (w.heap.size + 1) 61 #[.int .i64 0, .int .i64 0] #[.int .i64 a, .int .i64 b]]) [KG.eq 42 (.pointer (some ⟨g, 0, none⟩)), KG.eq 43 (.agg #[.slice A1 m.t.bs.length c1, .slice A2 m.t.fs.length c2, .slice A3 m.c.ls.length c3, .int .i64 m.c.hand, .int .i64 m.g.count, .int .i64 m.g.next, .int .i64 m.g.round, .slice A4 m.g.os.length c4, .int .i64 m.sp]), KG.val 44 (isMa (w.heap.size) 19) isMa_keep, KG.eq 45 (.agg #[.int .i64 a, .int .i64 b]), KG.no, KG.no]) (gtt chg (w.heap.size) [2] [sbM 4 (w.heap.size) (w.heap.size) 19, sbE 5 (w.heap.size + 1) 61 #[.int .i64 0, .int .i64 0] #[.int .i64 a, .int .i64 b]]) (by kernel_rfl) ?_ (kgs_loc (q := chg) (B := w.heap.size) (nums := [2]) (S := [sbM 4 (w.heap.size) (w.heap.size) 19, sbE 5 (w.heap.size + 1) 61 #[.int .i64 0, .int .i64 0] #[.int .i64 a, .int .i64 b]]) (ks := [KG.eq 42 (.pointer (some ⟨g, 0, none⟩)), KG.eq 43 (.agg #[.slice A1 m.t.bs.length c1, .slice A2 m.t.fs.length c2, .slice A3 m.c.ls.length c3, .int .i64 m.c.hand, .int .i64 m.g.count, .int .i64 m.g.next, .int .i64 m.g.round, .slice A4 m.g.os.length c4, .int .i64 m.sp]), KG.val 44 (isMa (w.heap.size) 19) isMa_keep, KG.eq 45 (.agg #[.int .i64 a, .int .i64 b]), KG.no, KG.no])) kgs_keep ?_ ?_
    ·exact ⟨bD HK6.out.bl, (by intro e he; simp only [List.mem_cons, List.not_mem_nil, or_false] at he; subst he; exact ⟨_, Nat.le_add_right _ _, rdr_below HK6.out.rd (bD bR)⟩), (by intro e he; simp only [List.mem_cons, List.not_mem_nil, or_false] at he; rcases he with rfl | rfl; exact HK6.out.ob.drew; exact hkv.drew), (HK6.out.hm.now (bD bR)), (by intro e he; simp only [List.mem_cons, List.not_mem_nil, or_false] at he; rcases he with rfl | rfl; exact ⟨_, HK6.out.n.drew, fun _ => rfl, fun h => absurd h (by decide)⟩; exact ⟨_, HK6.out.k.drew, fun _ => rfl, fun h => absurd h (by decide)⟩)⟩
    ·intro i o ho D x v hD hC hd K hK
     match i, ho with
     | 0, ho =>
      cases ho
      simp only [fillA, Act.put, sA9, sB9, sC9] at hK ⊢
      go_simp
      exact hK _ _ GT.same (hC.step hst hD GT.same rfl) rfl
     | 1, ho =>
      cases ho
      simp only [fillA, Act.put, sA9, sB9, sC9] at hK ⊢
      have hx : Own v (mb) 48 #[.slice A1 m.t.bs.length c1, .slice A2 m.t.fs.length c2, .slice A3 m.c.ls.length c3, .int .i64 m.c.hand, .int .i64 m.g.count, .int .i64 m.g.next, .int .i64 m.g.round, .slice A4 m.g.os.length c4, .int .i64 m.sp] := hC.ob _ List.mem_cons_self
      obtain ⟨z0, z1, z2, z3, z4, z5, z6, z7, z8⟩ := cells9 hx
      go_simp
      exact hK _ _ GT.same (hC.step hst hD GT.same rfl) rfl
     | 2, ho =>
      cases ho
      simp only [fillA, Act.put, sA9, sB9, sC9] at hK ⊢
      have d0 := hd 0 ⟨⟨0, .data⟩, by simp, rfl, rfl⟩
      change x 42 = .pointer (some ⟨g, 0, none⟩) at d0
      have d1 := hd 1 ⟨⟨1, .data⟩, by simp, rfl, rfl⟩
      change x 43 = .agg #[.slice A1 m.t.bs.length c1, .slice A2 m.t.fs.length c2, .slice A3 m.c.ls.length c3, .int .i64 m.c.hand, .int .i64 m.g.count, .int .i64 m.g.next, .int .i64 m.g.round, .slice A4 m.g.os.length c4, .int .i64 m.sp] at d1
      simp only [d0, d1] at hK ⊢
      obtain ⟨p', hp'', hrd⟩ := hC.rd (g, p) List.mem_cons_self
      have hp' : p' ≤ p + 1000 * cn D [2] := hp''
      have hcn : cn D [2] ≤ 1 := cn_le D _
      go_wp2_with fail
      refine (l6Wrong_any w.heap.size g p' 17 _ _ _ _ m v hrd (by omega) hC.mm HZ.out (by omega) hC.bl.size).mono ?_
      rintro e v' ⟨_, rfl, mX, w1, w2, w3, w4, p6, rfl, hmX, hzX, hrd', hp6, hgr⟩
      go_simp
      exact hK _ _ (GT.read chg_rd hrd hrd' (by omega) hgr) (hC.step hst hD (GT.read chg_rd hrd hrd' (by omega) hgr) rfl) ⟨mX, w1, w2, w3, w4, rfl, hmX, hzX⟩
     | 3, ho =>
      cases ho
      simp only [fillA, Act.put, sA9, sB9, sC9] at hK ⊢
      have hx : Own v (kb) 61 #[.int .i64 a, .int .i64 b] := hC.ob _ (List.mem_cons_of_mem _ List.mem_cons_self)
      have z0 := hx.cell_ 0 (v := .int .i64 a) rfl
      have z1 := hx.cell_ 1 (v := .int .i64 b) rfl
      go_simp
      exact hK _ _ GT.same (hC.step hst hD GT.same rfl) rfl
     | 4, ho =>
      cases ho
      simp only [fillA, Act.put, sA9, sB9, sC9] at hK ⊢
      have d0 := hd 2 ⟨⟨2, .data⟩, by simp, rfl, rfl⟩
      obtain ⟨mX, w1, w2, w3, w4, d0, hmX, hzX⟩ := d0
      change x 44 = .agg #[w1, w2, w3, .int .i64 mX.c.hand, .int .i64 mX.g.count, .int .i64 mX.g.next, .int .i64 mX.g.round, w4, .int .i64 mX.sp] at d0
      obtain ⟨cs, hob, hold, _⟩ := hC.st (sbM 4 (w.heap.size) (w.heap.size) 19) List.mem_cons_self
      obtain rfl := hold hD
      change Own v (w.heap.size) 48 #[.slice none 0 0, .slice none 0 0, .slice none 0 0, .int .i64 0, .int .i64 0, .int .i64 0, .int .i64 0, .slice none 0 0, .int .i64 0] at hob
      obtain ⟨r0x, r1x, r2x, r3x, r4x, r5x, r6x, r7x, r8x⟩ := cells9 hob
      obtain ⟨z0x, z1x, z2x, z3x, z4x, z5x, z6x, z7x, z8x⟩ := free9 hob
      obtain ⟨E1, n1, rfl, _⟩ := hmX.t.b
      obtain ⟨E2, n2, rfl, _⟩ := hmX.t.f
      obtain ⟨E3, n3, rfl, _⟩ := hmX.l
      obtain ⟨E4, n4, rfl, _⟩ := hmX.o
      have hlo := hob.lt
      simp only [d0] at hK ⊢
      go_simp
      refine hK undef _ ?_ ?_ trivial
      ·exact GT.set9 hob chg_ma (by decide) (by omega) _ _ _ _ _ _ _ _ _
      ·have hGT := GT.set9 (q := chg) (B := w.heap.size) hob chg_ma (by decide) (by omega) (.slice E1 mX.t.bs.length n1) (.slice E2 mX.t.fs.length n2) (.slice E3 mX.c.ls.length n3) (.int .i64 mX.c.hand) (.int .i64 mX.g.count) (.int .i64 mX.g.next) (.int .i64 mX.g.round) (.slice E4 mX.g.os.length n4) (.int .i64 mX.sp)
       exact hC.store (e0 := sbM 4 (w.heap.size) (w.heap.size) 19) hst hD hGT List.mem_cons_self rfl (hob.set9 _ _ _ _ _ _ _ _ _) ⟨mX, _, _, _, _, rfl, hmX.chg hGT.oth, hzX⟩
     | 5, ho =>
      cases ho
      simp only [fillA, Act.put, sA9, sB9, sC9] at hK ⊢
      have d0 := hd 3 ⟨⟨3, .data⟩, by simp, rfl, rfl⟩
      change x 45 = .agg #[.int .i64 a, .int .i64 b] at d0
      obtain ⟨cs, hob, hold, _⟩ := hC.st (sbE 5 (w.heap.size + 1) 61 #[.int .i64 0, .int .i64 0] #[.int .i64 a, .int .i64 b]) (List.mem_cons_of_mem _ List.mem_cons_self)
      obtain rfl := hold hD
      change Own v (w.heap.size + 1) 61 #[.int .i64 0, .int .i64 0] at hob
      have z0 := hob.cell_ 0 (v := .int .i64 0) rfl
      have z1 := hob.cell_ 1 (v := .int .i64 0) rfl
      have y0 := hob.free 0
      have y1 := hob.free 1
      have hlo := hob.lt
      simp only [d0] at hK ⊢
      go_simp
      refine hK undef _ ?_ ?_ trivial
      ·exact GT.set2 hob chg_ky (by decide) (by omega) _ _
      ·exact hC.store (e0 := sbE 5 (w.heap.size + 1) 61 #[.int .i64 0, .int .i64 0] #[.int .i64 a, .int .i64 b]) hst hD (GT.set2 hob chg_ky (by decide) (by omega) _ _) (List.mem_cons_of_mem _ List.mem_cons_self) rfl (by simpa using (hob.set_ 0 _).set_ 1 _) rfl
     | _ + 6, ho => simp at ho
    intro D xa wz hD hC hd
    obtain ⟨cs0, ho0, _, hn0⟩ := hC.st (sbM 4 (w.heap.size) (w.heap.size) 19) List.mem_cons_self
    have hn0 := hn0 (hD 4 (by decide))
    change Own wz (w.heap.size) 48 cs0 at ho0
    obtain ⟨mX, w1, w2, w3, w4, rfl, hmX, hzX⟩ := hn0
    obtain ⟨E1, n1, rfl, _⟩ := hmX.t.b
    obtain ⟨E2, n2, rfl, _⟩ := hmX.t.f
    obtain ⟨E3, n3, rfl, _⟩ := hmX.l
    obtain ⟨E4, n4, rfl, _⟩ := hmX.o
    obtain ⟨cs1, ho1, _, hn1⟩ := hC.st (sbE 5 (w.heap.size + 1) 61 #[.int .i64 0, .int .i64 0] #[.int .i64 a, .int .i64 b]) (List.mem_cons_of_mem _ List.mem_cons_self)
    have hn1 := hn1 (hD 5 (by decide))
    change Own wz (w.heap.size + 1) 61 cs1 at ho1
    change cs1 = #[.int .i64 a, .int .i64 b] at hn1
    subst hn1
    simp only [fillA, Act.put, sA9, sB9, sC9]
    have HBL := Hd hC.bl
    have HMM := Hd hC.mm
    clear hd hD 
    obtain ⟨p0t, p1t, p2t, p3t, p4t, p5t, p6t, p7t, p8t⟩ := cells9 ho0
    have k0 := ho1.cell_ 0 (v := .int .i64 a) rfl
    have k1 := ho1.cell_ 1 (v := .int .i64 b) rfl
    have HMX := Hd hmX
    have HZX := Hd hzX
    clear ho0 ho1 hC hmX hzX
    go_wp2
    refine bodyPost_ret (v := .tuple #[.agg #[.slice E1 mX.t.bs.length n1, .slice E2 mX.t.fs.length n2, .slice E3 mX.c.ls.length n3, .int .i64 mX.c.hand, .int .i64 mX.g.count, .int .i64 mX.g.next, .int .i64 mX.g.round, .slice E4 mX.g.os.length n4, .int .i64 mX.sp], .agg #[.int .i64 a, .int .i64 b]]) (by simp [results, Tryz.results104, go_sem, p0t, p1t, p2t, p3t, p4t, p5t, p6t, p7t, p8t, k0, k1]) rfl ⟨_, rfl, mX, _, _, _, _, a, b, rfl, HMX.out, HZX.out, hsa, hsb, HBL.out⟩
theorem tak_missing {m : Ma} {s p : Int} (h : takO m s p = true) : mav (takV m s p) = true ∧ inR p 256 = true ∧ (kys (takV m s p).t).length + 1 = (kys m.t).length ∧ fnd (takV m s p).t.fs s p = none ∧
  ∀ s', entO (takV m s p) s' = true → tchO (entV (takV m s p) s') p 0 = true ∧ (keyI s' p = s → tchR (entV (takV m s p) s') p 0 = 3) := by
 obtain ⟨hm, hf⟩ := takO_iff.1 h
 have hv := mav_tak h
 obtain ⟨htv, hkv, _⟩ := fOK_iff.1 hf
 have hp : inR p 256 = true := by
  have := (kval_iff.1 hkv).2
  exact inR_iff.2 this
 have hgone : fnd (takV m s p).t.fs s p = none := by rw [takV_t h]; exact unm_gone htv hf
 refine ⟨hv, hp, ?_, hgone, fun s' he => ?_⟩
 ·rw [kys_count (mav_parts hv).1, kys_count htv, takV_t h]
  exact unm_count hf
 ·obtain ⟨e1, e2, e3⟩ := mav_ent he
  have hO : tchO (entV (takV m s p) s') p 0 = true := by unfold tchO; rw [e1, hp]; rfl
  refine ⟨hO, fun hk => tch_gone hO ?_⟩
  rw [e2, e3, hk]
  exact hgone
end Go.Proofs.YtibpnlojlfcpmaaGreatDoor
