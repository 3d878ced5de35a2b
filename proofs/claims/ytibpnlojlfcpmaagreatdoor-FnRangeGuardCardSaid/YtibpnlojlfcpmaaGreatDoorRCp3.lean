/- A part of the proofs of this seat: Cp3, Drw. -/
import Derived.Deep.RegionHeldLaw
import Derived.Test.YtibpnlojlfcpmaaGreatDoorRW4
import Derived.Test.YtibpnlojlfcpmaaGreatDoorRStep
set_option linter.unusedVariables false
set_option linter.unusedSimpArgs false
set_option maxRecDepth 1000000
namespace Go.Proofs.YtibpnlojlfcpmaaGreatDoor
open Go.RowKit
set_option maxHeartbeats 1000000 in
theorem l3CopyO_any (vb vf : Value) (t : Tab) (w : World) (hT : TaR w vb vf t) (h1 : t.bs.length ≤ 1048576) (h2 : t.fs.length ≤ 1048576) :
    Calls Tryz.prog 157 #[.agg #[vb, vf]] w (Post2 fun v w' => ∃ v1 v2, v = .agg #[v1, v2] ∧ w'.ownsRow w.heap.size 3 1 v1 t.bs.length (intE.cells t.bs) ∧ w'.ownsRow w.heap.size 66 5 v2 t.fs.length (frE.cells t.fs) ∧ Below w.heap.size w w') := by
  obtain ⟨Ab, cb, rfl, hbc, hbm, hB⟩ := hT.b
  obtain ⟨Af, cf, rfl, hfc, hfm, hF⟩ := hT.f
  obtain ⟨i0, hi0, hz0, hz1, hz2⟩ := info_parts int_info2
  obtain ⟨j0, hj0, hy0, hy1, hy2⟩ := info_parts fr_info
  have hbx := (Own.new_ w 40 #[.slice Ab t.bs.length cb, .slice Af t.fs.length cf]).alloc (o := .cells #[.slice none 0 0, .slice none 0 0] 40)
  have hbo := ownAt (W := w.alloc (.cells #[.slice Ab t.bs.length cb, .slice Af t.fs.length cf] 40)) (g := w.heap.size + 1) (t := 40) (cs := #[.slice none 0 0, .slice none 0 0]) (by simp)
  have hb0 : Below w.heap.size w ((w.alloc (.cells #[.slice Ab t.bs.length cb, .slice Af t.fs.length cf] 40)).alloc (.cells #[.slice none 0 0, .slice none 0 0] 40)) := bA (bA bR)
  have hs0 : ((w.alloc (.cells #[.slice Ab t.bs.length cb, .slice Af t.fs.length cf] 40)).alloc (.cells #[.slice none 0 0, .slice none 0 0] 40)).heap.size = w.heap.size + 2 := by simp
  generalize hW : (w.alloc (.cells #[.slice Ab t.bs.length cb, .slice Af t.fs.length cf] 40)).alloc (.cells #[.slice none 0 0, .slice none 0 0] 40) = W0 at hbx hbo hb0 hs0
  have q0 := hbx.cell_ 0 (v := .slice Ab t.bs.length cb) rfl
  have q1 := hbx.cell_ 1 (v := .slice Af t.fs.length cf) rfl
  have HX0 := Hd hbx
  have HO0 := Hd hbo
  have HB0 := Hd hb0
  have HBR := Hd hB
  have HFR := Hd hF
  clear hbx hbo hb0 hB hF hT
  go_enter Tryz.func157, Tryz.ntmps157
  go_wp2
  go_region_held_law (fun w' => w'.cell? ⟨w.heap.size, 0, none⟩ = some (.slice Ab t.bs.length cb) ∧ w'.cell? ⟨w.heap.size, 1, none⟩ = some (.slice Af t.fs.length cf)) (go_keep) (first
    | (refine step_copy intE 22 22 3 i0 _ _ Tryz.underlying22 hi0 hz0 hz1 hz2 rfl (by omega) (w.heap.size + 2) rfl (.tmp 3) (.tmp 5) rfl rfl _ Ab cb t.bs rfl rfl (ownAt (W := W0) (by simp [hs0])) (by first | omega | (simp [hs0] <;> omega)) w.heap.size (HBR.out.below (by first | exact bA (bD HB0.out) | exact bA (bA (bD HB0.out)))) h1 (by first | omega | (simp [hs0] <;> omega)) ?_
       intro v1 w1 hown1 hg1
       obtain ⟨A1, c1, rfl, _⟩ := slm_own rfl hown1
       have HB1 : Hid (Below w.heap.size w w1) := bG (by first | exact bA (bD HB0.out) | exact bA (bA (bD HB0.out))) hg1 (fun k hk => by injection hk with hk; omega)
       have hx1 := own_other (by first | exact HX0.out.drew.alloc (o := .cells #[] 3) | exact (HX0.out.drew.alloc (o := .cells #[] 3)).alloc (o := .cells #[] 66) | exact (HX0.out.drew.alloc (o := .cells #[] 66)).alloc (o := .cells #[] 3)) hg1 (by first | omega | (simp [hs0] <;> omega))
       have ho1 := own_other (by first | exact HO0.out.drew.alloc (o := .cells #[] 3) | exact (HO0.out.drew.alloc (o := .cells #[] 3)).alloc (o := .cells #[] 66) | exact (HO0.out.drew.alloc (o := .cells #[] 66)).alloc (o := .cells #[] 3)) hg1 (by first | omega | (simp [hs0] <;> omega))
       have d0 := hx1.cell_ 0 (v := .slice Ab t.bs.length cb) rfl
       have d1 := hx1.cell_ 1 (v := .slice Af t.fs.length cf) rfl
       have HX1 := Hd hx1
       have HO1 := Hd ho1
       have HW1 := Hd hown1
       have hs1 : w.heap.size + 3 ≤ w1.heap.size := Nat.le_trans (by first | omega | (simp [hs0] <;> omega)) hg1.size
       skip
       clear hown1 hg1 hx1 ho1)
    | (refine step_copy intE 22 22 3 i0 _ _ Tryz.underlying22 hi0 hz0 hz1 hz2 rfl (by omega) (w.heap.size + 2) rfl (.tmp 3) (.tmp 5) rfl rfl _ Ab cb t.bs rfl rfl (ownAt (W := W0) (by simp [hs0])).alloc (by first | omega | (simp [hs0] <;> omega)) w.heap.size (HBR.out.below (by first | exact bA (bD HB0.out) | exact bA (bA (bD HB0.out)))) h1 (by first | omega | (simp [hs0] <;> omega)) ?_
       intro v1 w1 hown1 hg1
       obtain ⟨A1, c1, rfl, _⟩ := slm_own rfl hown1
       have HB1 : Hid (Below w.heap.size w w1) := bG (by first | exact bA (bD HB0.out) | exact bA (bA (bD HB0.out))) hg1 (fun k hk => by injection hk with hk; omega)
       have hx1 := own_other (by first | exact HX0.out.drew.alloc (o := .cells #[] 3) | exact (HX0.out.drew.alloc (o := .cells #[] 3)).alloc (o := .cells #[] 66) | exact (HX0.out.drew.alloc (o := .cells #[] 66)).alloc (o := .cells #[] 3)) hg1 (by first | omega | (simp [hs0] <;> omega))
       have ho1 := own_other (by first | exact HO0.out.drew.alloc (o := .cells #[] 3) | exact (HO0.out.drew.alloc (o := .cells #[] 3)).alloc (o := .cells #[] 66) | exact (HO0.out.drew.alloc (o := .cells #[] 66)).alloc (o := .cells #[] 3)) hg1 (by first | omega | (simp [hs0] <;> omega))
       have d0 := hx1.cell_ 0 (v := .slice Ab t.bs.length cb) rfl
       have d1 := hx1.cell_ 1 (v := .slice Af t.fs.length cf) rfl
       have HX1 := Hd hx1
       have HO1 := Hd ho1
       have HW1 := Hd hown1
       have hs1 : w.heap.size + 3 ≤ w1.heap.size := Nat.le_trans (by first | omega | (simp [hs0] <;> omega)) hg1.size
       have HF1 := Hd (own_other (ownAt (W := W0.drew.alloc (.cells #[] 3)) (g := w.heap.size + 3) (t := 66) (cs := #[]) (by simp [hs0])) hg1 (by first | omega | (simp [hs0] <;> omega)))
       clear hown1 hg1 hx1 ho1)
    | (refine step_copy intE 22 22 3 i0 _ _ Tryz.underlying22 hi0 hz0 hz1 hz2 rfl (by omega) (w.heap.size + 2) rfl (.tmp 3) (.tmp 5) rfl rfl _ Ab cb t.bs rfl rfl (ownAt (W := W0.alloc (.cells #[] 66)) (by simp [hs0])) (by first | omega | (simp [hs0] <;> omega)) w.heap.size (HBR.out.below (by first | exact bA (bD HB0.out) | exact bA (bA (bD HB0.out)))) h1 (by first | omega | (simp [hs0] <;> omega)) ?_
       intro v1 w1 hown1 hg1
       obtain ⟨A1, c1, rfl, _⟩ := slm_own rfl hown1
       have HB1 : Hid (Below w.heap.size w w1) := bG (by first | exact bA (bD HB0.out) | exact bA (bA (bD HB0.out))) hg1 (fun k hk => by injection hk with hk; omega)
       have hx1 := own_other (by first | exact HX0.out.drew.alloc (o := .cells #[] 3) | exact (HX0.out.drew.alloc (o := .cells #[] 3)).alloc (o := .cells #[] 66) | exact (HX0.out.drew.alloc (o := .cells #[] 66)).alloc (o := .cells #[] 3)) hg1 (by first | omega | (simp [hs0] <;> omega))
       have ho1 := own_other (by first | exact HO0.out.drew.alloc (o := .cells #[] 3) | exact (HO0.out.drew.alloc (o := .cells #[] 3)).alloc (o := .cells #[] 66) | exact (HO0.out.drew.alloc (o := .cells #[] 66)).alloc (o := .cells #[] 3)) hg1 (by first | omega | (simp [hs0] <;> omega))
       have d0 := hx1.cell_ 0 (v := .slice Ab t.bs.length cb) rfl
       have d1 := hx1.cell_ 1 (v := .slice Af t.fs.length cf) rfl
       have HX1 := Hd hx1
       have HO1 := Hd ho1
       have HW1 := Hd hown1
       have hs1 : w.heap.size + 3 ≤ w1.heap.size := Nat.le_trans (by first | omega | (simp [hs0] <;> omega)) hg1.size
       have HF1 := Hd (own_other (ownAt (W := W0.drew) (g := w.heap.size + 2) (t := 66) (cs := #[]) (by simp [hs0])).alloc hg1 (by first | omega | (simp [hs0] <;> omega)))
       clear hown1 hg1 hx1 ho1)
    | (refine step_copy frE 38 38 66 j0 _ _ Tryz.underlying38 hj0 hy0 hy1 hy2 rfl (by omega) (w.heap.size + 2) rfl (.tmp 7) (.tmp 9) rfl rfl _ Af cf t.fs rfl rfl (by first | exact HF1.out | exact Own.new_ _ _ _) (by first | omega | (simp [hs0] <;> omega)) w.heap.size (HFR.out.below (by first | exact HB1.out | exact bA HB1.out)) h2 (by first | omega | (simp [hs0] <;> omega)) ?_
       intro v2 w2 hown2 hg2
       have hm2 := slm_own rfl hown2
       obtain ⟨A2, c2, rfl, _⟩ := slm_own rfl hown2
       have hk1 : w2.ownsRow (w.heap.size + 2) 3 intE.sz (.slice A1 t.bs.length c1) t.bs.length (intE.cells t.bs) := by
         first
           | exact HW1.out.kept hg2 (own_ne (e2 := 66) HW1.out HF1.out (by decide))
           | exact (HW1.out.alloc (.cells #[] 66)).kept hg2 (own_ne (e2 := 66) (HW1.out.alloc (.cells #[] 66)) (Own.new_ w1 66 #[]) (by decide))
       have HM1 : Hid (w2.ownsRow (w.heap.size + 2) 3 1 (.slice A1 t.bs.length c1) t.bs.length (intE.cells t.bs)) := hk1
       have HM2 : Hid (w2.ownsRow (w.heap.size + 2) 66 5 (.slice A2 t.fs.length c2) t.fs.length (frE.cells t.fs)) := hown2
       have HB2 : Hid (Below w.heap.size w w2) := bG (by first | exact HB1.out | exact bA HB1.out) hg2 (fun k hk => by injection hk with hk; omega)
       have hx2 := own_other (by first | exact HX1.out | exact HX1.out.alloc (o := .cells #[] 66)) hg2 (by first | omega | (simp [hs0] <;> omega))
       have ho2 := own_other (by first | exact HO1.out | exact HO1.out.alloc (o := .cells #[] 66)) hg2 (by first | omega | (simp [hs0] <;> omega))
       have f0 := hx2.cell_ 0 (v := .slice Ab t.bs.length cb) rfl
       have f1 := hx2.cell_ 1 (v := .slice Af t.fs.length cf) rfl
       have p0 := ho2.free 0
       have p1 := ho2.free 1
       have p2 := ho2.cell_ 0 (v := .slice none 0 0) rfl
       have p3 := ho2.cell_ 1 (v := .slice none 0 0) rfl
       have HO2 := Hd ho2
       clear hown2 hg2 hx2 ho2 hm2 hk1))
  all_goals
    go_wp2
    have o3 := (HO2.out.set_ 0 (.slice A1 t.bs.length c1)).set_ 1 (.slice A2 t.fs.length c2)
    have t0 := o3.cell_ 0 (v := .slice A1 t.bs.length c1) rfl
    have t1 := o3.cell_ 1 (v := .slice A2 t.fs.length c2) rfl
    have hN1 := ownsRow_setCell_below (ownsRow_setCell_below HM1.out (a := ⟨w.heap.size + 1, 0, none⟩) (by show w.heap.size + 1 < w.heap.size + 2; omega) (.slice A1 t.bs.length c1)) (a := ⟨w.heap.size + 1, 1, none⟩) (by show w.heap.size + 1 < w.heap.size + 2; omega) (.slice A2 t.fs.length c2)
    have hN2 := ownsRow_setCell_below (ownsRow_setCell_below HM2.out (a := ⟨w.heap.size + 1, 0, none⟩) (by show w.heap.size + 1 < w.heap.size + 2; omega) (.slice A1 t.bs.length c1)) (a := ⟨w.heap.size + 1, 1, none⟩) (by show w.heap.size + 1 < w.heap.size + 2; omega) (.slice A2 t.fs.length c2)
    refine bodyPost_ret (v := .agg #[.slice A1 t.bs.length c1, .slice A2 t.fs.length c2]) (by simp [results, Tryz.results157, go_sem, t0, t1]) rfl ⟨_, rfl, _, _, rfl, own_mono hN1 (by omega), own_mono hN2 (by omega), bS (bS HB2.out (by simp)) (by simp)⟩
theorem nat_of {zs : List Int} {a b : Nat} (h : ∀ z ∈ zs, (a : Int) ≤ z ∧ z ≤ (b : Int)) {z : Int} (hz : z ∈ zs) : ∃ n : Nat, z = (n : Int) ∧ a ≤ n ∧ n ≤ b := by
 obtain ⟨h1, h2⟩ := h z hz
 obtain ⟨n, rfl⟩ := Int.eq_ofNat_of_zero_le (show 0 ≤ z by omega)
 exact ⟨n, rfl, by omega, by omega⟩
set_option maxHeartbeats 4000000 in
theorem l6Draw_any (B g q : Nat) (w : World) (hrd : Rdr B w g q) (hq : q ≤ 800000) (hBw : B ≤ w.heap.size) :
  Calls Tryz.prog 94 #[.pointer (some ⟨g, 0, none⟩)] w (Post2 fun v w' => Drawn B 17 w g q 110 v w') := by
 have hgw := rdr_lt hrd
 have hr0 := Own.new_ w 48 #[.slice none 0 0, .slice none 0 0, .slice none 0 0, .int .i64 0, .int .i64 0, .int .i64 0, .int .i64 0, .slice none 0 0, .int .i64 0]
 have hb0 : Below w.heap.size w (w.alloc (.cells #[.slice none 0 0, .slice none 0 0, .slice none 0 0, .int .i64 0, .int .i64 0, .int .i64 0, .int .i64 0, .slice none 0 0, .int .i64 0] 48)) := bA bR
 generalize hW : w.alloc (.cells #[.slice none 0 0, .slice none 0 0, .slice none 0 0, .int .i64 0, .int .i64 0, .int .i64 0, .int .i64 0, .slice none 0 0, .int .i64 0] 48) = W0 at hr0 hb0
 have HRR := Hd hr0
 have HRD := Hd (rdr_below hrd hb0)
 have HGR := Hd (gr_below hb0 (g := g))
 clear hr0 hb0 hrd
 go_enter Tryz.func94, Tryz.ntmps94
 go_wp2_with fail
 refine (num_lit B g (q) [6, 4, 8] W0 _ _ rfl rfl HRD.out (by omega) (by simp) (by simp)).mono ?_
 rintro e w1 ⟨z1, rfl, hz1, hrd, hg⟩
 have hgr := gT HGR.out hg
 have hrr := own_gr HRR.out hg (by omega)
 clear HRD HGR HRR
 have HRD := Hd hrd
 have HGR := Hd hgr
 have HRR := Hd hrr
 clear hrd hg hgr hrr
 go_wp2_with fail
 refine (num_lit B g (q + 1) [4, 2, 1] w1 _ _ rfl rfl HRD.out (by omega) (by simp) (by simp)).mono ?_
 rintro e w2 ⟨z2, rfl, hz2, hrd, hg⟩
 have hgr := gT HGR.out hg
 have hrr := own_gr HRR.out hg (by omega)
 clear HRD HGR HRR
 have HRD := Hd hrd
 have HGR := Hd hgr
 have HRR := Hd hrr
 clear hrd hg hgr hrr
 go_wp2_with fail
 refine (num_lit B g (q + 1 + 1) [3, 2, 4, 1] w2 _ _ rfl rfl HRD.out (by omega) (by simp) (by simp)).mono ?_
 rintro e w3 ⟨z3, rfl, hz3, hrd, hg⟩
 have hgr := gT HGR.out hg
 have hrr := own_gr HRR.out hg (by omega)
 clear HRD HGR HRR
 have HRD := Hd hrd
 have HGR := Hd hgr
 have HRR := Hd hrr
 clear hrd hg hgr hrr
 go_wp2_with fail
 refine (num_lit B g (q + 1 + 1 + 1) [2, 3, 1] w3 _ _ rfl rfl HRD.out (by omega) (by simp) (by simp)).mono ?_
 rintro e w4 ⟨z4, rfl, hz4, hrd, hg⟩
 have hgr := gT HGR.out hg
 have hrr := own_gr HRR.out hg (by omega)
 clear HRD HGR HRR
 have HRD := Hd hrd
 have HGR := Hd hgr
 have HRR := Hd hrr
 clear hrd hg hgr hrr
 obtain ⟨nf, rfl, hf1, hf2⟩ := nat_of (a := 1) (b := 16) (by decide) hz1
 obtain ⟨nb, rfl, hb1, hb2⟩ := nat_of (a := 1) (b := 16) (by decide) hz2
 obtain ⟨nl, rfl, hl1, hl2⟩ := nat_of (a := 1) (b := 8) (by decide) hz3
 obtain ⟨nt, rfl, ht1, ht2⟩ := nat_of (a := 1) (b := 8) (by decide) hz4
 clear hz1 hz2 hz3 hz4 hW
 go_wp2_with fail
 refine (sNewMachine_any nf nb nl nt w4 ⟨hf1, hf2⟩ ⟨hb1, hb2⟩ ⟨hl1, hl2⟩ ⟨ht1, ht2⟩).mono ?_
 rintro e w5 ⟨_, rfl, m, v1, v2, v3, v4, rfl, hM, hz, hb5⟩
 obtain ⟨A1, c1, rfl, _⟩ := hM.t.b
 obtain ⟨A2, c2, rfl, _⟩ := hM.t.f
 obtain ⟨A3, c3, rfl, _⟩ := hM.l
 obtain ⟨A4, c4, rfl, _⟩ := hM.o
 have hw4 : w.heap.size ≤ w4.heap.size := HGR.out.size
 have ho6 := Own.new_ w5 48 #[.slice A1 m.t.bs.length c1, .slice A2 m.t.fs.length c2, .slice A3 m.c.ls.length c3, .int .i64 m.c.hand, .int .i64 m.g.count, .int .i64 m.g.next, .int .i64 m.g.round, .slice A4 m.g.os.length c4, .int .i64 m.sp]
 have hb6 : Below w5.heap.size w5 (w5.alloc (.cells #[.slice A1 m.t.bs.length c1, .slice A2 m.t.fs.length c2, .slice A3 m.c.ls.length c3, .int .i64 m.c.hand, .int .i64 m.g.count, .int .i64 m.g.next, .int .i64 m.g.round, .slice A4 m.g.os.length c4, .int .i64 m.sp] 48)) := bA bR
 generalize hW6 : w5.alloc (.cells #[.slice A1 m.t.bs.length c1, .slice A2 m.t.fs.length c2, .slice A3 m.c.ls.length c3, .int .i64 m.c.hand, .int .i64 m.g.count, .int .i64 m.g.next, .int .i64 m.g.round, .slice A4 m.g.os.length c4, .int .i64 m.sp] 48) = w6 at ho6 hb6
 have HO6 := Hd ho6
 have HM6 := Hd ((hM.mono (show B ≤ w4.heap.size by omega)).now hb6)
 have HRD6 := Hd (rdr_below (rdr_below HRD.out hb5) hb6)
 have HGR6 := Hd (gT (gT HGR.out (gr_below hb5)) (gr_below hb6))
 have HRR6 := Hd ((HRR.out.below hb5).below hb6)
 have HZ := Hd (hz.up (show 16 ≤ 17 by omega))
 have hw5 : w.heap.size < w5.heap.size := by have := (HRR.out.below hb5).lt; omega
 clear hM hb5 ho6 hb6 HRD HGR HRR hz
 go_wp2_with fail
 refine (pick_any B g (q + 1 + 1 + 1 + 1) 10 w6 HRD6.out (by omega) (by omega)).mono ?_
 rintro e w7 ⟨x, rfl, hx0, hx1, hrd7, hg7⟩
 have hx2 := hx1 (by omega)
 obtain ⟨x, rfl⟩ := Int.eq_ofNat_of_zero_le hx0
 have HO7 := Hd (own_gr HO6.out hg7 (by have := HRD6.out; have := rdr_lt this; omega))
 have HM7 := Hd (HM6.out.gr HRD6.out hg7)
 have HGR7 := Hd (gT HGR6.out hg7)
 have HRR7 := Hd (own_gr HRR6.out hg7 (by omega))
 have HRD7 := Hd hrd7
 have hx3 : x ≤ 9 := by omega
 generalize hgb : w5.heap.size = gb at *
 clear hrd7 hg7 hx0 hx1 hx2 HO6 HM6 HRD6 HGR6 HRR6 hW6
 go_wp2
 go_loopw [5] (fun u wr => ∃ (k : Nat) (m : Ma) (v1 v2 v3 v4 : Value) (p : Nat), k ≤ 15 ∧ u = .int .i64 k ∧ p ≤ q + 5 + 6 * (15 - k) ∧ Own wr gb 48 #[v1, v2, v3, .int .i64 m.c.hand, .int .i64 m.g.count, .int .i64 m.g.next, .int .i64 m.g.round, v4, .int .i64 m.sp] ∧ Own wr w.heap.size 48 #[.slice none 0 0, .slice none 0 0, .slice none 0 0, .int .i64 0, .int .i64 0, .int .i64 0, .int .i64 0, .slice none 0 0, .int .i64 0] ∧ MaM B wr v1 v2 v3 v4 m ∧ Sz 17 m ∧ Rdr B wr g p ∧ w.grownBy wr (some g)) (fun u _ => (intOf u).toNat)
 case atStart => exact ⟨6 + x, m, _, _, _, _, q + 1 + 1 + 1 + 1 + 1, by omega, by simp, by omega, HO7.out, HRR7.out, HM7.out, HZ.out, HRD7.out, HGR7.out⟩
 case round =>
  obtain ⟨k, m, v1, v2, v3, v4, p, hk, rfl, hp, ho, hr, hm, hz, hrd, hgr⟩ := hrel
  have HO := Hd ho
  have HR := Hd hr
  have HM := Hd hm
  have HRD := Hd hrd
  have HGR := Hd hgr
  obtain ⟨A1, c1, rfl, _⟩ := hm.t.b
  obtain ⟨A2, c2, rfl, _⟩ := hm.t.f
  obtain ⟨A3, c3, rfl, _⟩ := hm.l
  obtain ⟨A4, c4, rfl, _⟩ := hm.o
  have hwr : w.heap.size ≤ wr.heap.size := hgr.size
  obtain ⟨p0o, p1o, p2o, p3o, p4o, p5o, p6o, p7o, p8o⟩ := cells9 ho
  have hlo := ho.lt
  clear ho hr hm hrd hgr
  by_cases hlt : 0 < k
  ·have hki : (0 : Int) < (k : Int) := by omega
   go_wp2_with fail
   refine (l6Step_any B g p _ _ _ _ m wr HRD.out (by omega) HM.out hz (by omega)).mono ?_
   rintro e w8 ⟨_, rfl, m', e1, e2, e3, e4, p', rfl, hM8, hz8, hrd8, hp8, hg8⟩
   clear p0o p1o p2o p3o p4o p5o p6o p7o p8o
   have ho8 := own_gr HO.out hg8 (by omega)
   have HR8 := Hd (own_gr HR.out hg8 (by omega))
   obtain ⟨E1, n1, rfl, _⟩ := hM8.t.b
   obtain ⟨E2, n2, rfl, _⟩ := hM8.t.f
   obtain ⟨E3, n3, rfl, _⟩ := hM8.l
   obtain ⟨E4, n4, rfl, _⟩ := hM8.o
   obtain ⟨p0o, p1o, p2o, p3o, p4o, p5o, p6o, p7o, p8o⟩ := cells9 ho8
   obtain ⟨w0o, w1o, w2o, w3o, w4o, w5o, w6o, w7o, w8o⟩ := free9 ho8
   have hlo8 := ho8.lt
   have HO9 := Hd (ho8.set9 (.slice E1 m'.t.bs.length n1) (.slice E2 m'.t.fs.length n2) (.slice E3 m'.c.ls.length n3) (.int .i64 m'.c.hand) (.int .i64 m'.g.count) (.int .i64 m'.g.next) (.int .i64 m'.g.round) (.slice E4 m'.g.os.length n4) (.int .i64 m'.sp))
   have HM9 := Hd (hM8.far9 ho8 (.slice E1 m'.t.bs.length n1) (.slice E2 m'.t.fs.length n2) (.slice E3 m'.c.ls.length n3) (.int .i64 m'.c.hand) (.int .i64 m'.g.count) (.int .i64 m'.g.next) (.int .i64 m'.g.round) (.slice E4 m'.g.os.length n4) (.int .i64 m'.sp))
   have HG8 := Hd (gT HGR.out hg8)
   have HRD8 := Hd hrd8
   have HZ8 := Hd hz8
   clear ho8 hM8 hrd8 hg8 hz8 hz
   go_wp2
   go_roundw
   case rel =>
    refine ⟨k - 1, m', _, _, _, _, p', by omega, by rw [show ((k - 1 : Nat) : Int) = (k : Int) - 1 by omega], by omega, HO9.out, ?_, HM9.out, HZ8.out, ?_, ?_⟩
    ·repeat (refine Own.far ?_ (by show w.heap.size ≠ gb; omega))
     exact HR8.out
    ·repeat (refine rdr_set1 (by omega) ?_)
     exact HRD8.out
    ·repeat (refine g_set (by omega) ?_)
     exact HG8.out
   case measure => simp [intOf]; omega
  ·obtain rfl : k = 0 := by omega
   have HZ9 := Hd hz
   obtain ⟨r0x, r1x, r2x, r3x, r4x, r5x, r6x, r7x, r8x⟩ := cells9 HR.out
   obtain ⟨z0x, z1x, z2x, z3x, z4x, z5x, z6x, z7x, z8x⟩ := free9 HR.out
   have hlr := HR.out.lt
   clear hz
   go_wp2
   have o3 := HR.out.set9 (.slice A1 m.t.bs.length c1) (.slice A2 m.t.fs.length c2) (.slice A3 m.c.ls.length c3) (.int .i64 m.c.hand) (.int .i64 m.g.count) (.int .i64 m.g.next) (.int .i64 m.g.round) (.slice A4 m.g.os.length c4) (.int .i64 m.sp)
   obtain ⟨p0t, p1t, p2t, p3t, p4t, p5t, p6t, p7t, p8t⟩ := cells9 o3
   refine bodyPost_ret (v := .agg #[.slice A1 m.t.bs.length c1, .slice A2 m.t.fs.length c2, .slice A3 m.c.ls.length c3, .int .i64 m.c.hand, .int .i64 m.g.count, .int .i64 m.g.next, .int .i64 m.g.round, .slice A4 m.g.os.length c4, .int .i64 m.sp]) (by simp [results, Tryz.results94, go_sem, p0t, p1t, p2t, p3t, p4t, p5t, p6t, p7t, p8t]) rfl ⟨_, rfl, m, _, _, _, _, p, rfl, HM.out.far9 HR.out _ _ _ _ _ _ _ _ _, HZ9.out, ?_, by omega, ?_⟩
   ·repeat (refine rdr_set1 (by omega) ?_)
    exact HRD.out
   ·repeat (refine g_set (by omega) ?_)
    exact HGR.out
end Go.Proofs.YtibpnlojlfcpmaaGreatDoor
