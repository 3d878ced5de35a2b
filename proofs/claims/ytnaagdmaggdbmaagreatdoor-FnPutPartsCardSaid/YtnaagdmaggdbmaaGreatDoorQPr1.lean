/- A part of the proofs of this seat: Pr1. -/
import Derived.Test.YtnaagdmaggdbmaaGreatDoorQPrI
set_option linter.unusedVariables false
set_option linter.unusedSimpArgs false
namespace Go.Proofs.YtnaagdmaggdbmaaGreatDoor
open Go.RowKit
set_option maxRecDepth 1000000
set_option maxHeartbeats 2000000 in
theorem PutRange1_any (vb vf vl vo : Value) (m : Ma) (i : Nat) (s p f r : Int) (gf gr : Nat) (A : Option Addr) (c : Nat) (fs : List Int) (w : World) (hM : MaR w vb vf vl vo m) (hfree : Free w) (hf : fs[i]? = some f) (hgf : gf < w.heap.size) (hgr : gr < w.heap.size)
    (hcf : w.cell? ⟨gf, 0, none⟩ = some (.slice A fs.length c)) (hcr : w.cell? ⟨gr, 0, none⟩ = some (.int .i64 r)) (hR : Rs intE w.heap.size w A fs) (hl : fs.length ≤ 16) :
    Calls Tryz.prog 51 #[.agg #[vb, vf, vl, .int .i64 m.c.hand, .int .i64 m.g.count, .int .i64 m.g.next, .int .i64 m.g.round, vo, .int .i64 m.sp], .int .i64 i, .agg #[.int .i64 s, .int .i64 p], .pointer (some ⟨gf, 0, none⟩), .pointer (some ⟨gr, 0, none⟩)] w (Post2 fun v w' => ∃ v1 v2 v3 v4, v = .tuple #[.agg #[v1, v2, v3, .int .i64 (putV m s p f r).c.hand, .int .i64 (putV m s p f r).g.count, .int .i64 (putV m s p f r).g.next, .int .i64 (putV m s p f r).g.round, v4, .int .i64 (putV m s p f r).sp], .bool (putOK m s p f r)] ∧ MaM w.heap.size w' v1 v2 v3 v4 (putV m s p f r) ∧ Below w.heap.size w w') := by
  have hbx := ((Own.new_ w 34 #[vb, vf, vl, .int .i64 m.c.hand, .int .i64 m.g.count, .int .i64 m.g.next, .int .i64 m.g.round, vo, .int .i64 m.sp]).alloc (o := .cells #[.int .i64 s, .int .i64 p] 36)).alloc (o := .cells #[.slice none 0 0, .slice none 0 0, .slice none 0 0, .int .i64 0, .int .i64 0, .int .i64 0, .int .i64 0, .slice none 0 0, .int .i64 0] 34)
  have hbk := (ownAt (W := w.alloc (.cells #[vb, vf, vl, .int .i64 m.c.hand, .int .i64 m.g.count, .int .i64 m.g.next, .int .i64 m.g.round, vo, .int .i64 m.sp] 34)) (g := w.heap.size + 1) (t := 36) (cs := #[.int .i64 s, .int .i64 p]) (by simp)).alloc (o := .cells #[.slice none 0 0, .slice none 0 0, .slice none 0 0, .int .i64 0, .int .i64 0, .int .i64 0, .int .i64 0, .slice none 0 0, .int .i64 0] 34)
  have hbo := ownAt (W := (w.alloc (.cells #[vb, vf, vl, .int .i64 m.c.hand, .int .i64 m.g.count, .int .i64 m.g.next, .int .i64 m.g.round, vo, .int .i64 m.sp] 34)).alloc (.cells #[.int .i64 s, .int .i64 p] 36)) (g := w.heap.size + 1 + 1) (t := 34) (cs := #[.slice none 0 0, .slice none 0 0, .slice none 0 0, .int .i64 0, .int .i64 0, .int .i64 0, .int .i64 0, .slice none 0 0, .int .i64 0]) (by simp)
  have hb0 : Below w.heap.size w (((w.alloc (.cells #[vb, vf, vl, .int .i64 m.c.hand, .int .i64 m.g.count, .int .i64 m.g.next, .int .i64 m.g.round, vo, .int .i64 m.sp] 34)).alloc (.cells #[.int .i64 s, .int .i64 p] 36)).alloc (.cells #[.slice none 0 0, .slice none 0 0, .slice none 0 0, .int .i64 0, .int .i64 0, .int .i64 0, .int .i64 0, .slice none 0 0, .int .i64 0] 34)) := bA (bA (bA bR))
  have hs0 : (((w.alloc (.cells #[vb, vf, vl, .int .i64 m.c.hand, .int .i64 m.g.count, .int .i64 m.g.next, .int .i64 m.g.round, vo, .int .i64 m.sp] 34)).alloc (.cells #[.int .i64 s, .int .i64 p] 36)).alloc (.cells #[.slice none 0 0, .slice none 0 0, .slice none 0 0, .int .i64 0, .int .i64 0, .int .i64 0, .int .i64 0, .slice none 0 0, .int .i64 0] 34)).heap.size = w.heap.size + 3 := by simp
  generalize hW : ((w.alloc (.cells #[vb, vf, vl, .int .i64 m.c.hand, .int .i64 m.g.count, .int .i64 m.g.next, .int .i64 m.g.round, vo, .int .i64 m.sp] 34)).alloc (.cells #[.int .i64 s, .int .i64 p] 36)).alloc (.cells #[.slice none 0 0, .slice none 0 0, .slice none 0 0, .int .i64 0, .int .i64 0, .int .i64 0, .int .i64 0, .slice none 0 0, .int .i64 0] 34) = W0 at hbx hbk hbo hb0 hs0
  have HX0 := Lib.hid hbx
  have HK0 := Lib.hid hbk
  have HR0 := Lib.hid hbo
  have HB0 := Lib.hid hb0
  have HS0 : Hid (w.heap.size + 3 ≤ W0.heap.size) := Nat.le_of_eq hs0.symm
  clear hbx hbk hbo hb0
  have HM := Lib.hid hM
  have HF := Lib.hid hfree
  obtain ⟨b5, o5, rfl, hb5, y0w⟩ := hR.i1 hf
  have hil := (List.getElem?_eq_some_iff.1 hf).1
  have y0 := (HB0.out.cell (p := ⟨b5, o5 + i, none⟩) hb5).trans y0w
  have y1 := (HB0.out.cell (p := ⟨gf, 0, none⟩) hgf).trans hcf
  have y2 := (HB0.out.cell (p := ⟨gr, 0, none⟩) hgr).trans hcr
  have m00 := HX0.out.cell_ 0 (v := vb) rfl
  have m10 := HX0.out.cell_ 1 (v := vf) rfl
  have m20 := HX0.out.cell_ 2 (v := vl) rfl
  have m30 := HX0.out.cell_ 3 (v := .int .i64 m.c.hand) rfl
  have m40 := HX0.out.cell_ 4 (v := .int .i64 m.g.count) rfl
  have m50 := HX0.out.cell_ 5 (v := .int .i64 m.g.next) rfl
  have m60 := HX0.out.cell_ 6 (v := .int .i64 m.g.round) rfl
  have m70 := HX0.out.cell_ 7 (v := vo) rfl
  have m80 := HX0.out.cell_ 8 (v := .int .i64 m.sp) rfl
  have k00 := HK0.out.cell_ 0 (v := .int .i64 s) rfl
  have k10 := HK0.out.cell_ 1 (v := .int .i64 p) rfl
  have HMV := Lib.hid (fun W (h : MaR W vb vf vl vo m) (hf : Free W) => PutPage_any vb vf vl vo m s p f r W h hf)
  have Y0 := Lib.hid y0
  have Y1 := Lib.hid y1
  have Y2 := Lib.hid y2
  clear hM hfree hR hf y0w
  go_enter Tryz.func51, Tryz.ntmps51
  go_wp2
  go_region_held_law (fun w' => w'.cell? ⟨w.heap.size, 0, none⟩ = some vb ∧ w'.cell? ⟨w.heap.size, 1, none⟩ = some vf ∧ w'.cell? ⟨w.heap.size, 2, none⟩ = some vl ∧ w'.cell? ⟨w.heap.size, 3, none⟩ = some (.int .i64 m.c.hand) ∧ w'.cell? ⟨w.heap.size, 4, none⟩ = some (.int .i64 m.g.count) ∧ w'.cell? ⟨w.heap.size, 5, none⟩ = some (.int .i64 m.g.next) ∧ w'.cell? ⟨w.heap.size, 6, none⟩ = some (.int .i64 m.g.round) ∧ w'.cell? ⟨w.heap.size, 7, none⟩ = some vo ∧ w'.cell? ⟨w.heap.size, 8, none⟩ = some (.int .i64 m.sp) ∧ w'.cell? ⟨w.heap.size + 1, 0, none⟩ = some (.int .i64 s) ∧ w'.cell? ⟨w.heap.size + 1, 1, none⟩ = some (.int .i64 p) ∧ w'.cell? ⟨gf, 0, none⟩ = some (.slice (some ⟨b5, o5, none⟩) fs.length c) ∧ w'.cell? ⟨gr, 0, none⟩ = some (.int .i64 r) ∧ w'.cell? ⟨b5, o5 + i, none⟩ = some (.int .i64 f)) (go_keep) (first
    | (go_at_call 52
       refine (HMV.out _ (HM.out.now (bD HB0.out)) (HF.out.now (bD HB0.out))).mono ?_
       rintro _ w1 ⟨_, rfl, e1, e2, e3, e4, rfl, hM1, hb1⟩
       have HB1 := Lib.hid (bT (bD HB0.out) hb1)
       have HX1 := Lib.hid (HX0.out.drew.below hb1)
       have HK1 := Lib.hid (HK0.out.drew.below hb1)
       have HR1 := Lib.hid (HR0.out.drew.below hb1)
       have HM1 := Lib.hid (hM1.mono (B' := w.heap.size + 3) (Nat.le_of_eq hs0.symm))
       have z0 := (hb1.cell (p := ⟨b5, o5 + i, none⟩) (Nat.lt_of_lt_of_le hb5 HB0.out.size)).trans (show W0.drew.cell? _ = _ from Y0.out)
       have z1 := (hb1.cell (p := ⟨gf, 0, none⟩) (Nat.lt_of_lt_of_le hgf HB0.out.size)).trans (show W0.drew.cell? _ = _ from Y1.out)
       have z2 := (hb1.cell (p := ⟨gr, 0, none⟩) (Nat.lt_of_lt_of_le hgr HB0.out.size)).trans (show W0.drew.cell? _ = _ from Y2.out)
       have m01 := HX1.out.cell_ 0 (v := vb) rfl
       have m11 := HX1.out.cell_ 1 (v := vf) rfl
       have m21 := HX1.out.cell_ 2 (v := vl) rfl
       have m31 := HX1.out.cell_ 3 (v := .int .i64 m.c.hand) rfl
       have m41 := HX1.out.cell_ 4 (v := .int .i64 m.g.count) rfl
       have m51 := HX1.out.cell_ 5 (v := .int .i64 m.g.next) rfl
       have m61 := HX1.out.cell_ 6 (v := .int .i64 m.g.round) rfl
       have m71 := HX1.out.cell_ 7 (v := vo) rfl
       have m81 := HX1.out.cell_ 8 (v := .int .i64 m.sp) rfl
       have k01 := HK1.out.cell_ 0 (v := .int .i64 s) rfl
       have k11 := HK1.out.cell_ 1 (v := .int .i64 p) rfl
       have r0x := HR1.out.cell_ 0 (v := .slice none 0 0) rfl
       have r1x := HR1.out.cell_ 1 (v := .slice none 0 0) rfl
       have r2x := HR1.out.cell_ 2 (v := .slice none 0 0) rfl
       have r3x := HR1.out.cell_ 3 (v := .int .i64 0) rfl
       have r4x := HR1.out.cell_ 4 (v := .int .i64 0) rfl
       have r5x := HR1.out.cell_ 5 (v := .int .i64 0) rfl
       have r6x := HR1.out.cell_ 6 (v := .int .i64 0) rfl
       have r7x := HR1.out.cell_ 7 (v := .slice none 0 0) rfl
       have r8x := HR1.out.cell_ 8 (v := .int .i64 0) rfl
       have z0x := HR1.out.free 0
       have z1x := HR1.out.free 1
       have z2x := HR1.out.free 2
       have z3x := HR1.out.free 3
       have z4x := HR1.out.free 4
       have z5x := HR1.out.free 5
       have z6x := HR1.out.free 6
       have z7x := HR1.out.free 7
       have z8x := HR1.out.free 8
       obtain ⟨E1, n1, rfl, _⟩ := HM1.out.t.b
       obtain ⟨E2, n2, rfl, _⟩ := HM1.out.t.f
       obtain ⟨E3, n3, rfl, _⟩ := HM1.out.l
       obtain ⟨E4, n4, rfl, _⟩ := HM1.out.o
       have h7x : w.heap.size + 1 + 1 ≠ w.heap.size := by omega
       have h8x : w.heap.size ≠ w.heap.size + 1 + 1 := by omega
       have h9x : w.heap.size + 1 + 1 ≠ w.heap.size + 1 := by omega
       have h10x : w.heap.size + 1 ≠ w.heap.size + 1 + 1 := by omega
       have h1x : w.heap.size + 1 + 1 ≠ b5 := by omega
       have h2x : w.heap.size + 1 + 1 ≠ gf := by omega
       have h3x : w.heap.size + 1 + 1 ≠ gr := by omega
       have h4x : b5 ≠ w.heap.size + 1 + 1 := by omega
       have h5x : gf ≠ w.heap.size + 1 + 1 := by omega
       have h6x : gr ≠ w.heap.size + 1 + 1 := by omega
       clear hM1 hb1 m00 m10 m20 m30 m40 m50 m60 m70 m80 k00 k10 y0 y1 y2))
  all_goals
    go_wp2
    have o3 := HR1.out.set9 (.slice E1 (putV m s p f r).t.bs.length n1) (.slice E2 (putV m s p f r).t.fs.length n2) (.slice E3 (putV m s p f r).c.ls.length n3) (.int .i64 (putV m s p f r).c.hand) (.int .i64 (putV m s p f r).g.count) (.int .i64 (putV m s p f r).g.next) (.int .i64 (putV m s p f r).g.round) (.slice E4 (putV m s p f r).g.os.length n4) (.int .i64 (putV m s p f r).sp)
    have p0t := o3.cell_ 0 (v := .slice E1 (putV m s p f r).t.bs.length n1) rfl
    have p1t := o3.cell_ 1 (v := .slice E2 (putV m s p f r).t.fs.length n2) rfl
    have p2t := o3.cell_ 2 (v := .slice E3 (putV m s p f r).c.ls.length n3) rfl
    have p3t := o3.cell_ 3 (v := .int .i64 (putV m s p f r).c.hand) rfl
    have p4t := o3.cell_ 4 (v := .int .i64 (putV m s p f r).g.count) rfl
    have p5t := o3.cell_ 5 (v := .int .i64 (putV m s p f r).g.next) rfl
    have p6t := o3.cell_ 6 (v := .int .i64 (putV m s p f r).g.round) rfl
    have p7t := o3.cell_ 7 (v := .slice E4 (putV m s p f r).g.os.length n4) rfl
    have p8t := o3.cell_ 8 (v := .int .i64 (putV m s p f r).sp) rfl
    refine bodyPost_ret (v := .tuple #[.agg #[.slice E1 (putV m s p f r).t.bs.length n1, .slice E2 (putV m s p f r).t.fs.length n2, .slice E3 (putV m s p f r).c.ls.length n3, .int .i64 (putV m s p f r).c.hand, .int .i64 (putV m s p f r).g.count, .int .i64 (putV m s p f r).g.next, .int .i64 (putV m s p f r).g.round, .slice E4 (putV m s p f r).g.os.length n4, .int .i64 (putV m s p f r).sp], .bool (putOK m s p f r)]) (by simp [results, Tryz.results51, go_sem, p0t, p1t, p2t, p3t, p4t, p5t, p6t, p7t, p8t]) rfl ⟨_, rfl, _, _, _, _, rfl, ?_, ?_⟩
    · exact (HM1.out.far9 HR1.out _ _ _ _ _ _ _ _ _).mono (by omega)
    · repeat (refine bS ?_ (by simp <;> omega))
      exact HB1.out
end Go.Proofs.YtnaagdmaggdbmaaGreatDoor
