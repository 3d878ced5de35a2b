/- A part of the proofs of this seat: LPp. -/
import Derived.Test.YtnaagdmaggdbmaaGreatDoorQCp6
import Derived.Test.YtnaagdmaggdbmaaGreatDoorQMark
import Derived.Test.YtnaagdmaggdbmaaGreatDoorQDraw
import Derived.Test.YtnaagdmaggdbmaaGreatDoorQDpr
import Derived.Test.YtnaagdmaggdbmaaGreatDoorQPlr
set_option linter.unusedVariables false
set_option linter.unusedSimpArgs false
namespace Go.Proofs.YtnaagdmaggdbmaaGreatDoor.lPutParts
open Go.RowKit
set_option linter.unusedVariables false
set_option maxRecDepth 1000000
theorem slm_rs {B n c : Nat} {e : TypeId} {w : World} {A : Option Addr} {l : List Int} (h : SlM intE e B w (.slice A n c) l) : Rs intE w.heap.size w A l := by
 obtain ⟨A', c', e', _, _, h4⟩ := h
 injection e' with e1
 subst e1
 exact h4.is
theorem rs_to {B c : Nat} {w : World} {A : Option Addr} {l : List Int} (h : Rs intE B w A l) (h1 : 1 ≤ l.length) (h2 : l.length ≤ c) : Rs intE B w A (l.take 1) := by
 have h3 := h.cut (c := c) (lo := 0) (hi := 1) (by omega) h1 h2
 rw [intE.cells_take l 1, Nat.zero_mul, List.drop_zero, Nat.sub_zero] at h3
 have e : cutA A c 0 intE.sz = A := cutA_zero _ _ _
 rw [e] at h3
 unfold Rs
 rw [show (l.take 1).length = 1 by simp; omega]
 exact h3
theorem rs_from {B c : Nat} {w : World} {A : Option Addr} {l : List Int} (h : Rs intE B w A l) (h1 : 1 ≤ l.length) (h2 : l.length ≤ c) : Rs intE B w (cutA A c 1 1) (l.drop 1) := by
 have h3 := h.cut (c := c) (lo := 1) (hi := l.length) h1 (Nat.le_refl _) h2
 rw [intE.cells_take l l.length, List.take_length, intE.cells_drop l 1] at h3
 unfold Rs
 rw [show (l.drop 1).length = l.length - 1 by simp]
 exact h3
theorem cut_hi (A : Option Addr) (n c : Nat) (h : 1 ≤ c) (W : World) : (Instr.slice 23 (.slice A n c) none (some (.int .i64 1)) none).run Tryz.prog W = .ok (.slice A 1 c) W := by
 obtain ⟨i0, hi0, hz0, hz1, hz2⟩ := info_parts int_info2
 have h1 := slice_hi (P := Tryz.prog) W 23 3 i0 1 A n c Tryz.underlying23 hi0 1 (by omega) (by omega)
 rw [cutA_zero] at h1
 exact h1
theorem cut_lo (A : Option Addr) (n c : Nat) (h : 1 ≤ n) (W : World) : (Instr.slice 23 (.slice A n c) (some (.int .i64 1)) none none).run Tryz.prog W = .ok (.slice (cutA A c 1 1) (n - 1) (c - 1)) W := by
 obtain ⟨i0, hi0, hz0, hz1, hz2⟩ := info_parts int_info2
 exact slice_lo (P := Tryz.prog) W 23 3 i0 1 A n c Tryz.underlying23 hi0 hz1 1 (by omega) (by omega)
def isT (Y m : Ma) (e1 e2 e3 e4 u : Value) : Prop := m = Y ∧ u = .tuple #[.agg #[e1, e2, e3, .int .i64 m.c.hand, .int .i64 m.g.count, .int .i64 m.g.next, .int .i64 m.g.round, e4, .int .i64 m.sp], .bool true]
set_option maxHeartbeats 4000000 in
theorem walk (a0 : Option Addr) (len0 cap0 : Nat) (z0 : List Int) (w : World) (w0 : IsRow .u8 w a0 len0 cap0 z0) (hfree : Free w) :
  Calls Tryz.prog 3 #[.slice a0 len0 cap0] w fun e w' => e = .returned (.bool true) ∧ Below w.heap.size w w' := by
 by_cases hbig : 1048576 < len0
 ·go_enter Tryz.func3, Tryz.ntmps3
  go_wp2
  go_ret
  exact ⟨rfl, by repeat first | exact bR | refine bA ?_⟩
 have hcap := row_cap w0
 have hby := Lib.hid (row_bytes w0)
 have HF := Lib.hid hfree
 clear w0 hfree
 go_enter Tryz.func3, Tryz.ntmps3
 go_wp2_with fail
 refine (DrawPutRange_any a0 len0 cap0 w hby.out hcap (by omega)).mono ?_
 rintro e w1 ⟨_, rfl, m, v1, v2, v3, v4, s, p, r, A, c, fs, rfl, hM, hz, hS, hfl, hsp, hb1⟩
 obtain ⟨A1, c1, rfl, _⟩ := hM.t.b
 obtain ⟨A2, c2, rfl, _⟩ := hM.t.f
 obtain ⟨A3, c3, rfl, _⟩ := hM.l
 obtain ⟨A4, c4, rfl, _⟩ := hM.o
 obtain ⟨A', c', e', hsl1, hsl2, hmi⟩ := id hS
 injection e' with e1 e2 e3
 subst e1 e3
 clear e2
 have hsp1 := hsp.1
 have hsp2 := hsp.2
 have hx := (Own.new_ w1 34 #[.slice A1 m.t.bs.length c1, .slice A2 m.t.fs.length c2, .slice A3 m.c.ls.length c3, .int .i64 m.c.hand, .int .i64 m.g.count, .int .i64 m.g.next, .int .i64 m.g.round, .slice A4 m.g.os.length c4, .int .i64 m.sp]).alloc (o := .cells #[.int .i64 s, .int .i64 p] 36)
 have hk := ownAt (W := w1.alloc (.cells #[.slice A1 m.t.bs.length c1, .slice A2 m.t.fs.length c2, .slice A3 m.c.ls.length c3, .int .i64 m.c.hand, .int .i64 m.g.count, .int .i64 m.g.next, .int .i64 m.g.round, .slice A4 m.g.os.length c4, .int .i64 m.sp] 34)) (g := w1.heap.size + 1) (t := 36) (cs := #[.int .i64 s, .int .i64 p]) (by simp)
 have hb2 : Below w1.heap.size w1 ((w1.alloc (.cells #[.slice A1 m.t.bs.length c1, .slice A2 m.t.fs.length c2, .slice A3 m.c.ls.length c3, .int .i64 m.c.hand, .int .i64 m.g.count, .int .i64 m.g.next, .int .i64 m.g.round, .slice A4 m.g.os.length c4, .int .i64 m.sp] 34)).alloc (.cells #[.int .i64 s, .int .i64 p] 36)) := bA (bA bR)
 generalize hW2 : (w1.alloc (.cells #[.slice A1 m.t.bs.length c1, .slice A2 m.t.fs.length c2, .slice A3 m.c.ls.length c3, .int .i64 m.c.hand, .int .i64 m.g.count, .int .i64 m.g.next, .int .i64 m.g.round, .slice A4 m.g.os.length c4, .int .i64 m.sp] 34)).alloc (.cells #[.int .i64 s, .int .i64 p] 36) = w2 at hx hk hb2
 have HM := Lib.hid (hM.now hb2)
 have HS := Lib.hid (hS.now hb2)
 have HX := Lib.hid hx
 have HK := Lib.hid hk
 have HB := Lib.hid (bT hb1 hb2)
 have hs1 := hb1.size
 clear hM hS hx hk hb1 hb2 hmi
 have p0a := HX.out.cell_ 0 (v := .slice A1 m.t.bs.length c1) rfl
 have p1a := HX.out.cell_ 1 (v := .slice A2 m.t.fs.length c2) rfl
 have p2a := HX.out.cell_ 2 (v := .slice A3 m.c.ls.length c3) rfl
 have p3a := HX.out.cell_ 3 (v := .int .i64 m.c.hand) rfl
 have p4a := HX.out.cell_ 4 (v := .int .i64 m.g.count) rfl
 have p5a := HX.out.cell_ 5 (v := .int .i64 m.g.next) rfl
 have p6a := HX.out.cell_ 6 (v := .int .i64 m.g.round) rfl
 have p7a := HX.out.cell_ 7 (v := .slice A4 m.g.os.length c4) rfl
 have p8a := HX.out.cell_ 8 (v := .int .i64 m.sp) rfl
 have y0a := HK.out.cell_ 0 (v := .int .i64 s) rfl
 have y1a := HK.out.cell_ 1 (v := .int .i64 p) rfl
 go_wp2_with fail
 try rw [hW2]
 refine (PutRange_any _ _ _ _ m s p r A c fs w2 HM.out.r (HF.out.now HB.out) (slm_rs HS.out) (by omega)).mono ?_
 rintro e w3 ⟨_, rfl, u1, u2, u3, u4, rfl, hM3, hb3⟩
 clear p0a p1a p2a p3a p4a p5a p6a p7a p8a y0a y1a hW2
 have hO : Hid (prgV m s p fs r = (prgO m s p fs r).getD maz) := rfl
 generalize hV : prgV m s p fs r = V at hM3 hO ⊢
 generalize hOk : (prgO m s p fs r).isSome = O
 obtain ⟨B1, d1, rfl, _⟩ := hM3.t.b
 obtain ⟨B2, d2, rfl, _⟩ := hM3.t.f
 obtain ⟨B3, d3, rfl, _⟩ := hM3.l
 obtain ⟨B4, d4, rfl, _⟩ := hM3.o
 have hy := Own.new_ w3 34 #[.slice B1 V.t.bs.length d1, .slice B2 V.t.fs.length d2, .slice B3 V.c.ls.length d3, .int .i64 V.c.hand, .int .i64 V.g.count, .int .i64 V.g.next, .int .i64 V.g.round, .slice B4 V.g.os.length d4, .int .i64 V.sp]
 have hb4 : Below w3.heap.size w3 (w3.alloc (.cells #[.slice B1 V.t.bs.length d1, .slice B2 V.t.fs.length d2, .slice B3 V.c.ls.length d3, .int .i64 V.c.hand, .int .i64 V.g.count, .int .i64 V.g.next, .int .i64 V.g.round, .slice B4 V.g.os.length d4, .int .i64 V.sp] 34)) := bA bR
 generalize hW4 : w3.alloc (.cells #[.slice B1 V.t.bs.length d1, .slice B2 V.t.fs.length d2, .slice B3 V.c.ls.length d3, .int .i64 V.c.hand, .int .i64 V.g.count, .int .i64 V.g.next, .int .i64 V.g.round, .slice B4 V.g.os.length d4, .int .i64 V.sp] 34) = w4 at hy hb4
 have HM4 := Lib.hid ((HM.out.now hb3).now hb4)
 have HS4 := Lib.hid ((HS.out.now hb3).now hb4)
 have HX4 := Lib.hid ((HX.out.below hb3).below hb4)
 have HK4 := Lib.hid ((HK.out.below hb3).below hb4)
 have HB4 := Lib.hid (bT (bT HB.out hb3) hb4)
 have HV4 := Lib.hid (hM3.now hb4)
 have HY4 := Lib.hid hy
 have hs3 := hb3.size
 clear hM3 hb3 hb4 hy HM HS HX HK HB hV
 have p0a := HX4.out.cell_ 0 (v := .slice A1 m.t.bs.length c1) rfl
 have p1a := HX4.out.cell_ 1 (v := .slice A2 m.t.fs.length c2) rfl
 have p2a := HX4.out.cell_ 2 (v := .slice A3 m.c.ls.length c3) rfl
 have p3a := HX4.out.cell_ 3 (v := .int .i64 m.c.hand) rfl
 have p4a := HX4.out.cell_ 4 (v := .int .i64 m.g.count) rfl
 have p5a := HX4.out.cell_ 5 (v := .int .i64 m.g.next) rfl
 have p6a := HX4.out.cell_ 6 (v := .int .i64 m.g.round) rfl
 have p7a := HX4.out.cell_ 7 (v := .slice A4 m.g.os.length c4) rfl
 have p8a := HX4.out.cell_ 8 (v := .int .i64 m.sp) rfl
 have y0a := HK4.out.cell_ 0 (v := .int .i64 s) rfl
 have y1a := HK4.out.cell_ 1 (v := .int .i64 p) rfl
 go_wp2_with fail
 try rw [hW4]
 refine (sPutRange_any _ _ _ _ m s p A c fs r w4 HM4.out.r (slm_rs HS4.out) (by omega) (by omega)).mono ?_
 rintro e w5 ⟨_, rfl, u1, u2, u3, u4, rfl, hM5, hb5⟩
 clear p0a p1a p2a p3a p4a p5a p6a p7a p8a y0a y1a hW4
 have hO2 : prgV m s p fs r = V := hO.out.symm
 rw [hO2] at hM5
 rw [hO2, hOk]
 clear hO2
 obtain ⟨C1, e1, rfl, _⟩ := hM5.t.b
 obtain ⟨C2, e2, rfl, _⟩ := hM5.t.f
 obtain ⟨C3, e3, rfl, _⟩ := hM5.l
 obtain ⟨C4, e4, rfl, _⟩ := hM5.o
 have hy := Own.new_ w5 34 #[.slice C1 V.t.bs.length e1, .slice C2 V.t.fs.length e2, .slice C3 V.c.ls.length e3, .int .i64 V.c.hand, .int .i64 V.g.count, .int .i64 V.g.next, .int .i64 V.g.round, .slice C4 V.g.os.length e4, .int .i64 V.sp]
 have hb6 : Below w5.heap.size w5 (w5.alloc (.cells #[.slice C1 V.t.bs.length e1, .slice C2 V.t.fs.length e2, .slice C3 V.c.ls.length e3, .int .i64 V.c.hand, .int .i64 V.g.count, .int .i64 V.g.next, .int .i64 V.g.round, .slice C4 V.g.os.length e4, .int .i64 V.sp] 34)) := bA bR
 generalize hW6 : w5.alloc (.cells #[.slice C1 V.t.bs.length e1, .slice C2 V.t.fs.length e2, .slice C3 V.c.ls.length e3, .int .i64 V.c.hand, .int .i64 V.g.count, .int .i64 V.g.next, .int .i64 V.g.round, .slice C4 V.g.os.length e4, .int .i64 V.sp] 34) = w6 at hy hb6
 have HM6 := Lib.hid ((HM4.out.now hb5).now hb6)
 have HS6 := Lib.hid ((HS4.out.now hb5).now hb6)
 have HX6 := Lib.hid ((HX4.out.below hb5).below hb6)
 have HK6 := Lib.hid ((HK4.out.below hb5).below hb6)
 have HB6 := Lib.hid (bT (bT HB4.out hb5) hb6)
 have HV6 := Lib.hid ((HV4.out.now hb5).now hb6)
 have HY6 := Lib.hid ((HY4.out.below hb5).below hb6)
 have HU6 := Lib.hid (hM5.now hb6)
 have HZ6 := Lib.hid hy
 have hs5 := hb5.size
 have hs4 := HY4.out.lt
 clear hM5 hb5 hb6 hy HM4 HS4 HX4 HK4 HB4 HV4 HY4
 have p0a := HY6.out.cell_ 0 (v := .slice B1 V.t.bs.length d1) rfl
 have p1a := HY6.out.cell_ 1 (v := .slice B2 V.t.fs.length d2) rfl
 have p2a := HY6.out.cell_ 2 (v := .slice B3 V.c.ls.length d3) rfl
 have p3a := HY6.out.cell_ 3 (v := .int .i64 V.c.hand) rfl
 have p4a := HY6.out.cell_ 4 (v := .int .i64 V.g.count) rfl
 have p5a := HY6.out.cell_ 5 (v := .int .i64 V.g.next) rfl
 have p6a := HY6.out.cell_ 6 (v := .int .i64 V.g.round) rfl
 have p7a := HY6.out.cell_ 7 (v := .slice B4 V.g.os.length d4) rfl
 have p8a := HY6.out.cell_ 8 (v := .int .i64 V.sp) rfl
 have p0b := HZ6.out.cell_ 0 (v := .slice C1 V.t.bs.length e1) rfl
 have p1b := HZ6.out.cell_ 1 (v := .slice C2 V.t.fs.length e2) rfl
 have p2b := HZ6.out.cell_ 2 (v := .slice C3 V.c.ls.length e3) rfl
 have p3b := HZ6.out.cell_ 3 (v := .int .i64 V.c.hand) rfl
 have p4b := HZ6.out.cell_ 4 (v := .int .i64 V.g.count) rfl
 have p5b := HZ6.out.cell_ 5 (v := .int .i64 V.g.next) rfl
 have p6b := HZ6.out.cell_ 6 (v := .int .i64 V.g.round) rfl
 have p7b := HZ6.out.cell_ 7 (v := .slice C4 V.g.os.length e4) rfl
 have p8b := HZ6.out.cell_ 8 (v := .int .i64 V.sp) rfl
 go_wp2_with fail
 try rw [hW6]
 refine (MachineSame_same _ _ _ _ _ _ _ _ V w6 HV6.out.r HU6.out.r).mono ?_
 rintro e w7 ⟨rfl, hb7⟩
 clear p0a p1a p2a p3a p4a p5a p6a p7a p8a p0b p1b p2b p3b p4b p5b p6b p7b p8b hW6
 have HM7 := Lib.hid (HM6.out.now hb7)
 have HS7 := Lib.hid (HS6.out.now hb7)
 have HX7 := Lib.hid (HX6.out.below hb7)
 have HK7 := Lib.hid (HK6.out.below hb7)
 have HB7 := Lib.hid (bT HB6.out hb7)
 have HV7 := Lib.hid (HV6.out.now hb7)
 have HY7 := Lib.hid (HY6.out.below hb7)
 have HU7 := Lib.hid (HU6.out.now hb7)
 have HZ7 := Lib.hid (HZ6.out.below hb7)
 clear HM6 HS6 HX6 HK6 HB6 HV6 HY6 HU6 HZ6 hb7
 by_cases hgo : O = true ∧ 2 ≤ fs.length
 ·obtain ⟨rfl, h2⟩ := hgo
  have hl2 : decide ((fs.length : Int) < 2) = false := by simp; omega
  obtain ⟨Y, hY1, hY2⟩ : ∃ y, prgO m s p (fs.take 1) r = some y ∧ prgO y s (p + 1) (fs.drop 1) r = some V := by
   have hv : prgO m s p fs r = some V := by
    cases h : prgO m s p fs r with
    | none => rw [h] at hOk; cases hOk
    | some x =>
     have h3 : V = x := by have := hO.out; rw [h] at this; exact this
     rw [h3]
   obtain ⟨a, fs', hfs⟩ : ∃ a fs', fs = a :: fs' := by
    cases fs with
    | nil => simp at h2
    | cons a l => exact ⟨a, l, rfl⟩
   have hl3 : 1 ≤ fs'.length := by rw [hfs] at h2; simp only [List.length_cons] at h2; omega
   rw [hfs] at hv ⊢
   exact prg_parts hv hl3
  have hp1 : IntKind.i64.wrap (p + 1) = p + 1 := IntWalk.i64_in _ (by omega)
  have HS1 := Lib.hid (cut_hi A fs.length c (by omega))
  have HS2 := Lib.hid (cut_lo A fs.length c (by omega))
  have K8 : Hid (∀ W, Below w7.heap.size w7 W → Calls Tryz.prog 14 #[.agg #[.slice A1 m.t.bs.length c1, .slice A2 m.t.fs.length c2, .slice A3 m.c.ls.length c3, .int .i64 m.c.hand, .int .i64 m.g.count, .int .i64 m.g.next, .int .i64 m.g.round, .slice A4 m.g.os.length c4, .int .i64 m.sp], .agg #[.int .i64 s, .int .i64 p], .slice A 1 c, .int .i64 r] W (Post2 fun v w' => ∃ v1 v2 v3 v4, v = .tuple #[.agg #[v1, v2, v3, .int .i64 Y.c.hand, .int .i64 Y.g.count, .int .i64 Y.g.next, .int .i64 Y.g.round, v4, .int .i64 Y.sp], .bool true] ∧ MaM W.heap.size w' v1 v2 v3 v4 Y ∧ Below W.heap.size W w')) := by
   intro W hb
   have h := PutRange_any _ _ _ _ m s p r A c (fs.take 1) W (HM7.out.now hb).r (HF.out.now (bT HB7.out hb)) (rs_to (slm_rs (HS7.out.now hb)) (by omega) hsl1) (by simp; omega)
   rw [show prgV m s p (fs.take 1) r = Y by unfold prgV; rw [hY1]; rfl, show (prgO m s p (fs.take 1) r).isSome = true by rw [hY1]; rfl, show (fs.take 1).length = 1 by simp; omega] at h
   exact h
  have p0a := HX7.out.cell_ 0 (v := .slice A1 m.t.bs.length c1) rfl
  have p1a := HX7.out.cell_ 1 (v := .slice A2 m.t.fs.length c2) rfl
  have p2a := HX7.out.cell_ 2 (v := .slice A3 m.c.ls.length c3) rfl
  have p3a := HX7.out.cell_ 3 (v := .int .i64 m.c.hand) rfl
  have p4a := HX7.out.cell_ 4 (v := .int .i64 m.g.count) rfl
  have p5a := HX7.out.cell_ 5 (v := .int .i64 m.g.next) rfl
  have p6a := HX7.out.cell_ 6 (v := .int .i64 m.g.round) rfl
  have p7a := HX7.out.cell_ 7 (v := .slice A4 m.g.os.length c4) rfl
  have p8a := HX7.out.cell_ 8 (v := .int .i64 m.sp) rfl
  have y0a := HK7.out.cell_ 0 (v := .int .i64 s) rfl
  have y1a := HK7.out.cell_ 1 (v := .int .i64 p) rfl
  go_wp2
  clear p0a p1a p2a p3a p4a p5a p6a p7a p8a y0a y1a
  -- REGIONS
  refine wp_region_rel2 (by kernel_rfl) [68, 69, 70, 71, 72, 73, 67, 74, 75, 11, 12] [[68], [69], [70], [71], [72], [73], [67], [67, 74], [75], [11], [67, 11], [12]] (fun _ v => Below w7.heap.size w7 v) (kxs (si := 10) [KX.eq 68 (.agg #[.slice A1 m.t.bs.length c1, .slice A2 m.t.fs.length c2, .slice A3 m.c.ls.length c3, .int .i64 m.c.hand, .int .i64 m.g.count, .int .i64 m.g.next, .int .i64 m.g.round, .slice A4 m.g.os.length c4, .int .i64 m.sp]), KX.eq 69 (.agg #[.int .i64 s, .int .i64 p]), KX.eq 70 (.slice A fs.length c), KX.eq 71 (.slice A 1 c), KX.eq 72 (.int .i64 r), KX.tup 73 w7.heap.size (isT Y), KX.tup 67 w7.heap.size (isT Y), KX.fst 67 74 w7.heap.size (isT Y), KX.eq 75 (.bool true), KX.box 11 w7.heap.size, KX.stored 67 11 w7.heap.size w7.heap.size (isT Y), KX.eq 12 (.bool true)]) (tX 10) (by kernel_rfl) (bD bR) (kxs_loc (si := 10) (ks := [KX.eq 68 (.agg #[.slice A1 m.t.bs.length c1, .slice A2 m.t.fs.length c2, .slice A3 m.c.ls.length c3, .int .i64 m.c.hand, .int .i64 m.g.count, .int .i64 m.g.next, .int .i64 m.g.round, .slice A4 m.g.os.length c4, .int .i64 m.sp]), KX.eq 69 (.agg #[.int .i64 s, .int .i64 p]), KX.eq 70 (.slice A fs.length c), KX.eq 71 (.slice A 1 c), KX.eq 72 (.int .i64 r), KX.tup 73 w7.heap.size (isT Y), KX.tup 67 w7.heap.size (isT Y), KX.fst 67 74 w7.heap.size (isT Y), KX.eq 75 (.bool true), KX.box 11 w7.heap.size, KX.stored 67 11 w7.heap.size w7.heap.size (isT Y), KX.eq 12 (.bool true)])) kxs_keep ?_ ?_
  ·intro i o ho D x v hD hC hd K hK
   match i, ho with
   | 0, ho =>
    simp only [List.getElem?_toArray, List.getElem?_cons_zero, List.getElem?_cons_succ, Option.some.injEq] at ho
    subst ho
    simp only [fillA, Act.put, List.setIfInBounds_toArray, List.set_cons_zero, List.set_cons_succ] at hK ⊢
    have hx := HX7.out.below hC
    have z0 := hx.cell_ 0 (v := .slice A1 m.t.bs.length c1) rfl
    have z1 := hx.cell_ 1 (v := .slice A2 m.t.fs.length c2) rfl
    have z2 := hx.cell_ 2 (v := .slice A3 m.c.ls.length c3) rfl
    have z3 := hx.cell_ 3 (v := .int .i64 m.c.hand) rfl
    have z4 := hx.cell_ 4 (v := .int .i64 m.g.count) rfl
    have z5 := hx.cell_ 5 (v := .int .i64 m.g.next) rfl
    have z6 := hx.cell_ 6 (v := .int .i64 m.g.round) rfl
    have z7 := hx.cell_ 7 (v := .slice A4 m.g.os.length c4) rfl
    have z8 := hx.cell_ 8 (v := .int .i64 m.sp) rfl
    go_simp
    exact hK _ _ (tX_same (by decide)) hC rfl
   | 1, ho =>
    simp only [List.getElem?_toArray, List.getElem?_cons_zero, List.getElem?_cons_succ, Option.some.injEq] at ho
    subst ho
    simp only [fillA, Act.put, List.setIfInBounds_toArray, List.set_cons_zero, List.set_cons_succ] at hK ⊢
    have hx := HK7.out.below hC
    have z0 := hx.cell_ 0 (v := .int .i64 s) rfl
    have z1 := hx.cell_ 1 (v := .int .i64 p) rfl
    go_simp
    exact hK _ _ (tX_same (by decide)) hC rfl
   | 2, ho =>
    simp only [List.getElem?_toArray, List.getElem?_cons_zero, List.getElem?_cons_succ, Option.some.injEq] at ho
    subst ho
    simp only [fillA, Act.put, List.setIfInBounds_toArray, List.set_cons_zero, List.set_cons_succ] at hK ⊢
    go_simp
    exact hK _ _ (tX_same (by decide)) hC rfl
   | 3, ho =>
    simp only [List.getElem?_toArray, List.getElem?_cons_zero, List.getElem?_cons_succ, Option.some.injEq] at ho
    subst ho
    simp only [fillA, Act.put, List.setIfInBounds_toArray, List.set_cons_zero, List.set_cons_succ] at hK ⊢
    have d2 := hd 2 ⟨⟨2, .data⟩, by simp, rfl, rfl⟩
    change x 70 = .slice A fs.length c at d2
    simp only [d2] at hK ⊢
    have hs := HS1.out v
    go_simp
    exact hK _ _ (tX_same (by decide)) hC rfl
   | 4, ho =>
    simp only [List.getElem?_toArray, List.getElem?_cons_zero, List.getElem?_cons_succ, Option.some.injEq] at ho
    subst ho
    simp only [fillA, Act.put, List.setIfInBounds_toArray, List.set_cons_zero, List.set_cons_succ] at hK ⊢
    go_simp
    exact hK _ _ (tX_same (by decide)) hC rfl
   | 5, ho =>
    simp only [List.getElem?_toArray, List.getElem?_cons_zero, List.getElem?_cons_succ, Option.some.injEq] at ho
    subst ho
    simp only [fillA, Act.put, List.setIfInBounds_toArray, List.set_cons_zero, List.set_cons_succ] at hK ⊢
    have d0 := hd 0 ⟨⟨0, .data⟩, by simp, rfl, rfl⟩
    change x 68 = .agg #[.slice A1 m.t.bs.length c1, .slice A2 m.t.fs.length c2, .slice A3 m.c.ls.length c3, .int .i64 m.c.hand, .int .i64 m.g.count, .int .i64 m.g.next, .int .i64 m.g.round, .slice A4 m.g.os.length c4, .int .i64 m.sp] at d0
    have d1 := hd 1 ⟨⟨1, .data⟩, by simp, rfl, rfl⟩
    change x 69 = .agg #[.int .i64 s, .int .i64 p] at d1
    have d3 := hd 3 ⟨⟨3, .data⟩, by simp, rfl, rfl⟩
    change x 71 = .slice A 1 c at d3
    have d4 := hd 4 ⟨⟨4, .data⟩, by simp, rfl, rfl⟩
    change x 72 = .int .i64 r at d4
    simp only [d0, d1, d3, d4] at hK ⊢
    go_wp2_with fail
    refine (K8.out v hC).mono ?_
    rintro e v' ⟨_, rfl, f1, f2, f3, f4, rfl, hm2, hb⟩
    go_simp
    exact hK _ _ (tX_below (by decide) hb) (bT hC hb) ⟨Y, f1, f2, f3, f4, ⟨rfl, rfl⟩, hm2.mono hC.size⟩
   | 6, ho =>
    simp only [List.getElem?_toArray, List.getElem?_cons_zero, List.getElem?_cons_succ, Option.some.injEq] at ho
    subst ho
    simp only [fillA, Act.put, List.setIfInBounds_toArray, List.set_cons_zero, List.set_cons_succ] at hK ⊢
    obtain ⟨m', e1, e2, e3, e4, ⟨rfl, hx⟩, hm⟩ := hd 5 ⟨⟨5, .data⟩, by simp, rfl, rfl⟩
    change x 73 = _ at hx
    simp only [hx] at hK ⊢
    go_simp
    exact hK _ _ (tX_same (by decide)) hC ⟨_, e1, e2, e3, e4, ⟨rfl, rfl⟩, hm⟩
   | 7, ho =>
    simp only [List.getElem?_toArray, List.getElem?_cons_zero, List.getElem?_cons_succ, Option.some.injEq] at ho
    subst ho
    simp only [fillA, Act.put, List.setIfInBounds_toArray, List.set_cons_zero, List.set_cons_succ] at hK ⊢
    obtain ⟨m', e1, e2, e3, e4, ⟨rfl, hx⟩, hm⟩ := hd 6 ⟨⟨6, .data⟩, by simp, rfl, rfl⟩
    change x 67 = _ at hx
    have hx' := hx
    simp only [hx'] at hK ⊢
    go_simp
    exact hK _ _ (tX_same (by decide)) hC ⟨_, e1, e2, e3, e4, ⟨rfl, hx⟩, rfl, hm⟩
   | 8, ho =>
    simp only [List.getElem?_toArray, List.getElem?_cons_zero, List.getElem?_cons_succ, Option.some.injEq] at ho
    subst ho
    simp only [fillA, Act.put, List.setIfInBounds_toArray, List.set_cons_zero, List.set_cons_succ] at hK ⊢
    obtain ⟨m', e1, e2, e3, e4, ⟨rfl, hx⟩, hm⟩ := hd 6 ⟨⟨6, .data⟩, by simp, rfl, rfl⟩
    change x 67 = _ at hx
    simp only [hx] at hK ⊢
    go_simp
    exact hK _ _ (tX_same (by decide)) hC rfl
   | 9, ho =>
    simp only [List.getElem?_toArray, List.getElem?_cons_zero, List.getElem?_cons_succ, Option.some.injEq] at ho
    subst ho
    simp only [fillA, Act.put, List.setIfInBounds_toArray, List.set_cons_zero, List.set_cons_succ] at hK ⊢
    go_simp
    exact hK _ _ (tX_below (by decide) (bA bR)) (bA hC) ⟨_, _, rfl, hC.size, rfl, Own.new_ _ _ _⟩
   | 10, ho =>
    simp only [List.getElem?_toArray, List.getElem?_cons_zero, List.getElem?_cons_succ, Option.some.injEq] at ho
    subst ho
    simp only [fillA, Act.put, List.setIfInBounds_toArray, List.set_cons_zero, List.set_cons_succ] at hK ⊢
    obtain ⟨m', e1, e2, e3, e4, ⟨rfl, hf⟩, hx, hm⟩ := hd 7 ⟨⟨7, .data⟩, by simp, rfl, rfl⟩
    change x 74 = _ at hx
    change x 67 = _ at hf
    obtain ⟨gb, cs, db, hgb, hcs, ho⟩ := hd 9 ⟨⟨9, .data⟩, by simp, rfl, rfl⟩
    change x 11 = _ at db
    obtain ⟨E1, n1, rfl, _⟩ := hm.t.b
    obtain ⟨E2, n2, rfl, _⟩ := hm.t.f
    obtain ⟨E3, n3, rfl, _⟩ := hm.l
    obtain ⟨E4, n4, rfl, _⟩ := hm.o
    obtain ⟨cs⟩ := cs
    obtain ⟨k0, k1, k2, k3, k4, k5, k6, k7, k8, rfl⟩ := len_nine hcs
    have z0 := ho.cell_ 0 (v := k0) rfl
    have y0 := ho.free 0
    have z1 := ho.cell_ 1 (v := k1) rfl
    have y1 := ho.free 1
    have z2 := ho.cell_ 2 (v := k2) rfl
    have y2 := ho.free 2
    have z3 := ho.cell_ 3 (v := k3) rfl
    have y3 := ho.free 3
    have z4 := ho.cell_ 4 (v := k4) rfl
    have y4 := ho.free 4
    have z5 := ho.cell_ 5 (v := k5) rfl
    have y5 := ho.free 5
    have z6 := ho.cell_ 6 (v := k6) rfl
    have y6 := ho.free 6
    have z7 := ho.cell_ 7 (v := k7) rfl
    have y7 := ho.free 7
    have z8 := ho.cell_ 8 (v := k8) rfl
    have y8 := ho.free 8
    have hlo := ho.lt
    have hf' := Lib.hid hf
    clear hf
    simp only [hx, db] at hK ⊢
    go_simp
    refine hK undef _ (tX_store (stS_set9 ho _ _ _ _ _ _ _ _ _)) ?_ ⟨rfl, gb, _, _, _, _, _, db, hgb, ⟨rfl, hf'.out⟩, hm.oth (stS_set9 ho _ _ _ _ _ _ _ _ _).1 (by decide) (by decide) (by decide) (by decide), ho.set9 _ _ _ _ _ _ _ _ _⟩
    repeat (refine bS ?_ (by exact hgb))
    exact hC
   | 11, ho =>
    simp only [List.getElem?_toArray, List.getElem?_cons_zero, List.getElem?_cons_succ, Option.some.injEq] at ho
    subst ho
    simp only [fillA, Act.put, List.setIfInBounds_toArray, List.set_cons_zero, List.set_cons_succ] at hK ⊢
    have d8 := hd 8 ⟨⟨8, .data⟩, by simp, rfl, rfl⟩
    change x 75 = .bool true at d8
    simp only [d8] at hK ⊢
    go_simp
    exact hK _ _ (tX_same (by decide)) hC rfl
   | _ + 12, ho => simp at ho
  intro D xa w8 hD hC hd
  obtain ⟨_, gb, m', q1, q2, q3, q4, db, hgb, ⟨rfl, hf⟩, hmm, hob⟩ := hd 10 (by decide)
  change xa 11 = _ at db
  clear hf
  have dO := hd 11 (by decide)
  change xa 12 = .bool true at dO
  simp only [fillA, Act.put, List.setIfInBounds_toArray, List.set_cons_zero, List.set_cons_succ, db, dO]
  clear hd hD db dO
  obtain ⟨G1, g1, rfl, _⟩ := hmm.t.b
  obtain ⟨G2, g2, rfl, _⟩ := hmm.t.f
  obtain ⟨G3, g3, rfl, _⟩ := hmm.l
  obtain ⟨G4, g4, rfl, _⟩ := hmm.o
  have HS8 := Lib.hid (HS7.out.now hC)
  have HK8 := Lib.hid (HK7.out.below hC)
  have HB8 := Lib.hid (bT HB7.out hC)
  have HV8 := Lib.hid (HV7.out.now hC)
  have HQ8 := Lib.hid (HY7.out.below hC)
  have HY8 := Lib.hid hob
  have HMY := Lib.hid hmm
  have K9 : Hid (∀ W, Below w8.heap.size w8 W → Calls Tryz.prog 14 #[.agg #[.slice G1 m'.t.bs.length g1, .slice G2 m'.t.fs.length g2, .slice G3 m'.c.ls.length g3, .int .i64 m'.c.hand, .int .i64 m'.g.count, .int .i64 m'.g.next, .int .i64 m'.g.round, .slice G4 m'.g.os.length g4, .int .i64 m'.sp], .agg #[.int .i64 s, .int .i64 (p + 1)], .slice (cutA A c 1 1) (fs.length - 1) (c - 1), .int .i64 r] W (Post2 fun v w' => ∃ v1 v2 v3 v4, v = .tuple #[.agg #[v1, v2, v3, .int .i64 V.c.hand, .int .i64 V.g.count, .int .i64 V.g.next, .int .i64 V.g.round, v4, .int .i64 V.sp], .bool true] ∧ MaM W.heap.size w' v1 v2 v3 v4 V ∧ Below W.heap.size W w')) := by
   intro W hb
   have h := PutRange_any _ _ _ _ m' s (p + 1) r (cutA A c 1 1) (c - 1) (fs.drop 1) W (HMY.out.now hb).r (HF.out.now (bT HB8.out hb)) (rs_from (slm_rs (HS8.out.now hb)) (by omega) hsl1) (by simp; omega)
   rw [show prgV m' s (p + 1) (fs.drop 1) r = V by unfold prgV; rw [hY2]; rfl, show (prgO m' s (p + 1) (fs.drop 1) r).isSome = true by rw [hY2]; rfl, show (fs.drop 1).length = fs.length - 1 by simp] at h
   exact h
  clear HM7 HS7 HX7 HK7 HB7 HV7 HY7 HU7 HZ7 hC hob hmm K8
  go_wp2
  refine wp_region_rel2 (by kernel_rfl) [77, 78, 79, 80, 81, 82, 83, 84, 85, 86, 87, 76, 88, 89, 13, 14] [[77], [78], [79], [80], [81], [82], [83], [84], [85], [86], [87], [76], [76, 88], [89], [13], [76, 13], [14]] (fun _ v => Below w8.heap.size w8 v) (kxs (si := 15) [KX.eq 77 (.agg #[.slice G1 m'.t.bs.length g1, .slice G2 m'.t.fs.length g2, .slice G3 m'.c.ls.length g3, .int .i64 m'.c.hand, .int .i64 m'.g.count, .int .i64 m'.g.next, .int .i64 m'.g.round, .slice G4 m'.g.os.length g4, .int .i64 m'.sp]), KX.eq 78 (.pointer (some ⟨w1.heap.size + 1, 0, none⟩)), KX.eq 79 (.int .i64 s), KX.eq 80 (.pointer (some ⟨w1.heap.size + 1, 1, none⟩)), KX.eq 81 (.int .i64 p), KX.eq 82 (.int .i64 (p + 1)), KX.eq 83 (.agg #[.int .i64 s, .int .i64 (p + 1)]), KX.eq 84 (.slice A fs.length c), KX.eq 85 (.slice (cutA A c 1 1) (fs.length - 1) (c - 1)), KX.eq 86 (.int .i64 r), KX.tup 87 w8.heap.size (isT V), KX.tup 76 w8.heap.size (isT V), KX.fst 76 88 w8.heap.size (isT V), KX.eq 89 (.bool true), KX.box 13 w8.heap.size, KX.stored 76 13 w8.heap.size w8.heap.size (isT V), KX.eq 14 (.bool true)]) (tX 15) (by kernel_rfl) (bD bR) (kxs_loc (si := 15) (ks := [KX.eq 77 (.agg #[.slice G1 m'.t.bs.length g1, .slice G2 m'.t.fs.length g2, .slice G3 m'.c.ls.length g3, .int .i64 m'.c.hand, .int .i64 m'.g.count, .int .i64 m'.g.next, .int .i64 m'.g.round, .slice G4 m'.g.os.length g4, .int .i64 m'.sp]), KX.eq 78 (.pointer (some ⟨w1.heap.size + 1, 0, none⟩)), KX.eq 79 (.int .i64 s), KX.eq 80 (.pointer (some ⟨w1.heap.size + 1, 1, none⟩)), KX.eq 81 (.int .i64 p), KX.eq 82 (.int .i64 (p + 1)), KX.eq 83 (.agg #[.int .i64 s, .int .i64 (p + 1)]), KX.eq 84 (.slice A fs.length c), KX.eq 85 (.slice (cutA A c 1 1) (fs.length - 1) (c - 1)), KX.eq 86 (.int .i64 r), KX.tup 87 w8.heap.size (isT V), KX.tup 76 w8.heap.size (isT V), KX.fst 76 88 w8.heap.size (isT V), KX.eq 89 (.bool true), KX.box 13 w8.heap.size, KX.stored 76 13 w8.heap.size w8.heap.size (isT V), KX.eq 14 (.bool true)])) kxs_keep ?_ ?_
  ·intro i o ho D x v hD hC hd K hK
   match i, ho with
   | 0, ho =>
    simp only [List.getElem?_toArray, List.getElem?_cons_zero, List.getElem?_cons_succ, Option.some.injEq] at ho
    subst ho
    simp only [fillA, Act.put, List.setIfInBounds_toArray, List.set_cons_zero, List.set_cons_succ] at hK ⊢
    have hx := HY8.out.below hC
    have z0 := hx.cell_ 0 (v := .slice G1 m'.t.bs.length g1) rfl
    have z1 := hx.cell_ 1 (v := .slice G2 m'.t.fs.length g2) rfl
    have z2 := hx.cell_ 2 (v := .slice G3 m'.c.ls.length g3) rfl
    have z3 := hx.cell_ 3 (v := .int .i64 m'.c.hand) rfl
    have z4 := hx.cell_ 4 (v := .int .i64 m'.g.count) rfl
    have z5 := hx.cell_ 5 (v := .int .i64 m'.g.next) rfl
    have z6 := hx.cell_ 6 (v := .int .i64 m'.g.round) rfl
    have z7 := hx.cell_ 7 (v := .slice G4 m'.g.os.length g4) rfl
    have z8 := hx.cell_ 8 (v := .int .i64 m'.sp) rfl
    go_simp
    exact hK _ _ (tX_same (by decide)) hC rfl
   | 1, ho =>
    simp only [List.getElem?_toArray, List.getElem?_cons_zero, List.getElem?_cons_succ, Option.some.injEq] at ho
    subst ho
    simp only [fillA, Act.put, List.setIfInBounds_toArray, List.set_cons_zero, List.set_cons_succ] at hK ⊢
    go_simp
    exact hK _ _ (tX_same (by decide)) hC rfl
   | 2, ho =>
    simp only [List.getElem?_toArray, List.getElem?_cons_zero, List.getElem?_cons_succ, Option.some.injEq] at ho
    subst ho
    simp only [fillA, Act.put, List.setIfInBounds_toArray, List.set_cons_zero, List.set_cons_succ] at hK ⊢
    have d0 := hd 1 ⟨⟨1, .data⟩, by simp, rfl, rfl⟩
    change x 78 = .pointer (some ⟨w1.heap.size + 1, 0, none⟩) at d0
    simp only [d0] at hK ⊢
    have hx := HK8.out.below hC
    have z0 := hx.cell_ 0 (v := .int .i64 s) rfl
    go_simp
    exact hK _ _ (tX_same (by decide)) hC rfl
   | 3, ho =>
    simp only [List.getElem?_toArray, List.getElem?_cons_zero, List.getElem?_cons_succ, Option.some.injEq] at ho
    subst ho
    simp only [fillA, Act.put, List.setIfInBounds_toArray, List.set_cons_zero, List.set_cons_succ] at hK ⊢
    go_simp
    exact hK _ _ (tX_same (by decide)) hC rfl
   | 4, ho =>
    simp only [List.getElem?_toArray, List.getElem?_cons_zero, List.getElem?_cons_succ, Option.some.injEq] at ho
    subst ho
    simp only [fillA, Act.put, List.setIfInBounds_toArray, List.set_cons_zero, List.set_cons_succ] at hK ⊢
    have d0 := hd 3 ⟨⟨3, .data⟩, by simp, rfl, rfl⟩
    change x 80 = .pointer (some ⟨w1.heap.size + 1, 1, none⟩) at d0
    simp only [d0] at hK ⊢
    have hx := HK8.out.below hC
    have z1 := hx.cell_ 1 (v := .int .i64 p) rfl
    go_simp
    exact hK _ _ (tX_same (by decide)) hC rfl
   | 5, ho =>
    simp only [List.getElem?_toArray, List.getElem?_cons_zero, List.getElem?_cons_succ, Option.some.injEq] at ho
    subst ho
    simp only [fillA, Act.put, List.setIfInBounds_toArray, List.set_cons_zero, List.set_cons_succ] at hK ⊢
    have d0 := hd 4 ⟨⟨4, .data⟩, by simp, rfl, rfl⟩
    change x 81 = .int .i64 p at d0
    simp only [d0] at hK ⊢
    go_simp
    exact hK _ _ (tX_same (by decide)) hC rfl
   | 6, ho =>
    simp only [List.getElem?_toArray, List.getElem?_cons_zero, List.getElem?_cons_succ, Option.some.injEq] at ho
    subst ho
    simp only [fillA, Act.put, List.setIfInBounds_toArray, List.set_cons_zero, List.set_cons_succ] at hK ⊢
    have d0 := hd 2 ⟨⟨2, .data⟩, by simp, rfl, rfl⟩
    change x 79 = .int .i64 s at d0
    have d1 := hd 5 ⟨⟨5, .data⟩, by simp, rfl, rfl⟩
    change x 82 = .int .i64 (p + 1) at d1
    simp only [d0, d1] at hK ⊢
    go_simp
    exact hK _ _ (tX_same (by decide)) hC rfl
   | 7, ho =>
    simp only [List.getElem?_toArray, List.getElem?_cons_zero, List.getElem?_cons_succ, Option.some.injEq] at ho
    subst ho
    simp only [fillA, Act.put, List.setIfInBounds_toArray, List.set_cons_zero, List.set_cons_succ] at hK ⊢
    go_simp
    exact hK _ _ (tX_same (by decide)) hC rfl
   | 8, ho =>
    simp only [List.getElem?_toArray, List.getElem?_cons_zero, List.getElem?_cons_succ, Option.some.injEq] at ho
    subst ho
    simp only [fillA, Act.put, List.setIfInBounds_toArray, List.set_cons_zero, List.set_cons_succ] at hK ⊢
    have d2 := hd 7 ⟨⟨7, .data⟩, by simp, rfl, rfl⟩
    change x 84 = .slice A fs.length c at d2
    simp only [d2] at hK ⊢
    have hs := HS2.out v
    go_simp
    exact hK _ _ (tX_same (by decide)) hC rfl
   | 9, ho =>
    simp only [List.getElem?_toArray, List.getElem?_cons_zero, List.getElem?_cons_succ, Option.some.injEq] at ho
    subst ho
    simp only [fillA, Act.put, List.setIfInBounds_toArray, List.set_cons_zero, List.set_cons_succ] at hK ⊢
    go_simp
    exact hK _ _ (tX_same (by decide)) hC rfl
   | 10, ho =>
    simp only [List.getElem?_toArray, List.getElem?_cons_zero, List.getElem?_cons_succ, Option.some.injEq] at ho
    subst ho
    simp only [fillA, Act.put, List.setIfInBounds_toArray, List.set_cons_zero, List.set_cons_succ] at hK ⊢
    have d0 := hd 0 ⟨⟨0, .data⟩, by simp, rfl, rfl⟩
    change x 77 = .agg #[.slice G1 m'.t.bs.length g1, .slice G2 m'.t.fs.length g2, .slice G3 m'.c.ls.length g3, .int .i64 m'.c.hand, .int .i64 m'.g.count, .int .i64 m'.g.next, .int .i64 m'.g.round, .slice G4 m'.g.os.length g4, .int .i64 m'.sp] at d0
    have d1 := hd 6 ⟨⟨6, .data⟩, by simp, rfl, rfl⟩
    change x 83 = .agg #[.int .i64 s, .int .i64 (p + 1)] at d1
    have d3 := hd 8 ⟨⟨8, .data⟩, by simp, rfl, rfl⟩
    change x 85 = .slice (cutA A c 1 1) (fs.length - 1) (c - 1) at d3
    have d4 := hd 9 ⟨⟨9, .data⟩, by simp, rfl, rfl⟩
    change x 86 = .int .i64 r at d4
    simp only [d0, d1, d3, d4] at hK ⊢
    go_wp2_with fail
    refine (K9.out v hC).mono ?_
    rintro e v' ⟨_, rfl, f1, f2, f3, f4, rfl, hm2, hb⟩
    go_simp
    exact hK _ _ (tX_below (by decide) hb) (bT hC hb) ⟨V, f1, f2, f3, f4, ⟨rfl, rfl⟩, hm2.mono hC.size⟩
   | 11, ho =>
    simp only [List.getElem?_toArray, List.getElem?_cons_zero, List.getElem?_cons_succ, Option.some.injEq] at ho
    subst ho
    simp only [fillA, Act.put, List.setIfInBounds_toArray, List.set_cons_zero, List.set_cons_succ] at hK ⊢
    obtain ⟨m', e1, e2, e3, e4, ⟨rfl, hx⟩, hm⟩ := hd 10 ⟨⟨10, .data⟩, by simp, rfl, rfl⟩
    change x 87 = _ at hx
    simp only [hx] at hK ⊢
    go_simp
    exact hK _ _ (tX_same (by decide)) hC ⟨_, e1, e2, e3, e4, ⟨rfl, rfl⟩, hm⟩
   | 12, ho =>
    simp only [List.getElem?_toArray, List.getElem?_cons_zero, List.getElem?_cons_succ, Option.some.injEq] at ho
    subst ho
    simp only [fillA, Act.put, List.setIfInBounds_toArray, List.set_cons_zero, List.set_cons_succ] at hK ⊢
    obtain ⟨m', e1, e2, e3, e4, ⟨rfl, hx⟩, hm⟩ := hd 11 ⟨⟨11, .data⟩, by simp, rfl, rfl⟩
    change x 76 = _ at hx
    have hx' := hx
    simp only [hx'] at hK ⊢
    go_simp
    exact hK _ _ (tX_same (by decide)) hC ⟨_, e1, e2, e3, e4, ⟨rfl, hx⟩, rfl, hm⟩
   | 13, ho =>
    simp only [List.getElem?_toArray, List.getElem?_cons_zero, List.getElem?_cons_succ, Option.some.injEq] at ho
    subst ho
    simp only [fillA, Act.put, List.setIfInBounds_toArray, List.set_cons_zero, List.set_cons_succ] at hK ⊢
    obtain ⟨m', e1, e2, e3, e4, ⟨rfl, hx⟩, hm⟩ := hd 11 ⟨⟨11, .data⟩, by simp, rfl, rfl⟩
    change x 76 = _ at hx
    simp only [hx] at hK ⊢
    go_simp
    exact hK _ _ (tX_same (by decide)) hC rfl
   | 14, ho =>
    simp only [List.getElem?_toArray, List.getElem?_cons_zero, List.getElem?_cons_succ, Option.some.injEq] at ho
    subst ho
    simp only [fillA, Act.put, List.setIfInBounds_toArray, List.set_cons_zero, List.set_cons_succ] at hK ⊢
    go_simp
    exact hK _ _ (tX_below (by decide) (bA bR)) (bA hC) ⟨_, _, rfl, hC.size, rfl, Own.new_ _ _ _⟩
   | 15, ho =>
    simp only [List.getElem?_toArray, List.getElem?_cons_zero, List.getElem?_cons_succ, Option.some.injEq] at ho
    subst ho
    simp only [fillA, Act.put, List.setIfInBounds_toArray, List.set_cons_zero, List.set_cons_succ] at hK ⊢
    obtain ⟨m', e1, e2, e3, e4, ⟨rfl, hf⟩, hx, hm⟩ := hd 12 ⟨⟨12, .data⟩, by simp, rfl, rfl⟩
    change x 88 = _ at hx
    change x 76 = _ at hf
    obtain ⟨gb, cs, db, hgb, hcs, ho⟩ := hd 14 ⟨⟨14, .data⟩, by simp, rfl, rfl⟩
    change x 13 = _ at db
    obtain ⟨E1, n1, rfl, _⟩ := hm.t.b
    obtain ⟨E2, n2, rfl, _⟩ := hm.t.f
    obtain ⟨E3, n3, rfl, _⟩ := hm.l
    obtain ⟨E4, n4, rfl, _⟩ := hm.o
    obtain ⟨cs⟩ := cs
    obtain ⟨k0, k1, k2, k3, k4, k5, k6, k7, k8, rfl⟩ := len_nine hcs
    have z0 := ho.cell_ 0 (v := k0) rfl
    have y0 := ho.free 0
    have z1 := ho.cell_ 1 (v := k1) rfl
    have y1 := ho.free 1
    have z2 := ho.cell_ 2 (v := k2) rfl
    have y2 := ho.free 2
    have z3 := ho.cell_ 3 (v := k3) rfl
    have y3 := ho.free 3
    have z4 := ho.cell_ 4 (v := k4) rfl
    have y4 := ho.free 4
    have z5 := ho.cell_ 5 (v := k5) rfl
    have y5 := ho.free 5
    have z6 := ho.cell_ 6 (v := k6) rfl
    have y6 := ho.free 6
    have z7 := ho.cell_ 7 (v := k7) rfl
    have y7 := ho.free 7
    have z8 := ho.cell_ 8 (v := k8) rfl
    have y8 := ho.free 8
    have hlo := ho.lt
    have hf' := Lib.hid hf
    clear hf
    simp only [hx, db] at hK ⊢
    go_simp
    refine hK undef _ (tX_store (stS_set9 ho _ _ _ _ _ _ _ _ _)) ?_ ⟨rfl, gb, _, _, _, _, _, db, hgb, ⟨rfl, hf'.out⟩, hm.oth (stS_set9 ho _ _ _ _ _ _ _ _ _).1 (by decide) (by decide) (by decide) (by decide), ho.set9 _ _ _ _ _ _ _ _ _⟩
    repeat (refine bS ?_ (by exact hgb))
    exact hC
   | 16, ho =>
    simp only [List.getElem?_toArray, List.getElem?_cons_zero, List.getElem?_cons_succ, Option.some.injEq] at ho
    subst ho
    simp only [fillA, Act.put, List.setIfInBounds_toArray, List.set_cons_zero, List.set_cons_succ] at hK ⊢
    have d8 := hd 13 ⟨⟨13, .data⟩, by simp, rfl, rfl⟩
    change x 89 = .bool true at d8
    simp only [d8] at hK ⊢
    go_simp
    exact hK _ _ (tX_same (by decide)) hC rfl
   | _ + 17, ho => simp at ho
  intro D xa w9 hD hC hd
  obtain ⟨_, gb, m', q1, q2, q3, q4, db, hgb, ⟨rfl, hf⟩, hmm, hob⟩ := hd 15 (by decide)
  change xa 13 = _ at db
  clear hf
  have dO := hd 16 (by decide)
  change xa 14 = .bool true at dO
  simp only [fillA, Act.put, List.setIfInBounds_toArray, List.set_cons_zero, List.set_cons_succ, db, dO]
  clear hd hD db dO
  have HB9 := Lib.hid (bT HB8.out hC)
  have HV9 := Lib.hid (HV8.out.now hC)
  have HQ9 := Lib.hid (HQ8.out.below hC)
  have HY9 := Lib.hid hob
  have HMY9 := Lib.hid hmm
  clear hC hob hmm K9 HS8 HK8 HB8 HV8 HQ8 HY8 HMY
  obtain ⟨H1, i1, rfl, _⟩ := HMY9.out.t.b
  obtain ⟨H2, i2, rfl, _⟩ := HMY9.out.t.f
  obtain ⟨H3, i3, rfl, _⟩ := HMY9.out.l
  obtain ⟨H4, i4, rfl, _⟩ := HMY9.out.o
  have p0a := HQ9.out.cell_ 0 (v := .slice B1 m'.t.bs.length d1) rfl
  have p1a := HQ9.out.cell_ 1 (v := .slice B2 m'.t.fs.length d2) rfl
  have p2a := HQ9.out.cell_ 2 (v := .slice B3 m'.c.ls.length d3) rfl
  have p3a := HQ9.out.cell_ 3 (v := .int .i64 m'.c.hand) rfl
  have p4a := HQ9.out.cell_ 4 (v := .int .i64 m'.g.count) rfl
  have p5a := HQ9.out.cell_ 5 (v := .int .i64 m'.g.next) rfl
  have p6a := HQ9.out.cell_ 6 (v := .int .i64 m'.g.round) rfl
  have p7a := HQ9.out.cell_ 7 (v := .slice B4 m'.g.os.length d4) rfl
  have p8a := HQ9.out.cell_ 8 (v := .int .i64 m'.sp) rfl
  have p0b := HY9.out.cell_ 0 (v := .slice H1 m'.t.bs.length i1) rfl
  have p1b := HY9.out.cell_ 1 (v := .slice H2 m'.t.fs.length i2) rfl
  have p2b := HY9.out.cell_ 2 (v := .slice H3 m'.c.ls.length i3) rfl
  have p3b := HY9.out.cell_ 3 (v := .int .i64 m'.c.hand) rfl
  have p4b := HY9.out.cell_ 4 (v := .int .i64 m'.g.count) rfl
  have p5b := HY9.out.cell_ 5 (v := .int .i64 m'.g.next) rfl
  have p6b := HY9.out.cell_ 6 (v := .int .i64 m'.g.round) rfl
  have p7b := HY9.out.cell_ 7 (v := .slice H4 m'.g.os.length i4) rfl
  have p8b := HY9.out.cell_ 8 (v := .int .i64 m'.sp) rfl
  go_wp2_with fail
  refine (MachineSame_same _ _ _ _ _ _ _ _ m' w9 HV9.out.r HMY9.out.r).mono ?_
  rintro e wX ⟨rfl, hbX⟩
  have HBX := Lib.hid (bT HB9.out hbX)
  clear hbX
  go_wp2
  go_ret
  exact ⟨rfl, HBX.out⟩
  -- END
 ·have p0a := HY7.out.cell_ 0 (v := .slice B1 V.t.bs.length d1) rfl
  have p1a := HY7.out.cell_ 1 (v := .slice B2 V.t.fs.length d2) rfl
  have p2a := HY7.out.cell_ 2 (v := .slice B3 V.c.ls.length d3) rfl
  have p3a := HY7.out.cell_ 3 (v := .int .i64 V.c.hand) rfl
  have p4a := HY7.out.cell_ 4 (v := .int .i64 V.g.count) rfl
  have p5a := HY7.out.cell_ 5 (v := .int .i64 V.g.next) rfl
  have p6a := HY7.out.cell_ 6 (v := .int .i64 V.g.round) rfl
  have p7a := HY7.out.cell_ 7 (v := .slice B4 V.g.os.length d4) rfl
  have p8a := HY7.out.cell_ 8 (v := .int .i64 V.sp) rfl
  have p0b := HZ7.out.cell_ 0 (v := .slice C1 V.t.bs.length e1) rfl
  have p1b := HZ7.out.cell_ 1 (v := .slice C2 V.t.fs.length e2) rfl
  have p2b := HZ7.out.cell_ 2 (v := .slice C3 V.c.ls.length e3) rfl
  have p3b := HZ7.out.cell_ 3 (v := .int .i64 V.c.hand) rfl
  have p4b := HZ7.out.cell_ 4 (v := .int .i64 V.g.count) rfl
  have p5b := HZ7.out.cell_ 5 (v := .int .i64 V.g.next) rfl
  have p6b := HZ7.out.cell_ 6 (v := .int .i64 V.g.round) rfl
  have p7b := HZ7.out.cell_ 7 (v := .slice C4 V.g.os.length e4) rfl
  have p8b := HZ7.out.cell_ 8 (v := .int .i64 V.sp) rfl
  cases O with
  | true =>
   have hl2 : decide ((fs.length : Int) < 2) = true := by simp at hgo; simp; omega
   go_wp2_with fail
   refine (MachineSame_same _ _ _ _ _ _ _ _ V w7 HV7.out.r HU7.out.r).mono ?_
   rintro e w8 ⟨rfl, hb8⟩
   have HB8 := Lib.hid (bT HB7.out hb8)
   clear hb8
   go_wp2
   go_ret
   exact ⟨rfl, HB8.out⟩
  | false =>
   go_wp2_with fail
   refine (MachineSame_same _ _ _ _ _ _ _ _ V w7 HV7.out.r HU7.out.r).mono ?_
   rintro e w8 ⟨rfl, hb8⟩
   have HB8 := Lib.hid (bT HB7.out hb8)
   clear hb8
   go_wp2
   go_ret
   exact ⟨rfl, HB8.out⟩
end Go.Proofs.YtnaagdmaggdbmaaGreatDoor.lPutParts
