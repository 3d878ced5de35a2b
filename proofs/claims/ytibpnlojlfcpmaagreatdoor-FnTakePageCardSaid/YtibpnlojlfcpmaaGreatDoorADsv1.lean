/- A part of the proofs of this seat: Ds, LTp, LTpE. -/
import Derived.Deep.CutRange
import Derived.ChangeSame
import Derived.Test.YtibpnlojlfcpmaaGreatDoorAGnv2
import Derived.Test.YtibpnlojlfcpmaaGreatDoorATkG
import Derived.Test.YtibpnlojlfcpmaaGreatDoorAFilI
set_option linter.unusedVariables false
set_option linter.unusedSimpArgs false
set_option maxRecDepth 1000000
namespace Go.Proofs.YtibpnlojlfcpmaaGreatDoor
open Go.RowKit
set_option maxHeartbeats 4000000 in
theorem DrawTakePage_any (A : Option Addr) (n c : Nat) (w : World) (hb : Bytes w.heap.size w A n) (hc : n ≤ c) (hn : n ≤ 1048576) :
  Calls Tryz.prog 39 #[.slice A n c] w (Post2 fun v w' => KRP w v w') := by
 have ho := (Own.new_ w 48 #[.slice none 0 0, .slice none 0 0, .slice none 0 0, .int .i64 0, .int .i64 0, .int .i64 0, .int .i64 0, .slice none 0 0, .int .i64 0]).alloc (o := .cells #[.int .i64 0, .int .i64 0] 61)
 have hk := ownAt (W := w.alloc (.cells #[.slice none 0 0, .slice none 0 0, .slice none 0 0, .int .i64 0, .int .i64 0, .int .i64 0, .int .i64 0, .slice none 0 0, .int .i64 0] 48)) (g := w.heap.size + 1) (t := 61) (cs := #[.int .i64 0, .int .i64 0]) (by simp)
 have hb0 : Below w.heap.size w ((w.alloc (.cells #[.slice none 0 0, .slice none 0 0, .slice none 0 0, .int .i64 0, .int .i64 0, .int .i64 0, .int .i64 0, .slice none 0 0, .int .i64 0] 48)).alloc (.cells #[.int .i64 0, .int .i64 0] 61)) := bA (bA bR)
 have hs0 : ((w.alloc (.cells #[.slice none 0 0, .slice none 0 0, .slice none 0 0, .int .i64 0, .int .i64 0, .int .i64 0, .int .i64 0, .slice none 0 0, .int .i64 0] 48)).alloc (.cells #[.int .i64 0, .int .i64 0] 61)).heap.size = w.heap.size + 2 := by simp
 generalize hW : (w.alloc (.cells #[.slice none 0 0, .slice none 0 0, .slice none 0 0, .int .i64 0, .int .i64 0, .int .i64 0, .int .i64 0, .slice none 0 0, .int .i64 0] 48)).alloc (.cells #[.int .i64 0, .int .i64 0] 61) = W0 at ho hk hb0 hs0
 have HN := Hd ho
 have HK := Hd hk
 have HB := Hd hb0
 have KC := Hd (l6Key_any A n c W0 ((hb.keep fun q hq => hb0.cell hq).up (by omega)) hc hn)
 clear ho hk hb0 hb
 go_enter Tryz.func39, Tryz.ntmps39
 go_wp2_with fail
 refine KC.out.mono ?_
 rintro e w1 ⟨_, rfl, m, v1, v2, v3, v4, a, b, rfl, hM, hz, hsa, hsb, hb1⟩
 obtain ⟨A1, c1, rfl, _⟩ := hM.t.b
 obtain ⟨A2, c2, rfl, _⟩ := hM.t.f
 obtain ⟨A3, c3, rfl, _⟩ := hM.l
 obtain ⟨A4, c4, rfl, _⟩ := hM.o
 have HN1 := Hd (HN.out.below hb1)
 have HK1 := Hd (HK.out.below hb1)
 have HB1 := Hd (bT HB.out hb1)
 have HM := Hd hM
 have HZ := Hd hz
 have hs1 := hb1.size
 clear HN HK HB KC hM hz hb1
 obtain ⟨r0x, r1x, r2x, r3x, r4x, r5x, r6x, r7x, r8x⟩ := cells9 HN1.out
 obtain ⟨z0x, z1x, z2x, z3x, z4x, z5x, z6x, z7x, z8x⟩ := free9 HN1.out
 have k0 := HK1.out.cell_ 0 (v := .int .i64 0) rfl
 have k1 := HK1.out.cell_ 1 (v := .int .i64 0) rfl
 have f0 := HK1.out.free 0
 have f1 := HK1.out.free 1
 have hln := HN1.out.lt
 have hlk := HK1.out.lt
 have n1 : w.heap.size ≠ w.heap.size + 1 := by omega
 have n2 : w.heap.size + 1 ≠ w.heap.size := by omega
 go_wp2
 have o3 := ((HN1.out.set9 (.slice A1 m.t.bs.length c1) (.slice A2 m.t.fs.length c2) (.slice A3 m.c.ls.length c3) (.int .i64 m.c.hand) (.int .i64 m.g.count) (.int .i64 m.g.next) (.int .i64 m.g.round) (.slice A4 m.g.os.length c4) (.int .i64 m.sp)).far (p := ⟨w.heap.size + 1, 0, none⟩) (u := .int .i64 a) n1).far (p := ⟨w.heap.size + 1, 1, none⟩) (u := .int .i64 b) n1
 have k3 := ((HK1.out.far9 n2 (.slice A1 m.t.bs.length c1) (.slice A2 m.t.fs.length c2) (.slice A3 m.c.ls.length c3) (.int .i64 m.c.hand) (.int .i64 m.g.count) (.int .i64 m.g.next) (.int .i64 m.g.round) (.slice A4 m.g.os.length c4) (.int .i64 m.sp)).set_ 0 (.int .i64 a)).set_ 1 (.int .i64 b)
 have hmm := ((HM.out.far9 HN1.out (.slice A1 m.t.bs.length c1) (.slice A2 m.t.fs.length c2) (.slice A3 m.c.ls.length c3) (.int .i64 m.c.hand) (.int .i64 m.g.count) (.int .i64 m.g.next) (.int .i64 m.g.round) (.slice A4 m.g.os.length c4) (.int .i64 m.sp)).far (p := ⟨w.heap.size + 1, 0, none⟩) (u := .int .i64 a) (by show w.heap.size + 1 < W0.heap.size; omega)).far (p := ⟨w.heap.size + 1, 1, none⟩) (u := .int .i64 b) (by show w.heap.size + 1 < W0.heap.size; omega)
 obtain ⟨p0t, p1t, p2t, p3t, p4t, p5t, p6t, p7t, p8t⟩ := cells9 o3
 have k0t := k3.cell_ 0 (v := .int .i64 a) rfl
 have k1t := k3.cell_ 1 (v := .int .i64 b) rfl
 refine bodyPost_ret (v := .tuple #[.agg #[.slice A1 m.t.bs.length c1, .slice A2 m.t.fs.length c2, .slice A3 m.c.ls.length c3, .int .i64 m.c.hand, .int .i64 m.g.count, .int .i64 m.g.next, .int .i64 m.g.round, .slice A4 m.g.os.length c4, .int .i64 m.sp], .agg #[.int .i64 a, .int .i64 b]]) (by simp [results, Tryz.results39, go_sem, p0t, p1t, p2t, p3t, p4t, p5t, p6t, p7t, p8t, k0t, k1t]) rfl ⟨_, rfl, m, _, _, _, _, a, b, rfl, hmm.mono (by omega), HZ.out, hsa, hsb, ?_⟩
 repeat (refine bS ?_ (by simp <;> omega))
 exact HB1.out
end Go.Proofs.YtibpnlojlfcpmaaGreatDoor
namespace Go.Proofs.YtibpnlojlfcpmaaGreatDoor.lTakePage
open Go.RowKit
set_option maxHeartbeats 4000000 in
theorem walk (a0 : Option Addr) (len0 cap0 : Nat) (z0 : List Int) (w : World) (w0 : IsRow .u8 w a0 len0 cap0 z0) (hfree : Free w) :
    Calls Tryz.prog 9 #[.slice a0 len0 cap0] w fun e w' => e = .returned (.bool true) ∧ Below w.heap.size w w' := by
  by_cases hbig : 1048576 < len0
  · go_enter Tryz.func9, Tryz.ntmps9
    go_wp2
    go_ret
    exact ⟨rfl, by repeat first | exact bR | refine bA ?_⟩
  have hcap := row_cap w0
  have hby := Hd (row_bytes w0)
  have HF := Hd hfree
  clear w0 hfree
  go_enter Tryz.func9, Tryz.ntmps9
  go_wp2_with fail
  refine (DrawTakePage_any a0 len0 cap0 w hby.out hcap (by omega)).mono ?_
  rintro e w1 ⟨_, rfl, m, v1, v2, v3, v4, s, p, rfl, hM, hz, hss, hsp, hb1⟩
  obtain ⟨A1, c1, rfl, _⟩ := hM.t.b
  obtain ⟨A2, c2, rfl, _⟩ := hM.t.f
  obtain ⟨A3, c3, rfl, _⟩ := hM.l
  obtain ⟨A4, c4, rfl, _⟩ := hM.o
  have hx := (Own.new_ w1 48 #[.slice A1 m.t.bs.length c1, .slice A2 m.t.fs.length c2, .slice A3 m.c.ls.length c3, .int .i64 m.c.hand, .int .i64 m.g.count, .int .i64 m.g.next, .int .i64 m.g.round, .slice A4 m.g.os.length c4, .int .i64 m.sp]).alloc (o := .cells #[.int .i64 s, .int .i64 p] 61)
  have hk := ownAt (W := w1.alloc (.cells #[.slice A1 m.t.bs.length c1, .slice A2 m.t.fs.length c2, .slice A3 m.c.ls.length c3, .int .i64 m.c.hand, .int .i64 m.g.count, .int .i64 m.g.next, .int .i64 m.g.round, .slice A4 m.g.os.length c4, .int .i64 m.sp] 48)) (g := w1.heap.size + 1) (t := 61) (cs := #[.int .i64 s, .int .i64 p]) (by simp)
  have hb2 : Below w1.heap.size w1 ((w1.alloc (.cells #[.slice A1 m.t.bs.length c1, .slice A2 m.t.fs.length c2, .slice A3 m.c.ls.length c3, .int .i64 m.c.hand, .int .i64 m.g.count, .int .i64 m.g.next, .int .i64 m.g.round, .slice A4 m.g.os.length c4, .int .i64 m.sp] 48)).alloc (.cells #[.int .i64 s, .int .i64 p] 61)) := bA (bA bR)
  have hs2 : ((w1.alloc (.cells #[.slice A1 m.t.bs.length c1, .slice A2 m.t.fs.length c2, .slice A3 m.c.ls.length c3, .int .i64 m.c.hand, .int .i64 m.g.count, .int .i64 m.g.next, .int .i64 m.g.round, .slice A4 m.g.os.length c4, .int .i64 m.sp] 48)).alloc (.cells #[.int .i64 s, .int .i64 p] 61)).heap.size = w1.heap.size + 2 := by simp
  generalize hW2 : (w1.alloc (.cells #[.slice A1 m.t.bs.length c1, .slice A2 m.t.fs.length c2, .slice A3 m.c.ls.length c3, .int .i64 m.c.hand, .int .i64 m.g.count, .int .i64 m.g.next, .int .i64 m.g.round, .slice A4 m.g.os.length c4, .int .i64 m.sp] 48)).alloc (.cells #[.int .i64 s, .int .i64 p] 61) = w2 at hx hk hb2 hs2
  have HM := Hd (hM.now hb2)
  have HX := Hd hx
  have HK := Hd hk
  have HB := Hd (bT hb1 hb2)
  have hs1 := hb1.size
  clear hM hx hk hb1 hb2
  generalize hmb : w1.heap.size = mb at *
  obtain ⟨V, hV⟩ : ∃ V, takV m s p = V := ⟨_, rfl⟩
  obtain ⟨O, hO⟩ : ∃ O, takO m s p = O := ⟨_, rfl⟩
  have KI : Hid (∀ W, Below w2.heap.size w2 W → Calls Tryz.prog 40 #[.agg #[.slice A1 m.t.bs.length c1, .slice A2 m.t.fs.length c2, .slice A3 m.c.ls.length c3, .int .i64 m.c.hand, .int .i64 m.g.count, .int .i64 m.g.next, .int .i64 m.g.round, .slice A4 m.g.os.length c4, .int .i64 m.sp], .agg #[.int .i64 s, .int .i64 p]] W (Post2 fun v w' => ∃ v1 v2 v3 v4, v = .tuple #[.agg #[v1, v2, v3, .int .i64 V.c.hand, .int .i64 V.g.count, .int .i64 V.g.next, .int .i64 V.g.round, v4, .int .i64 V.sp], .bool O] ∧ MaM W.heap.size w' v1 v2 v3 v4 V ∧ Below W.heap.size W w')) := by
    intro W hb
    have hMr := (HM.out.now hb).r
    have hFr := HF.out.now (bT HB.out hb)
    subst hV hO
    exact TakePage_any _ _ _ _ m s p W hMr hFr
  have KS : Hid (∀ W, Below w2.heap.size w2 W → Calls Tryz.prog 41 #[.agg #[.slice A1 m.t.bs.length c1, .slice A2 m.t.fs.length c2, .slice A3 m.c.ls.length c3, .int .i64 m.c.hand, .int .i64 m.g.count, .int .i64 m.g.next, .int .i64 m.g.round, .slice A4 m.g.os.length c4, .int .i64 m.sp], .agg #[.int .i64 s, .int .i64 p]] W (Post2 fun v w' => ∃ v1 v2 v3 v4, v = .tuple #[.agg #[v1, v2, v3, .int .i64 V.c.hand, .int .i64 V.g.count, .int .i64 V.g.next, .int .i64 V.g.round, v4, .int .i64 V.sp], .bool O] ∧ MaM W.heap.size w' v1 v2 v3 v4 V ∧ Below W.heap.size W w')) := by
    intro W hb
    have hMr := (HM.out.now hb).r
    subst hV hO
    exact sTakePage_any _ _ _ _ m s p W hMr
  obtain ⟨p0a, p1a, p2a, p3a, p4a, p5a, p6a, p7a, p8a⟩ := cells9 HX.out
  have y0a := HK.out.cell_ 0 (v := .int .i64 s) rfl
  have y1a := HK.out.cell_ 1 (v := .int .i64 p) rfl
  go_wp2_with fail
  try rw [hW2]
  refine (KI.out w2 bR).mono ?_
  rintro e w3 ⟨_, rfl, u1, u2, u3, u4, rfl, hM3, hb3⟩
  clear hW2 KI p0a p1a p2a p3a p4a p5a p6a p7a p8a y0a y1a
  obtain ⟨B1, d1, rfl, _⟩ := hM3.t.b
  obtain ⟨B2, d2, rfl, _⟩ := hM3.t.f
  obtain ⟨B3, d3, rfl, _⟩ := hM3.l
  obtain ⟨B4, d4, rfl, _⟩ := hM3.o
  have hy := Own.new_ w3 48 #[.slice B1 V.t.bs.length d1, .slice B2 V.t.fs.length d2, .slice B3 V.c.ls.length d3, .int .i64 V.c.hand, .int .i64 V.g.count, .int .i64 V.g.next, .int .i64 V.g.round, .slice B4 V.g.os.length d4, .int .i64 V.sp]
  have hb4 : Below w3.heap.size w3 (w3.alloc (.cells #[.slice B1 V.t.bs.length d1, .slice B2 V.t.fs.length d2, .slice B3 V.c.ls.length d3, .int .i64 V.c.hand, .int .i64 V.g.count, .int .i64 V.g.next, .int .i64 V.g.round, .slice B4 V.g.os.length d4, .int .i64 V.sp] 48)) := bA bR
  generalize hW4 : w3.alloc (.cells #[.slice B1 V.t.bs.length d1, .slice B2 V.t.fs.length d2, .slice B3 V.c.ls.length d3, .int .i64 V.c.hand, .int .i64 V.g.count, .int .i64 V.g.next, .int .i64 V.g.round, .slice B4 V.g.os.length d4, .int .i64 V.sp] 48) = w4 at hy hb4
  have hbx := bT hb3 hb4
  try replace HM := Hd (HM.out.now hbx)
  try replace HX := Hd (HX.out.below hbx)
  try replace HK := Hd (HK.out.below hbx)
  try replace HV := Hd (HV.out.now hbx)
  try replace HY := Hd (HY.out.below hbx)
  try replace HU := Hd (HU.out.now hbx)
  try replace HZ := Hd (HZ.out.below hbx)
  try replace HL := Hd (HL.out.now hbx)
  try replace HE := Hd (HE.out.now hbx)
  replace HB := Hd (bT HB.out hbx)
  have HV := Hd (hM3.now hb4)
  have HY := Hd hy
  have hs3 := hb3.size
  clear hM3 hy hb4
  obtain ⟨p0a, p1a, p2a, p3a, p4a, p5a, p6a, p7a, p8a⟩ := cells9 HX.out
  have y0a := HK.out.cell_ 0 (v := .int .i64 s) rfl
  have y1a := HK.out.cell_ 1 (v := .int .i64 p) rfl
  go_wp2_with fail
  try rw [hW4]
  refine (KS.out w4 hbx).mono ?_
  rintro e w5 ⟨_, rfl, u1, u2, u3, u4, rfl, hM5, hb5⟩
  clear hbx
  clear hW4 KS hb3 p0a p1a p2a p3a p4a p5a p6a p7a p8a y0a y1a
  obtain ⟨C1, e1, rfl, _⟩ := hM5.t.b
  obtain ⟨C2, e2, rfl, _⟩ := hM5.t.f
  obtain ⟨C3, e3, rfl, _⟩ := hM5.l
  obtain ⟨C4, e4, rfl, _⟩ := hM5.o
  have hy := Own.new_ w5 48 #[.slice C1 V.t.bs.length e1, .slice C2 V.t.fs.length e2, .slice C3 V.c.ls.length e3, .int .i64 V.c.hand, .int .i64 V.g.count, .int .i64 V.g.next, .int .i64 V.g.round, .slice C4 V.g.os.length e4, .int .i64 V.sp]
  have hb6 : Below w5.heap.size w5 (w5.alloc (.cells #[.slice C1 V.t.bs.length e1, .slice C2 V.t.fs.length e2, .slice C3 V.c.ls.length e3, .int .i64 V.c.hand, .int .i64 V.g.count, .int .i64 V.g.next, .int .i64 V.g.round, .slice C4 V.g.os.length e4, .int .i64 V.sp] 48)) := bA bR
  generalize hW6 : w5.alloc (.cells #[.slice C1 V.t.bs.length e1, .slice C2 V.t.fs.length e2, .slice C3 V.c.ls.length e3, .int .i64 V.c.hand, .int .i64 V.g.count, .int .i64 V.g.next, .int .i64 V.g.round, .slice C4 V.g.os.length e4, .int .i64 V.sp] 48) = w6 at hy hb6
  have hbx := bT hb5 hb6
  try replace HM := Hd (HM.out.now hbx)
  try replace HX := Hd (HX.out.below hbx)
  try replace HK := Hd (HK.out.below hbx)
  try replace HV := Hd (HV.out.now hbx)
  try replace HY := Hd (HY.out.below hbx)
  try replace HU := Hd (HU.out.now hbx)
  try replace HZ := Hd (HZ.out.below hbx)
  try replace HL := Hd (HL.out.now hbx)
  try replace HE := Hd (HE.out.now hbx)
  replace HB := Hd (bT HB.out hbx)
  have HU := Hd (hM5.now hb6)
  have HZ := Hd hy
  have hs5 := hb5.size
  clear hM5 hy hb6
  obtain ⟨p0a, p1a, p2a, p3a, p4a, p5a, p6a, p7a, p8a⟩ := cells9 HY.out
  obtain ⟨p0b, p1b, p2b, p3b, p4b, p5b, p6b, p7b, p8b⟩ := cells9 HZ.out
  clear hb5 hbx 
  go_wp2_with fail
  try rw [hW6]
  refine (MachineSame_same _ _ _ _ _ _ _ _ V w6 HV.out.r HU.out.r).mono ?_
  rintro e w7 ⟨rfl, hb7⟩
  clear hW6 p0a p1a p2a p3a p4a p5a p6a p7a p8a
  clear p0b p1b p2b p3b p4b p5b p6b p7b p8b
  try replace HM := Hd (HM.out.now hb7)
  try replace HX := Hd (HX.out.below hb7)
  try replace HK := Hd (HK.out.below hb7)
  try replace HV := Hd (HV.out.now hb7)
  try replace HY := Hd (HY.out.below hb7)
  try replace HU := Hd (HU.out.now hb7)
  try replace HZ := Hd (HZ.out.below hb7)
  try replace HL := Hd (HL.out.now hb7)
  try replace HE := Hd (HE.out.now hb7)
  replace HB := Hd (bT HB.out hb7)
  clear hb7
  cases O with
  | false =>
    obtain ⟨p0a, p1a, p2a, p3a, p4a, p5a, p6a, p7a, p8a⟩ := cells9 HY.out
    obtain ⟨p0b, p1b, p2b, p3b, p4b, p5b, p6b, p7b, p8b⟩ := cells9 HZ.out
    go_wp2_with fail
    refine (MachineSame_same _ _ _ _ _ _ _ _ V _ HV.out.r HU.out.r).mono ?_
    rintro e w8 ⟨rfl, hb8⟩
    try replace HM := Hd (HM.out.now hb8)
    try replace HX := Hd (HX.out.below hb8)
    try replace HK := Hd (HK.out.below hb8)
    try replace HV := Hd (HV.out.now hb8)
    try replace HY := Hd (HY.out.below hb8)
    try replace HU := Hd (HU.out.now hb8)
    try replace HZ := Hd (HZ.out.below hb8)
    try replace HL := Hd (HL.out.now hb8)
    try replace HE := Hd (HE.out.now hb8)
    replace HB := Hd (bT HB.out hb8)
    go_wp2
    go_ret
    exact ⟨rfl, HB.out⟩
  | true =>
    obtain ⟨hmv, hp256, hlen, _, hall⟩ := tak_missing hO
    rw [hV] at hmv hlen hall
    have hlb : (kys m.t).length ≤ 16 := by have := kys_len m.t; have := ((tv_parts (mav_parts (takO_iff.1 hO).1).1).1).2.1; omega
    have HMV := Hd hmv
    have HL2 := Hd hlen
    have HALL := Hd hall
    have hp1 := hsp.1
    have hp2 := hsp.2
    clear hV hO hlen hmv hall
    go_wp2
    go_loopw [9] (fun u wr => ∃ k : Nat, k ≤ 4 ∧ u = .int .i64 k ∧ Below w7.heap.size w7 wr) (fun u _ => 4 - (intOf u).toNat)
    case atStart => exact ⟨0, by omega, rfl, bR⟩
    case round =>
      obtain ⟨k, hk, rfl, hbr⟩ := hrel
      try replace HM := Hd (HM.out.now hbr)
      try replace HX := Hd (HX.out.below hbr)
      try replace HK := Hd (HK.out.below hbr)
      try replace HV := Hd (HV.out.now hbr)
      try replace HY := Hd (HY.out.below hbr)
      try replace HU := Hd (HU.out.now hbr)
      try replace HZ := Hd (HZ.out.below hbr)
      try replace HL := Hd (HL.out.now hbr)
      try replace HE := Hd (HE.out.now hbr)
      replace HB := Hd (bT HB.out hbr)
      by_cases hlt : k < 4
      · have hki : (k : Int) < 4 := by omega
        have HA := Hd (HALL.out (k : Int))
        have KE := Hd (EnterSpace_any _ _ _ _ V (k : Int) wr HV.out.r (HF.out.now HB.out))
        obtain ⟨Ym, hYm⟩ : ∃ Y, entV V (k : Int) = Y := ⟨_, rfl⟩
        obtain ⟨F, hFe⟩ : ∃ F, entO V (k : Int) = F := ⟨_, rfl⟩
        rw [hYm, hFe] at KE HA
        clear hYm hFe
        obtain ⟨p0y, p1y, p2y, p3y, p4y, p5y, p6y, p7y, p8y⟩ := cells9 HY.out
        go_wp2_with fail
        refine KE.out.mono ?_
        rintro e w9 ⟨_, rfl, u1, u2, u3, u4, rfl, hM9, hb9⟩
        obtain ⟨Y1, y1, rfl, _⟩ := hM9.t.b
        obtain ⟨Y2, y2, rfl, _⟩ := hM9.t.f
        obtain ⟨Y3, y3, rfl, _⟩ := hM9.l
        obtain ⟨Y4, y4, rfl, _⟩ := hM9.o
        obtain ⟨wX, hWX, hoX, hbX, _⟩ := box1 w9 #[.slice Y1 Ym.t.bs.length y1, .slice Y2 Ym.t.fs.length y2, .slice Y3 Ym.c.ls.length y3, .int .i64 Ym.c.hand, .int .i64 Ym.g.count, .int .i64 Ym.g.next, .int .i64 Ym.g.round, .slice Y4 Ym.g.os.length y4, .int .i64 Ym.sp] 48
        have hbx := bT hb9 hbX
        have hbrx := Hd (bT hbr hbx)
        try replace HM := Hd (HM.out.now hbx)
        try replace HX := Hd (HX.out.below hbx)
        try replace HK := Hd (HK.out.below hbx)
        try replace HV := Hd (HV.out.now hbx)
        try replace HY := Hd (HY.out.below hbx)
        try replace HU := Hd (HU.out.now hbx)
        try replace HZ := Hd (HZ.out.below hbx)
        try replace HL := Hd (HL.out.now hbx)
        try replace HE := Hd (HE.out.now hbx)
        replace HB := Hd (bT HB.out hbx)
        have HN := Hd (hM9.now hbX)
        have HP := Hd hoX
        have hlX := HP.out.lt
        clear hM9 hb9 hbX hoX hbx KE
        clear p0y p1y p2y p3y p4y p5y p6y p7y p8y
        go_upto_region 12 with fail
        try rw [hWX]
        clear hWX
        obtain ⟨p0p, p1p, p2p, p3p, p4p, p5p, p6p, p7p, p8p⟩ := cells9 HP.out
        have q1 := HK.out.cell_ 1 (v := .int .i64 p) rfl
        go_wp2_with fail
        refine (TouchPage_any _ _ _ _ Ym p 0 wX HN.out.r (HF.out.now HB.out)).mono ?_
        rintro e w11 ⟨_, rfl, u1, u2, u3, u4, rfl, hM11, hb11⟩
        generalize tchV Ym p 0 = Zm at hM11 ⊢
        generalize tchF Ym p 0 = zf
        obtain ⟨Z1, z1, rfl, _⟩ := hM11.t.b
        obtain ⟨Z2, z2, rfl, _⟩ := hM11.t.f
        obtain ⟨Z3, z3, rfl, _⟩ := hM11.l
        obtain ⟨Z4, z4, rfl, _⟩ := hM11.o
        obtain ⟨wY, hWY, hoY, hbY, _⟩ := box1 w11 #[.slice Z1 Zm.t.bs.length z1, .slice Z2 Zm.t.fs.length z2, .slice Z3 Zm.c.ls.length z3, .int .i64 Zm.c.hand, .int .i64 Zm.g.count, .int .i64 Zm.g.next, .int .i64 Zm.g.round, .slice Z4 Zm.g.os.length z4, .int .i64 Zm.sp] 48
        have hby := bT hb11 hbY
        have HBR := Hd (bT hbrx.out hby)
        try replace HM := Hd (HM.out.now hby)
        try replace HX := Hd (HX.out.below hby)
        try replace HK := Hd (HK.out.below hby)
        try replace HV := Hd (HV.out.now hby)
        try replace HY := Hd (HY.out.below hby)
        try replace HU := Hd (HU.out.now hby)
        try replace HZ := Hd (HZ.out.below hby)
        try replace HL := Hd (HL.out.now hby)
        try replace HE := Hd (HE.out.now hby)
        replace HB := Hd (bT HB.out hby)
        have hky := HK.out.lt
        clear hM11 hb11 hbY hoY hby q1 hbrx
        clear p0p p1p p2p p3p p4p p5p p6p p7p p8p
        go_upto_region 13 with fail
        try rw [hWY]
        clear hWY
        cases F with
        | false =>
          clear HA HALL HN HP
          go_quiet (fail)
          go_wp2
          go_roundw
          case rel => exact ⟨k + 1, by omega, by simp, bDN HBR.out⟩
          case measure => simp [intOf]; omega
        | true =>
          obtain ⟨ha1, ha2⟩ := HA.out rfl
          rw [ha1]
          have hwk : (0 : Int) ≤ (k : Int) := by omega
          have HKF := Hd (KeyFor_any (k : Int) p)
          have y0 := xcell (w := wY) (HK.out.cell_ 0 (v := .int .i64 s) rfl) HK.out.lt
          have y1 := xcell (w := wY) (HK.out.cell_ 1 (v := .int .i64 p) rfl) HK.out.lt
          have he := fun W => eql_of (t := 61) (fun e w => eqIn_key (e + 1) (keyI (k : Int) p) p s p w) W
          by_cases hkk : keyI (k : Int) p = s
          · have hkq : keq (keyI (k : Int) p) p s p = true := by unfold keq; simp; exact hkk
            rw [hkq] at he
            rw [ha2 hkk]
            clear ha1 ha2 hkk hkq HA HALL HN HP
            refine wp_region_ext (by kernel_rfl) (by kernel_rfl) ?_
            repeat (go_big_quiet_step ((go_at_call 44; exact ext_call (HKF.out _))))
            refine wpQuiet_nil ?_
            intro _ hw'
            obtain ⟨⟨wq, hq⟩, hw''⟩ := hw'
            subst hw''
            try dsimp only
            have HBQ := Hd (bT HBR.out hq)
            clear hq y0 y1 he
            go_wp2
            go_roundw
            case rel => exact ⟨k + 1, by omega, by simp, HBQ.out⟩
            case measure => simp [intOf]; omega
          · have hkq : keq (keyI (k : Int) p) p s p = false := by unfold keq; simp; exact hkk
            rw [hkq] at he
            generalize tchR Ym p 0 = zr
            clear ha1 ha2 hkk hkq HA HALL HN HP
            refine wp_region_ext (by kernel_rfl) (by kernel_rfl) ?_
            repeat (go_big_quiet_step ((go_at_call 44; exact ext_call (HKF.out _))))
            refine wpQuiet_nil ?_
            intro _ hw'
            obtain ⟨⟨wq, hq⟩, hw''⟩ := hw'
            subst hw''
            try dsimp only
            have HBQ := Hd (bT HBR.out hq)
            clear hq y0 y1 he
            go_wp2
            go_roundw
            case rel => exact ⟨k + 1, by omega, by simp, HBQ.out⟩
            case measure => simp [intOf]; omega
      · obtain rfl : k = 4 := by omega
        clear hbr HALL
        have KMV := Hd (fun W (hb : Below wr.heap.size wr W) => post2_of (MachineValid_any _ _ _ _ V W (HV.out.now hb).r (HF.out.now (bT HB.out hb))))
        have KK1 := Hd (fun W (hb : Below wr.heap.size wr W) => KeysOf_imp _ _ V.t W (HV.out.now hb).r.t (HF.out.now (bT HB.out hb)))
        have KK2 := Hd (fun W (hb : Below wr.heap.size wr W) => KeysOf_imp _ _ m.t W (HM.out.now hb).r.t (HF.out.now (bT HB.out hb)))
        generalize (kys V.t).length = lv at *
        generalize (kys m.t).length = lm at *
        have hlm := HL2.out
        have hwr : IntKind.i64.wrap ((lm : Int) - 1) = (lv : Int) := by rw [show (lm : Int) - 1 = lv by omega]; exact IntWalk.i64_in _ (by omega)
        obtain ⟨s0_0, s0_1, s0_2, s0_3, s0_4, s0_5, s0_6, s0_7, s0_8⟩ := cells9 HY.out
        have s1_0 := HX.out.cell_ 0 (v := .slice A1 m.t.bs.length c1) rfl
        have s1_1 := HX.out.cell_ 1 (v := .slice A2 m.t.fs.length c2) rfl
        go_wp2_with fail
        go_region_held_law (fun w' => w'.cell? ⟨w3.heap.size, 0, none⟩ = some (.slice B1 V.t.bs.length d1) ∧ w'.cell? ⟨w3.heap.size, 1, none⟩ = some (.slice B2 V.t.fs.length d2) ∧ w'.cell? ⟨w3.heap.size, 2, none⟩ = some (.slice B3 V.c.ls.length d3) ∧ w'.cell? ⟨w3.heap.size, 3, none⟩ = some (.int .i64 V.c.hand) ∧ w'.cell? ⟨w3.heap.size, 4, none⟩ = some (.int .i64 V.g.count) ∧ w'.cell? ⟨w3.heap.size, 5, none⟩ = some (.int .i64 V.g.next) ∧ w'.cell? ⟨w3.heap.size, 6, none⟩ = some (.int .i64 V.g.round) ∧ w'.cell? ⟨w3.heap.size, 7, none⟩ = some (.slice B4 V.g.os.length d4) ∧ w'.cell? ⟨w3.heap.size, 8, none⟩ = some (.int .i64 V.sp) ∧ w'.cell? ⟨mb, 0, none⟩ = some (.slice A1 m.t.bs.length c1) ∧ w'.cell? ⟨mb, 1, none⟩ = some (.slice A2 m.t.fs.length c2)) (go_keep) (first
          | (go_at_call 24
             refine (KK2.out _ HH1.out).mono ?_
             rintro _ wh2 ⟨_, rfl, Kb, kb', rfl, hkb, _, hbwh2⟩
             have HH2 := Hd (bT HH1.out hbwh2)
             have h0_2 := HY.out.below HH2.out
             obtain ⟨s0_2_0, s0_2_1, s0_2_2, s0_2_3, s0_2_4, s0_2_5, s0_2_6, s0_2_7, s0_2_8⟩ := cells9 h0_2
             have h1_2 := HX.out.below HH2.out
             have s1_2_0 := h1_2.cell_ 0 (v := .slice A1 m.t.bs.length c1) rfl
             have s1_2_1 := h1_2.cell_ 1 (v := .slice A2 m.t.fs.length c2) rfl
             clear hbwh2 h0_2 h1_2)
          | (go_at_call 24
             refine (KK1.out _ HH0.out).mono ?_
             rintro _ wh1 ⟨_, rfl, Ka, ka, rfl, hka, _, hbwh1⟩
             have HH1 := Hd (bT HH0.out hbwh1)
             have h0_1 := HY.out.below HH1.out
             obtain ⟨s0_1_0, s0_1_1, s0_1_2, s0_1_3, s0_1_4, s0_1_5, s0_1_6, s0_1_7, s0_1_8⟩ := cells9 h0_1
             have h1_1 := HX.out.below HH1.out
             have s1_1_0 := h1_1.cell_ 0 (v := .slice A1 m.t.bs.length c1) rfl
             have s1_1_1 := h1_1.cell_ 1 (v := .slice A2 m.t.fs.length c2) rfl
             clear hbwh1 h0_1 h1_1)
          | (go_at_call 31
             refine (KMV.out _ (bD (bR (w := wr)))).mono ?_
             rintro _ wh0 ⟨_, rfl, rfl, hbwh0⟩
             rw [HMV.out]
             have HH0 := Hd (bT (bD (bR (w := wr))) hbwh0)
             have h0_0 := HY.out.below HH0.out
             obtain ⟨s0_0_0, s0_0_1, s0_0_2, s0_0_3, s0_0_4, s0_0_5, s0_0_6, s0_0_7, s0_0_8⟩ := cells9 h0_0
             have h1_0 := HX.out.below HH0.out
             have s1_0_0 := h1_0.cell_ 0 (v := .slice A1 m.t.bs.length c1) rfl
             have s1_0_1 := h1_0.cell_ 1 (v := .slice A2 m.t.fs.length c2) rfl
             clear hbwh0 h0_0 h1_0))
        all_goals
          go_wp2
          go_ret
          exact ⟨rfl, bT HB.out HH2.out⟩
end Go.Proofs.YtibpnlojlfcpmaaGreatDoor.lTakePage
namespace Go.Proofs.YtibpnlojlfcpmaaGreatDoor.lTakePage
open Go.ChangeShapes Go.WideShapes Go.ChangeAt Go.RowKit Go.Joins
set_option maxRecDepth 100000 in
theorem lifted (os : Os) (started : os.Started) (H : Type) (enc : TypeId × Value → H) :
  ReturnsInHanded {} Tryz.checked os 9 .any (fun w args => (Rows.fnTakePageSpec.pre enc Tryz.prog Tryz.f9 Rows.fnTakePageRow.domain false w args ∧ laidMet Tryz.prog [("loop.example/invertedpages/impl.free", Rows.laid_loop_example_invertedpages_impl_free)] w) ∧ sizedMet enc Tryz.prog Tryz.f9 (OpenSpec.ofChange Rows.fnTakePageSpec) false w args)
   (Rows.fnTakePageSpec.post enc Tryz.prog Tryz.f9 false true false false) := by
 refine returnsInHanded_of_change_and (C := Tryz.checked) (X := fun w _ => laidMet Tryz.prog [("loop.example/invertedpages/impl.free", Rows.laid_loop_example_invertedpages_impl_free)] w) (fun _ _ _ hh h => h.of_heap hh) own_ started (by kernel_rfl) Tryz.func9
  (ChangeSpec.witness_at (enc := enc) (C := Tryz.checked) (os := os) (X := fun w _ => laidMet Tryz.prog [("loop.example/invertedpages/impl.free", Rows.laid_loop_example_invertedpages_impl_free)] w) false (laidWorld os) #[.slice none 0 0] 8 rfl (by kernel_rfl) (by kernel_rfl) (by kernel_rfl) (by kernel_rfl) (by kernel_rfl) (laid_met os _)) ?_
 intro W base args ds gs before hval0 hW hcnd _ hL _
 have hval : ∀ (j : Nat) t v, Tryz.f9.params[j]? = some t → args[j]? = some v → Value.okWide Tryz.prog W .any base t v := hval0
 have hW' := hW
 obtain ⟨p, q, hA0, hV0, rfl, hfz, hnd⟩ := hW
 have hA : DataW.TrodAll enc Tryz.prog W 0 (fun _ => true) true Tryz.f9.params.toList args.toList ds p := hA0
 have hV : DataW.TrodVars enc Tryz.prog W (fun _ => true) ["loop.example/invertedpages/impl.free"] gs q := hV0
 rw [Tryz.params9] at hA hval
 obtain ⟨v0, vs0, d0, ds0, p0, q0, hargs, rfl, rfl, h0, r0⟩ := trodAll_cons hA
 obtain ⟨rfl, rfl, rfl⟩ := trodAll_nil r0
 obtain rfl : args = #[v0] := by cases args; simp_all
 obtain ⟨hvar0, hfree⟩ := free_of_laid hL
 obtain ⟨g, t, cs, fuel, d, p', rfl, hg, ht, hvar, hd, rfl⟩ := trodVars_one hV
 obtain rfl := Option.some.inj (free_named.symm.trans hg)
 obtain rfl := Option.some.inj (free_type.symm.trans ht)
 obtain rfl : cs = freeCells := Option.some.inj (hvar.symm.trans hvar0)
 have k0 := h0
 have lt0 : ∀ x ∈ p0, x.block < W.heap.size := by obtain ⟨m, hm⟩ := k0; exact DataW.trod_lt m _ _ _ hm
 have kd : DataW.Trod enc Tryz.prog W 0 (fun _ => true) true 66 (.agg freeCells) d p' := ⟨fuel, hd⟩
 have ltd : ∀ x ∈ p', x.block < W.heap.size := DataW.trod_lt fuel _ _ _ hd
 obtain ⟨a0, len0, cap0, rfl⟩ := okWide_slice Tryz.underlying55 (hval 0 55 v0 rfl rfl)
 obtain ⟨z0, w0⟩ : ∃ zs, IsRow .u8 W a0 len0 cap0 zs := by
  obtain ⟨fuel, hf⟩ := h0
  rcases open_ints Tryz.underlying55 Tryz.underlying5 (by kernel_rfl) hf with ⟨hcs, _⟩ | ⟨x, l, c, zs, hcs, _, hl, hm, hz, _, hcell, hwz⟩
  ·simp [Value.cells] at hcs
   obtain ⟨rfl, rfl, rfl⟩ := hcs
   exact ⟨[], .inl ⟨rfl, rfl, rfl, rfl⟩⟩
  ·simp [Value.cells] at hcs
   obtain ⟨rfl, rfl, rfl⟩ := hcs
   exact ⟨zs, .inr ⟨_, rfl, hl, hm, by simpa using hz, hcell, hwz⟩⟩
 clear hA0 hV0 hval0
 refine (walk a0 len0 cap0 z0 W w0 hfree).mono fun e W' ⟨he, bel⟩ => ?_
 subst he
 have hvar' := var_stays hg hvar bel (Nat.le_refl _)
 obtain ⟨fuel', hd'⟩ := Below.trod laidOut (by kernel_rfl) (of_decide_eq_true (by kernel_rfl)) kd bel ltd
 exact ⟨_, rfl, _, _, _, [], _, _, hW', trodAll_mk1 (shut_bool Tryz.underlying4 _), (trodAll_cons_mk (Below.trod laidOut (by kernel_rfl) (of_decide_eq_true (by kernel_rfl)) k0 bel lt0) trodAll_mk0), ⟨0, 66, freeCells, fuel', _, _, hg, ht, hvar', hd', rfl, rfl⟩, bel.frame _, fun h => by cases h⟩
theorem over : Rows.fnTakePageRow.holds Tryz.pinned (OpenSpec.ofChange Rows.fnTakePageSpec) :=
 OpenClaim.holds_of_wide 9 Tryz.f9 rfl rfl rfl rfl rfl rfl rfl ⟨rfl, rfl, rfl, rfl, rfl⟩ rfl rfl rfl rfl rfl (by kernel_rfl) Tryz.func9 closed
  (of_decide_eq_true (by kernel_rfl)) (by unfold Func.isWrapper; rw [if_neg (of_decide_eq_false (by kernel_rfl))]; exact ⟨rfl, rfl⟩)
  (fun os started H enc _ => lifted os started H enc)
end Go.Proofs.YtibpnlojlfcpmaaGreatDoor.lTakePage
