/- A part of the proofs of this seat: Mark6. -/
import Derived.Deep.RegionHeldLaw
import Derived.Test.YtibpnlojlfcpmaaGreatDoorRMark5
set_option linter.unusedVariables false
set_option linter.unusedSimpArgs false
set_option maxRecDepth 1000000
namespace Go.Proofs.YtibpnlojlfcpmaaGreatDoor
open Go.RowKit
theorem max63 {n c : Nat} (h : n ≤ c) (hm : c ≤ maxLen) : n ≤ 9223372036854775807 := by simp only [maxLen] at hm; omega
set_option maxHeartbeats 2000000 in
theorem eqCache_same (v1 v2 : Value) (c : Ca) (w : World) (h1 : SlR lnE w v1 c.ls) (h2 : SlR lnE w v2 c.ls) :
  Calls Tryz.prog 65 #[.agg #[v1, .int .i64 c.hand], .agg #[v2, .int .i64 c.hand]] w fun r w' => r = .returned (.bool true) ∧ Below w.heap.size w w' := by
 obtain ⟨A0, a0, rfl, ha0, hA0', hA0⟩ := h1
 obtain ⟨B0, b0, rfl, hb0', hB0', hB0⟩ := h2
 have hp0 := (Own.new_ w 43 #[.slice A0 c.ls.length a0, .int .i64 c.hand]).alloc (o := .cells #[.slice B0 c.ls.length b0, .int .i64 c.hand] 43)
 have hq0 := ownAt (W := (w.alloc (.cells #[.slice A0 c.ls.length a0, .int .i64 c.hand] 43))) (g := w.heap.size + 1) (t := 43) (cs := #[.slice B0 c.ls.length b0, .int .i64 c.hand]) (by simp)
 have hb0 : Below w.heap.size w ((w.alloc (.cells #[.slice A0 c.ls.length a0, .int .i64 c.hand] 43)).alloc (.cells #[.slice B0 c.ls.length b0, .int .i64 c.hand] 43)) := bA (bA bR)
 generalize hW0 : ((w.alloc (.cells #[.slice A0 c.ls.length a0, .int .i64 c.hand] 43)).alloc (.cells #[.slice B0 c.ls.length b0, .int .i64 c.hand] 43)) = W0 at hp0 hq0 hb0
 have HP0 := Hd hp0
 have HQ0 := Hd hq0
 have HB0 := Hd hb0
 clear hp0 hq0 hb0
 have p0 := HP0.out.cell_ 0 (v := .slice A0 c.ls.length a0) rfl
 have q0 := HQ0.out.cell_ 0 (v := .slice B0 c.ls.length b0) rfl
 have p1 := HP0.out.cell_ 1 (v := .int .i64 c.hand) rfl
 have q1 := HQ0.out.cell_ 1 (v := .int .i64 c.hand) rfl
 go_enter Tryz.func65, Tryz.ntmps65
 go_wp2_with fail
 refine (eqLineS_same A0 B0 _ _ c.ls _ (hA0.now (Nat.le_refl _) HB0.out) (hB0.now (Nat.le_refl _) HB0.out) (max63 ha0 hA0')).mono ?_
 rintro e W1 ⟨rfl, hb_⟩
 clear p0 q0 p1 q1
 have hp1 := HP0.out.below hb_
 have hq1 := HQ0.out.below hb_
 have hb1 := bT HB0.out hb_
 clear hb_
 have HP1 := Hd hp1
 have HQ1 := Hd hq1
 have HB1 := Hd hb1
 clear hp1 hq1 hb1
 have p0 := HP1.out.cell_ 0 (v := .slice A0 c.ls.length a0) rfl
 have q0 := HQ1.out.cell_ 0 (v := .slice B0 c.ls.length b0) rfl
 have p1 := HP1.out.cell_ 1 (v := .int .i64 c.hand) rfl
 have q1 := HQ1.out.cell_ 1 (v := .int .i64 c.hand) rfl
 go_wp2
 go_ret
 exact ⟨rfl, HB1.out⟩
set_option maxHeartbeats 2000000 in
theorem eqTags_same (v1 v2 : Value) (g : Tg) (w : World) (h1 : SlR owE w v1 g.os) (h2 : SlR owE w v2 g.os) :
  Calls Tryz.prog 66 #[.agg #[.int .i64 g.count, .int .i64 g.next, .int .i64 g.round, v1], .agg #[.int .i64 g.count, .int .i64 g.next, .int .i64 g.round, v2]] w fun r w' => r = .returned (.bool true) ∧ Below w.heap.size w w' := by
 obtain ⟨A0, a0, rfl, ha0, hA0', hA0⟩ := h1
 obtain ⟨B0, b0, rfl, hb0', hB0', hB0⟩ := h2
 have hp0 := (Own.new_ w 46 #[.int .i64 g.count, .int .i64 g.next, .int .i64 g.round, .slice A0 g.os.length a0]).alloc (o := .cells #[.int .i64 g.count, .int .i64 g.next, .int .i64 g.round, .slice B0 g.os.length b0] 46)
 have hq0 := ownAt (W := (w.alloc (.cells #[.int .i64 g.count, .int .i64 g.next, .int .i64 g.round, .slice A0 g.os.length a0] 46))) (g := w.heap.size + 1) (t := 46) (cs := #[.int .i64 g.count, .int .i64 g.next, .int .i64 g.round, .slice B0 g.os.length b0]) (by simp)
 have hb0 : Below w.heap.size w ((w.alloc (.cells #[.int .i64 g.count, .int .i64 g.next, .int .i64 g.round, .slice A0 g.os.length a0] 46)).alloc (.cells #[.int .i64 g.count, .int .i64 g.next, .int .i64 g.round, .slice B0 g.os.length b0] 46)) := bA (bA bR)
 generalize hW0 : ((w.alloc (.cells #[.int .i64 g.count, .int .i64 g.next, .int .i64 g.round, .slice A0 g.os.length a0] 46)).alloc (.cells #[.int .i64 g.count, .int .i64 g.next, .int .i64 g.round, .slice B0 g.os.length b0] 46)) = W0 at hp0 hq0 hb0
 have HP0 := Hd hp0
 have HQ0 := Hd hq0
 have HB0 := Hd hb0
 clear hp0 hq0 hb0
 have p0 := HP0.out.cell_ 0 (v := .int .i64 g.count) rfl
 have q0 := HQ0.out.cell_ 0 (v := .int .i64 g.count) rfl
 have p1 := HP0.out.cell_ 1 (v := .int .i64 g.next) rfl
 have q1 := HQ0.out.cell_ 1 (v := .int .i64 g.next) rfl
 have p2 := HP0.out.cell_ 2 (v := .int .i64 g.round) rfl
 have q2 := HQ0.out.cell_ 2 (v := .int .i64 g.round) rfl
 have p3 := HP0.out.cell_ 3 (v := .slice A0 g.os.length a0) rfl
 have q3 := HQ0.out.cell_ 3 (v := .slice B0 g.os.length b0) rfl
 go_enter Tryz.func66, Tryz.ntmps66
 go_wp2_with fail
 refine (eqOwnS_same A0 B0 _ _ g.os _ (hA0.now (Nat.le_refl _) HB0.out) (hB0.now (Nat.le_refl _) HB0.out) (max63 ha0 hA0')).mono ?_
 rintro e W1 ⟨rfl, hb_⟩
 clear p0 q0 p1 q1 p2 q2 p3 q3
 have hp1 := HP0.out.below hb_
 have hq1 := HQ0.out.below hb_
 have hb1 := bT HB0.out hb_
 clear hb_
 have HP1 := Hd hp1
 have HQ1 := Hd hq1
 have HB1 := Hd hb1
 clear hp1 hq1 hb1
 have p0 := HP1.out.cell_ 0 (v := .int .i64 g.count) rfl
 have q0 := HQ1.out.cell_ 0 (v := .int .i64 g.count) rfl
 have p1 := HP1.out.cell_ 1 (v := .int .i64 g.next) rfl
 have q1 := HQ1.out.cell_ 1 (v := .int .i64 g.next) rfl
 have p2 := HP1.out.cell_ 2 (v := .int .i64 g.round) rfl
 have q2 := HQ1.out.cell_ 2 (v := .int .i64 g.round) rfl
 have p3 := HP1.out.cell_ 3 (v := .slice A0 g.os.length a0) rfl
 have q3 := HQ1.out.cell_ 3 (v := .slice B0 g.os.length b0) rfl
 go_wp2
 go_ret
 exact ⟨rfl, HB1.out⟩
set_option maxHeartbeats 2000000 in
theorem eqTable_same (v1 v2 v3 v4 : Value) (t : Tab) (w : World) (h1 : TaR w v1 v2 t) (h2 : TaR w v3 v4 t) :
  Calls Tryz.prog 64 #[.agg #[v1, v2], .agg #[v3, v4]] w fun r w' => r = .returned (.bool true) ∧ Below w.heap.size w w' := by
 obtain ⟨A0, a0, rfl, ha0, hA0', hA0⟩ := h1.b
 obtain ⟨B0, b0, rfl, hb0', hB0', hB0⟩ := h2.b
 obtain ⟨A1, a1, rfl, ha1, hA1', hA1⟩ := h1.f
 obtain ⟨B1, b1, rfl, hb1', hB1', hB1⟩ := h2.f
 have hp0 := (Own.new_ w 40 #[.slice A0 t.bs.length a0, .slice A1 t.fs.length a1]).alloc (o := .cells #[.slice B0 t.bs.length b0, .slice B1 t.fs.length b1] 40)
 have hq0 := ownAt (W := (w.alloc (.cells #[.slice A0 t.bs.length a0, .slice A1 t.fs.length a1] 40))) (g := w.heap.size + 1) (t := 40) (cs := #[.slice B0 t.bs.length b0, .slice B1 t.fs.length b1]) (by simp)
 have hb0 : Below w.heap.size w ((w.alloc (.cells #[.slice A0 t.bs.length a0, .slice A1 t.fs.length a1] 40)).alloc (.cells #[.slice B0 t.bs.length b0, .slice B1 t.fs.length b1] 40)) := bA (bA bR)
 generalize hW0 : ((w.alloc (.cells #[.slice A0 t.bs.length a0, .slice A1 t.fs.length a1] 40)).alloc (.cells #[.slice B0 t.bs.length b0, .slice B1 t.fs.length b1] 40)) = W0 at hp0 hq0 hb0
 have HP0 := Hd hp0
 have HQ0 := Hd hq0
 have HB0 := Hd hb0
 clear hp0 hq0 hb0
 have p0 := HP0.out.cell_ 0 (v := .slice A0 t.bs.length a0) rfl
 have q0 := HQ0.out.cell_ 0 (v := .slice B0 t.bs.length b0) rfl
 have p1 := HP0.out.cell_ 1 (v := .slice A1 t.fs.length a1) rfl
 have q1 := HQ0.out.cell_ 1 (v := .slice B1 t.fs.length b1) rfl
 go_enter Tryz.func64, Tryz.ntmps64
 go_wp2_with fail
 refine (eqIntS_same A0 B0 _ _ t.bs _ (hA0.now (Nat.le_refl _) HB0.out) (hB0.now (Nat.le_refl _) HB0.out) (max63 ha0 hA0')).mono ?_
 rintro e W1 ⟨rfl, hb_⟩
 clear p0 q0 p1 q1
 have hp1 := HP0.out.below hb_
 have hq1 := HQ0.out.below hb_
 have hb1 := bT HB0.out hb_
 clear hb_
 have HP1 := Hd hp1
 have HQ1 := Hd hq1
 have HB1 := Hd hb1
 clear hp1 hq1 hb1
 have p0 := HP1.out.cell_ 0 (v := .slice A0 t.bs.length a0) rfl
 have q0 := HQ1.out.cell_ 0 (v := .slice B0 t.bs.length b0) rfl
 have p1 := HP1.out.cell_ 1 (v := .slice A1 t.fs.length a1) rfl
 have q1 := HQ1.out.cell_ 1 (v := .slice B1 t.fs.length b1) rfl
 go_wp2_with fail
 refine (eqFrameS_same A1 B1 _ _ t.fs _ (hA1.now (Nat.le_refl _) HB1.out) (hB1.now (Nat.le_refl _) HB1.out) (max63 ha1 hA1')).mono ?_
 rintro e W2 ⟨rfl, hb_⟩
 clear p0 q0 p1 q1
 have hp2 := HP1.out.below hb_
 have hq2 := HQ1.out.below hb_
 have hb2 := bT HB1.out hb_
 clear hb_
 have HP2 := Hd hp2
 have HQ2 := Hd hq2
 have HB2 := Hd hb2
 clear hp2 hq2 hb2
 have p0 := HP2.out.cell_ 0 (v := .slice A0 t.bs.length a0) rfl
 have q0 := HQ2.out.cell_ 0 (v := .slice B0 t.bs.length b0) rfl
 have p1 := HP2.out.cell_ 1 (v := .slice A1 t.fs.length a1) rfl
 have q1 := HQ2.out.cell_ 1 (v := .slice B1 t.fs.length b1) rfl
 go_wp2
 go_ret
 exact ⟨rfl, HB2.out⟩
set_option maxHeartbeats 2000000 in
theorem eqMachine_same (v1 v2 v3 v4 u1 u2 u3 u4 : Value) (m : Ma) (w : World) (h1 : MaR w v1 v2 v3 v4 m) (h2 : MaR w u1 u2 u3 u4 m) :
  Calls Tryz.prog 18 #[.agg #[v1, v2, v3, .int .i64 m.c.hand, .int .i64 m.g.count, .int .i64 m.g.next, .int .i64 m.g.round, v4, .int .i64 m.sp], .agg #[u1, u2, u3, .int .i64 m.c.hand, .int .i64 m.g.count, .int .i64 m.g.next, .int .i64 m.g.round, u4, .int .i64 m.sp]] w fun r w' => r = .returned (.bool true) ∧ Below w.heap.size w w' := by
 obtain ⟨A0, a0, rfl, ha0, hA0', hA0⟩ := h1.t.b
 obtain ⟨B0, b0, rfl, hb0', hB0', hB0⟩ := h2.t.b
 obtain ⟨A1, a1, rfl, ha1, hA1', hA1⟩ := h1.t.f
 obtain ⟨B1, b1, rfl, hb1', hB1', hB1⟩ := h2.t.f
 obtain ⟨A2, a2, rfl, ha2, hA2', hA2⟩ := h1.l
 obtain ⟨B2, b2, rfl, hb2', hB2', hB2⟩ := h2.l
 obtain ⟨A3, a3, rfl, ha3, hA3', hA3⟩ := h1.o
 obtain ⟨B3, b3, rfl, hb3', hB3', hB3⟩ := h2.o
 have hp0 := (Own.new_ w 48 #[.slice A0 m.t.bs.length a0, .slice A1 m.t.fs.length a1, .slice A2 m.c.ls.length a2, .int .i64 m.c.hand, .int .i64 m.g.count, .int .i64 m.g.next, .int .i64 m.g.round, .slice A3 m.g.os.length a3, .int .i64 m.sp]).alloc (o := .cells #[.slice B0 m.t.bs.length b0, .slice B1 m.t.fs.length b1, .slice B2 m.c.ls.length b2, .int .i64 m.c.hand, .int .i64 m.g.count, .int .i64 m.g.next, .int .i64 m.g.round, .slice B3 m.g.os.length b3, .int .i64 m.sp] 48)
 have hq0 := ownAt (W := (w.alloc (.cells #[.slice A0 m.t.bs.length a0, .slice A1 m.t.fs.length a1, .slice A2 m.c.ls.length a2, .int .i64 m.c.hand, .int .i64 m.g.count, .int .i64 m.g.next, .int .i64 m.g.round, .slice A3 m.g.os.length a3, .int .i64 m.sp] 48))) (g := w.heap.size + 1) (t := 48) (cs := #[.slice B0 m.t.bs.length b0, .slice B1 m.t.fs.length b1, .slice B2 m.c.ls.length b2, .int .i64 m.c.hand, .int .i64 m.g.count, .int .i64 m.g.next, .int .i64 m.g.round, .slice B3 m.g.os.length b3, .int .i64 m.sp]) (by simp)
 have hb0 : Below w.heap.size w ((w.alloc (.cells #[.slice A0 m.t.bs.length a0, .slice A1 m.t.fs.length a1, .slice A2 m.c.ls.length a2, .int .i64 m.c.hand, .int .i64 m.g.count, .int .i64 m.g.next, .int .i64 m.g.round, .slice A3 m.g.os.length a3, .int .i64 m.sp] 48)).alloc (.cells #[.slice B0 m.t.bs.length b0, .slice B1 m.t.fs.length b1, .slice B2 m.c.ls.length b2, .int .i64 m.c.hand, .int .i64 m.g.count, .int .i64 m.g.next, .int .i64 m.g.round, .slice B3 m.g.os.length b3, .int .i64 m.sp] 48)) := bA (bA bR)
 generalize hW0 : ((w.alloc (.cells #[.slice A0 m.t.bs.length a0, .slice A1 m.t.fs.length a1, .slice A2 m.c.ls.length a2, .int .i64 m.c.hand, .int .i64 m.g.count, .int .i64 m.g.next, .int .i64 m.g.round, .slice A3 m.g.os.length a3, .int .i64 m.sp] 48)).alloc (.cells #[.slice B0 m.t.bs.length b0, .slice B1 m.t.fs.length b1, .slice B2 m.c.ls.length b2, .int .i64 m.c.hand, .int .i64 m.g.count, .int .i64 m.g.next, .int .i64 m.g.round, .slice B3 m.g.os.length b3, .int .i64 m.sp] 48)) = W0 at hp0 hq0 hb0
 have HP0 := Hd hp0
 have HQ0 := Hd hq0
 have HB0 := Hd hb0
 clear hp0 hq0 hb0
 have p0 := HP0.out.cell_ 0 (v := .slice A0 m.t.bs.length a0) rfl
 have q0 := HQ0.out.cell_ 0 (v := .slice B0 m.t.bs.length b0) rfl
 have p1 := HP0.out.cell_ 1 (v := .slice A1 m.t.fs.length a1) rfl
 have q1 := HQ0.out.cell_ 1 (v := .slice B1 m.t.fs.length b1) rfl
 have p2 := HP0.out.cell_ 2 (v := .slice A2 m.c.ls.length a2) rfl
 have q2 := HQ0.out.cell_ 2 (v := .slice B2 m.c.ls.length b2) rfl
 have p3 := HP0.out.cell_ 3 (v := .int .i64 m.c.hand) rfl
 have q3 := HQ0.out.cell_ 3 (v := .int .i64 m.c.hand) rfl
 have p4 := HP0.out.cell_ 4 (v := .int .i64 m.g.count) rfl
 have q4 := HQ0.out.cell_ 4 (v := .int .i64 m.g.count) rfl
 have p5 := HP0.out.cell_ 5 (v := .int .i64 m.g.next) rfl
 have q5 := HQ0.out.cell_ 5 (v := .int .i64 m.g.next) rfl
 have p6 := HP0.out.cell_ 6 (v := .int .i64 m.g.round) rfl
 have q6 := HQ0.out.cell_ 6 (v := .int .i64 m.g.round) rfl
 have p7 := HP0.out.cell_ 7 (v := .slice A3 m.g.os.length a3) rfl
 have q7 := HQ0.out.cell_ 7 (v := .slice B3 m.g.os.length b3) rfl
 have p8 := HP0.out.cell_ 8 (v := .int .i64 m.sp) rfl
 have q8 := HQ0.out.cell_ 8 (v := .int .i64 m.sp) rfl
 go_enter Tryz.func18, Tryz.ntmps18
 go_wp2_with fail
 refine (eqTable_same _ _ _ _ m.t _ ⟨⟨A0, a0, rfl, ha0, hA0', hA0.now (Nat.le_refl _) HB0.out⟩, ⟨A1, a1, rfl, ha1, hA1', hA1.now (Nat.le_refl _) HB0.out⟩⟩ ⟨⟨B0, b0, rfl, hb0', hB0', hB0.now (Nat.le_refl _) HB0.out⟩, ⟨B1, b1, rfl, hb1', hB1', hB1.now (Nat.le_refl _) HB0.out⟩⟩).mono ?_
 rintro e W1 ⟨rfl, hb_⟩
 clear p0 q0 p1 q1 p2 q2 p3 q3 p4 q4 p5 q5 p6 q6 p7 q7 p8 q8
 have hp1 := HP0.out.below hb_
 have hq1 := HQ0.out.below hb_
 have hb1 := bT HB0.out hb_
 clear hb_
 have HP1 := Hd hp1
 have HQ1 := Hd hq1
 have HB1 := Hd hb1
 clear hp1 hq1 hb1
 have p0 := HP1.out.cell_ 0 (v := .slice A0 m.t.bs.length a0) rfl
 have q0 := HQ1.out.cell_ 0 (v := .slice B0 m.t.bs.length b0) rfl
 have p1 := HP1.out.cell_ 1 (v := .slice A1 m.t.fs.length a1) rfl
 have q1 := HQ1.out.cell_ 1 (v := .slice B1 m.t.fs.length b1) rfl
 have p2 := HP1.out.cell_ 2 (v := .slice A2 m.c.ls.length a2) rfl
 have q2 := HQ1.out.cell_ 2 (v := .slice B2 m.c.ls.length b2) rfl
 have p3 := HP1.out.cell_ 3 (v := .int .i64 m.c.hand) rfl
 have q3 := HQ1.out.cell_ 3 (v := .int .i64 m.c.hand) rfl
 have p4 := HP1.out.cell_ 4 (v := .int .i64 m.g.count) rfl
 have q4 := HQ1.out.cell_ 4 (v := .int .i64 m.g.count) rfl
 have p5 := HP1.out.cell_ 5 (v := .int .i64 m.g.next) rfl
 have q5 := HQ1.out.cell_ 5 (v := .int .i64 m.g.next) rfl
 have p6 := HP1.out.cell_ 6 (v := .int .i64 m.g.round) rfl
 have q6 := HQ1.out.cell_ 6 (v := .int .i64 m.g.round) rfl
 have p7 := HP1.out.cell_ 7 (v := .slice A3 m.g.os.length a3) rfl
 have q7 := HQ1.out.cell_ 7 (v := .slice B3 m.g.os.length b3) rfl
 have p8 := HP1.out.cell_ 8 (v := .int .i64 m.sp) rfl
 have q8 := HQ1.out.cell_ 8 (v := .int .i64 m.sp) rfl
 go_wp2_with fail
 refine (eqCache_same _ _ m.c _ ⟨A2, a2, rfl, ha2, hA2', hA2.now (Nat.le_refl _) HB1.out⟩ ⟨B2, b2, rfl, hb2', hB2', hB2.now (Nat.le_refl _) HB1.out⟩).mono ?_
 rintro e W2 ⟨rfl, hb_⟩
 clear p0 q0 p1 q1 p2 q2 p3 q3 p4 q4 p5 q5 p6 q6 p7 q7 p8 q8
 have hp2 := HP1.out.below hb_
 have hq2 := HQ1.out.below hb_
 have hb2 := bT HB1.out hb_
 clear hb_
 have HP2 := Hd hp2
 have HQ2 := Hd hq2
 have HB2 := Hd hb2
 clear hp2 hq2 hb2
 have p0 := HP2.out.cell_ 0 (v := .slice A0 m.t.bs.length a0) rfl
 have q0 := HQ2.out.cell_ 0 (v := .slice B0 m.t.bs.length b0) rfl
 have p1 := HP2.out.cell_ 1 (v := .slice A1 m.t.fs.length a1) rfl
 have q1 := HQ2.out.cell_ 1 (v := .slice B1 m.t.fs.length b1) rfl
 have p2 := HP2.out.cell_ 2 (v := .slice A2 m.c.ls.length a2) rfl
 have q2 := HQ2.out.cell_ 2 (v := .slice B2 m.c.ls.length b2) rfl
 have p3 := HP2.out.cell_ 3 (v := .int .i64 m.c.hand) rfl
 have q3 := HQ2.out.cell_ 3 (v := .int .i64 m.c.hand) rfl
 have p4 := HP2.out.cell_ 4 (v := .int .i64 m.g.count) rfl
 have q4 := HQ2.out.cell_ 4 (v := .int .i64 m.g.count) rfl
 have p5 := HP2.out.cell_ 5 (v := .int .i64 m.g.next) rfl
 have q5 := HQ2.out.cell_ 5 (v := .int .i64 m.g.next) rfl
 have p6 := HP2.out.cell_ 6 (v := .int .i64 m.g.round) rfl
 have q6 := HQ2.out.cell_ 6 (v := .int .i64 m.g.round) rfl
 have p7 := HP2.out.cell_ 7 (v := .slice A3 m.g.os.length a3) rfl
 have q7 := HQ2.out.cell_ 7 (v := .slice B3 m.g.os.length b3) rfl
 have p8 := HP2.out.cell_ 8 (v := .int .i64 m.sp) rfl
 have q8 := HQ2.out.cell_ 8 (v := .int .i64 m.sp) rfl
 go_wp2_with fail
 refine (eqTags_same _ _ m.g _ ⟨A3, a3, rfl, ha3, hA3', hA3.now (Nat.le_refl _) HB2.out⟩ ⟨B3, b3, rfl, hb3', hB3', hB3.now (Nat.le_refl _) HB2.out⟩).mono ?_
 rintro e W3 ⟨rfl, hb_⟩
 clear p0 q0 p1 q1 p2 q2 p3 q3 p4 q4 p5 q5 p6 q6 p7 q7 p8 q8
 have hp3 := HP2.out.below hb_
 have hq3 := HQ2.out.below hb_
 have hb3 := bT HB2.out hb_
 clear hb_
 have HP3 := Hd hp3
 have HQ3 := Hd hq3
 have HB3 := Hd hb3
 clear hp3 hq3 hb3
 have p0 := HP3.out.cell_ 0 (v := .slice A0 m.t.bs.length a0) rfl
 have q0 := HQ3.out.cell_ 0 (v := .slice B0 m.t.bs.length b0) rfl
 have p1 := HP3.out.cell_ 1 (v := .slice A1 m.t.fs.length a1) rfl
 have q1 := HQ3.out.cell_ 1 (v := .slice B1 m.t.fs.length b1) rfl
 have p2 := HP3.out.cell_ 2 (v := .slice A2 m.c.ls.length a2) rfl
 have q2 := HQ3.out.cell_ 2 (v := .slice B2 m.c.ls.length b2) rfl
 have p3 := HP3.out.cell_ 3 (v := .int .i64 m.c.hand) rfl
 have q3 := HQ3.out.cell_ 3 (v := .int .i64 m.c.hand) rfl
 have p4 := HP3.out.cell_ 4 (v := .int .i64 m.g.count) rfl
 have q4 := HQ3.out.cell_ 4 (v := .int .i64 m.g.count) rfl
 have p5 := HP3.out.cell_ 5 (v := .int .i64 m.g.next) rfl
 have q5 := HQ3.out.cell_ 5 (v := .int .i64 m.g.next) rfl
 have p6 := HP3.out.cell_ 6 (v := .int .i64 m.g.round) rfl
 have q6 := HQ3.out.cell_ 6 (v := .int .i64 m.g.round) rfl
 have p7 := HP3.out.cell_ 7 (v := .slice A3 m.g.os.length a3) rfl
 have q7 := HQ3.out.cell_ 7 (v := .slice B3 m.g.os.length b3) rfl
 have p8 := HP3.out.cell_ 8 (v := .int .i64 m.sp) rfl
 have q8 := HQ3.out.cell_ 8 (v := .int .i64 m.sp) rfl
 go_wp2
 go_ret
 exact ⟨rfl, HB3.out⟩
end Go.Proofs.YtibpnlojlfcpmaaGreatDoor
