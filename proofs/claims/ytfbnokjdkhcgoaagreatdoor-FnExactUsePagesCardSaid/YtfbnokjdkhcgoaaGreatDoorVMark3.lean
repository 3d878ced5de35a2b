/- A part of the proofs of this seat: Mark3. -/
import Derived.Test.YtfbnokjdkhcgoaaGreatDoorVPpS
set_option linter.unusedVariables false
set_option linter.unusedSimpArgs false
set_option maxRecDepth 1000000
namespace Go.Proofs.YtfbnokjdkhcgoaaGreatDoor
open Go.RowKit
set_option maxHeartbeats 2000000 in
theorem toCache_any (vl : Value) (c : Ca) (w : World) (hT : SlR lnE w vl c.ls) (hl : c.ls.length ≤ 1048576) :
  Calls Tryz.prog 110 #[.agg #[vl, .int .i64 c.hand]] w (Post2 fun v w' => ∃ v1, v = .agg #[v1, .int .i64 c.hand] ∧ SlM lnE 50 w.heap.size w' v1 c.ls ∧ Below w.heap.size w w') := by
 obtain ⟨A0, c0, rfl, _, _, hR0⟩ := hT
 have hp0 := ((Own.new_ w 60 #[.slice A0 c.ls.length c0, .int .i64 c.hand]).alloc (o := .cells #[.slice none 0 0, .int .i64 0] 29)).alloc (o := .cells #[.slice none 0 0, .int .i64 0] 29)
 have hr0 := (ownAt (W := (w.alloc (.cells #[.slice A0 c.ls.length c0, .int .i64 c.hand] 60))) (g := w.heap.size + 1) (t := 29) (cs := #[.slice none 0 0, .int .i64 0]) (by simp)).alloc (o := .cells #[.slice none 0 0, .int .i64 0] 29)
 have ho0 := ownAt (W := ((w.alloc (.cells #[.slice A0 c.ls.length c0, .int .i64 c.hand] 60)).alloc (.cells #[.slice none 0 0, .int .i64 0] 29))) (g := w.heap.size + 1 + 1) (t := 29) (cs := #[.slice none 0 0, .int .i64 0]) (by simp)
 have hb0 : Below w.heap.size w (((w.alloc (.cells #[.slice A0 c.ls.length c0, .int .i64 c.hand] 60)).alloc (.cells #[.slice none 0 0, .int .i64 0] 29)).alloc (.cells #[.slice none 0 0, .int .i64 0] 29)) := bA (bA (bA bR))
 have hs0 : w.heap.size + 3 ≤ (((w.alloc (.cells #[.slice A0 c.ls.length c0, .int .i64 c.hand] 60)).alloc (.cells #[.slice none 0 0, .int .i64 0] 29)).alloc (.cells #[.slice none 0 0, .int .i64 0] 29)).heap.size := by simp
 generalize hW0 : (((w.alloc (.cells #[.slice A0 c.ls.length c0, .int .i64 c.hand] 60)).alloc (.cells #[.slice none 0 0, .int .i64 0] 29)).alloc (.cells #[.slice none 0 0, .int .i64 0] 29)) = W0 at hp0 hr0 ho0 hb0 hs0
 have HP0 := Hd hp0
 have HR0 := Hd hr0
 have HO0 := Hd ho0
 have HB0 := Hd hb0
 clear hp0 hr0 ho0 hb0
 have p0_0 := HP0.out.cell_ 0 (v := .slice A0 c.ls.length c0) rfl
 have p1_0 := HP0.out.cell_ 1 (v := .int .i64 c.hand) rfl
 go_enter Tryz.func110, Tryz.ntmps110
 go_wp2_with fail
 refine (toLineS_any A0 c0 c.ls _ (hR0.now (Nat.le_refl _) HB0.out) hl).mono ?_
 rintro e W1 ⟨rfl, he_, hb_⟩
 have hp1 := HP0.out.below hb_
 have hr1 := HR0.out.below hb_
 have ho1 := HO0.out.below hb_
 have hb1 := bT HB0.out hb_
 have hs1 := Nat.le_trans hs0 hb_.size
 have HM0_1 : Hid (SlM lnE 50 (w.heap.size + 3) W1 (.slice (some ⟨W0.heap.size, 0, none⟩) c.ls.length c.ls.length) c.ls) := he_.slm hs0 (by unfold maxLen; omega)
 clear hb_ he_ p0_0 p1_0
 have HP1 := Hd hp1
 have HR1 := Hd hr1
 have HO1 := Hd ho1
 have HB1 := Hd hb1
 clear hp1 hr1 ho1 hb1
 have p0_1 := HP1.out.cell_ 0 (v := .slice A0 c.ls.length c0) rfl
 have p1_1 := HP1.out.cell_ 1 (v := .int .i64 c.hand) rfl
 have o0_1 := HO1.out.cell_ 0 (v := .slice none 0 0) rfl
 have f0_1 := HO1.out.free 0
 have o1_1 := HO1.out.cell_ 1 (v := .int .i64 0) rfl
 have f1_1 := HO1.out.free 1
 have r0_1 := HR1.out.cell_ 0 (v := .slice none 0 0) rfl
 have q0_1 := HR1.out.free 0
 have r1_1 := HR1.out.cell_ 1 (v := .int .i64 0) rfl
 have q1_1 := HR1.out.free 1
 go_wp2
 have o3 := ((((HR1.out.far (p := ⟨w.heap.size + 1 + 1, 0, none⟩) (u := .slice (some ⟨W0.heap.size, 0, none⟩) c.ls.length c.ls.length) (by simp)).far (p := ⟨w.heap.size + 1 + 1, 1, none⟩) (u := .int .i64 c.hand) (by simp)).set_ 0 (.slice (some ⟨W0.heap.size, 0, none⟩) c.ls.length c.ls.length)).set_ 1 (.int .i64 c.hand))
 have t0 := o3.cell_ 0 (v := .slice (some ⟨W0.heap.size, 0, none⟩) c.ls.length c.ls.length) (by simp)
 have t1 := o3.cell_ 1 (v := .int .i64 c.hand) (by simp)
 refine bodyPost_ret (v := .agg #[.slice (some ⟨W0.heap.size, 0, none⟩) c.ls.length c.ls.length, .int .i64 c.hand]) (by simp [results, Tryz.results110, go_sem, t0, t1]) rfl ⟨_, rfl, .slice (some ⟨W0.heap.size, 0, none⟩) c.ls.length c.ls.length, rfl, ?_, ?_⟩
 ·refine SlM.mono (base' := w.heap.size) (base := w.heap.size + 3) ?_ (by omega)
  repeat (refine SlM.far ?_ (by show _ < w.heap.size + 3; simp))
  exact HM0_1.out
 ·repeat (refine bS ?_ (by simp <;> omega))
  exact HB1.out
set_option maxHeartbeats 2000000 in
theorem toTags_any (vo : Value) (g : Tg) (w : World) (hT : SlR owE w vo g.os) (hl : g.os.length ≤ 1048576) :
  Calls Tryz.prog 111 #[.agg #[.int .i64 g.count, .int .i64 g.next, .int .i64 g.round, vo]] w (Post2 fun v w' => ∃ v1, v = .agg #[.int .i64 g.count, .int .i64 g.next, .int .i64 g.round, v1] ∧ SlM owE 186 w.heap.size w' v1 g.os ∧ Below w.heap.size w w') := by
 obtain ⟨A0, c0, rfl, _, _, hR0⟩ := hT
 have hp0 := ((Own.new_ w 63 #[.int .i64 g.count, .int .i64 g.next, .int .i64 g.round, .slice A0 g.os.length c0]).alloc (o := .cells #[.int .i64 0, .int .i64 0, .int .i64 0, .slice none 0 0] 32)).alloc (o := .cells #[.int .i64 0, .int .i64 0, .int .i64 0, .slice none 0 0] 32)
 have hr0 := (ownAt (W := (w.alloc (.cells #[.int .i64 g.count, .int .i64 g.next, .int .i64 g.round, .slice A0 g.os.length c0] 63))) (g := w.heap.size + 1) (t := 32) (cs := #[.int .i64 0, .int .i64 0, .int .i64 0, .slice none 0 0]) (by simp)).alloc (o := .cells #[.int .i64 0, .int .i64 0, .int .i64 0, .slice none 0 0] 32)
 have ho0 := ownAt (W := ((w.alloc (.cells #[.int .i64 g.count, .int .i64 g.next, .int .i64 g.round, .slice A0 g.os.length c0] 63)).alloc (.cells #[.int .i64 0, .int .i64 0, .int .i64 0, .slice none 0 0] 32))) (g := w.heap.size + 1 + 1) (t := 32) (cs := #[.int .i64 0, .int .i64 0, .int .i64 0, .slice none 0 0]) (by simp)
 have hb0 : Below w.heap.size w (((w.alloc (.cells #[.int .i64 g.count, .int .i64 g.next, .int .i64 g.round, .slice A0 g.os.length c0] 63)).alloc (.cells #[.int .i64 0, .int .i64 0, .int .i64 0, .slice none 0 0] 32)).alloc (.cells #[.int .i64 0, .int .i64 0, .int .i64 0, .slice none 0 0] 32)) := bA (bA (bA bR))
 have hs0 : w.heap.size + 3 ≤ (((w.alloc (.cells #[.int .i64 g.count, .int .i64 g.next, .int .i64 g.round, .slice A0 g.os.length c0] 63)).alloc (.cells #[.int .i64 0, .int .i64 0, .int .i64 0, .slice none 0 0] 32)).alloc (.cells #[.int .i64 0, .int .i64 0, .int .i64 0, .slice none 0 0] 32)).heap.size := by simp
 generalize hW0 : (((w.alloc (.cells #[.int .i64 g.count, .int .i64 g.next, .int .i64 g.round, .slice A0 g.os.length c0] 63)).alloc (.cells #[.int .i64 0, .int .i64 0, .int .i64 0, .slice none 0 0] 32)).alloc (.cells #[.int .i64 0, .int .i64 0, .int .i64 0, .slice none 0 0] 32)) = W0 at hp0 hr0 ho0 hb0 hs0
 have HP0 := Hd hp0
 have HR0 := Hd hr0
 have HO0 := Hd ho0
 have HB0 := Hd hb0
 clear hp0 hr0 ho0 hb0
 have p0_0 := HP0.out.cell_ 0 (v := .int .i64 g.count) rfl
 have p1_0 := HP0.out.cell_ 1 (v := .int .i64 g.next) rfl
 have p2_0 := HP0.out.cell_ 2 (v := .int .i64 g.round) rfl
 have p3_0 := HP0.out.cell_ 3 (v := .slice A0 g.os.length c0) rfl
 have o0_0 := HO0.out.cell_ 0 (v := .int .i64 0) rfl
 have f0_0 := HO0.out.free 0
 have o1_0 := HO0.out.cell_ 1 (v := .int .i64 0) rfl
 have f1_0 := HO0.out.free 1
 have o2_0 := HO0.out.cell_ 2 (v := .int .i64 0) rfl
 have f2_0 := HO0.out.free 2
 have ho1 : Own (((W0.setCell ⟨w.heap.size + 1 + 1, 0, none⟩ (.int .i64 g.count)).setCell ⟨w.heap.size + 1 + 1, 1, none⟩ (.int .i64 g.next)).setCell ⟨w.heap.size + 1 + 1, 2, none⟩ (.int .i64 g.round)) (w.heap.size + 1 + 1) 32 #[.int .i64 g.count, .int .i64 g.next, .int .i64 g.round, .slice none 0 0] := by simpa using (((HO0.out.set_ 0 (.int .i64 g.count)).set_ 1 (.int .i64 g.next)).set_ 2 (.int .i64 g.round))
 have hp1 := (((HP0.out.far (p := ⟨w.heap.size + 1 + 1, 0, none⟩) (u := .int .i64 g.count) (by show _ ≠ w.heap.size + 1 + 1; omega)).far (p := ⟨w.heap.size + 1 + 1, 1, none⟩) (u := .int .i64 g.next) (by show _ ≠ w.heap.size + 1 + 1; omega)).far (p := ⟨w.heap.size + 1 + 1, 2, none⟩) (u := .int .i64 g.round) (by show _ ≠ w.heap.size + 1 + 1; omega))
 have hr1 := (((HR0.out.far (p := ⟨w.heap.size + 1 + 1, 0, none⟩) (u := .int .i64 g.count) (by show _ ≠ w.heap.size + 1 + 1; omega)).far (p := ⟨w.heap.size + 1 + 1, 1, none⟩) (u := .int .i64 g.next) (by show _ ≠ w.heap.size + 1 + 1; omega)).far (p := ⟨w.heap.size + 1 + 1, 2, none⟩) (u := .int .i64 g.round) (by show _ ≠ w.heap.size + 1 + 1; omega))
 have hb1 := (bS ((bS ((bS (HB0.out) (p := ⟨w.heap.size + 1 + 1, 0, none⟩) (u := .int .i64 g.count) (by simp <;> omega))) (p := ⟨w.heap.size + 1 + 1, 1, none⟩) (u := .int .i64 g.next) (by simp <;> omega))) (p := ⟨w.heap.size + 1 + 1, 2, none⟩) (u := .int .i64 g.round) (by simp <;> omega))
 have hs1 : w.heap.size + 3 ≤ (((W0.setCell ⟨w.heap.size + 1 + 1, 0, none⟩ (.int .i64 g.count)).setCell ⟨w.heap.size + 1 + 1, 1, none⟩ (.int .i64 g.next)).setCell ⟨w.heap.size + 1 + 1, 2, none⟩ (.int .i64 g.round)).heap.size := by simpa using hs0
 generalize hW1 : (((W0.setCell ⟨w.heap.size + 1 + 1, 0, none⟩ (.int .i64 g.count)).setCell ⟨w.heap.size + 1 + 1, 1, none⟩ (.int .i64 g.next)).setCell ⟨w.heap.size + 1 + 1, 2, none⟩ (.int .i64 g.round)) = W1 at hp1 hr1 ho1 hb1 hs1
 have HP1 := Hd hp1
 have HR1 := Hd hr1
 have HO1 := Hd ho1
 have HB1 := Hd hb1
 clear hp1 hr1 ho1 hb1
 have p0_1 := HP1.out.cell_ 0 (v := .int .i64 g.count) rfl
 have p1_1 := HP1.out.cell_ 1 (v := .int .i64 g.next) rfl
 have p2_1 := HP1.out.cell_ 2 (v := .int .i64 g.round) rfl
 have p3_1 := HP1.out.cell_ 3 (v := .slice A0 g.os.length c0) rfl
 go_enter Tryz.func111, Tryz.ntmps111
 go_wp2_with fail
 refine (toOwnS_any A0 c0 g.os _ (hR0.now (Nat.le_refl _) HB1.out) hl).mono ?_
 rintro e W2 ⟨rfl, he_, hb_⟩
 have hp2 := HP1.out.below hb_
 have hr2 := HR1.out.below hb_
 have ho2 := HO1.out.below hb_
 have hb2 := bT HB1.out hb_
 have hs2 := Nat.le_trans hs1 hb_.size
 have HM0_2 : Hid (SlM owE 186 (w.heap.size + 3) W2 (.slice (some ⟨W1.heap.size, 0, none⟩) g.os.length g.os.length) g.os) := he_.slm hs1 (by unfold maxLen; omega)
 clear hb_ he_ p0_0 p1_0 p2_0 p3_0 o0_0 f0_0 o1_0 f1_0 o2_0 f2_0 p0_1 p1_1 p2_1 p3_1
 have HP2 := Hd hp2
 have HR2 := Hd hr2
 have HO2 := Hd ho2
 have HB2 := Hd hb2
 clear hp2 hr2 ho2 hb2
 have p0_2 := HP2.out.cell_ 0 (v := .int .i64 g.count) rfl
 have p1_2 := HP2.out.cell_ 1 (v := .int .i64 g.next) rfl
 have p2_2 := HP2.out.cell_ 2 (v := .int .i64 g.round) rfl
 have p3_2 := HP2.out.cell_ 3 (v := .slice A0 g.os.length c0) rfl
 have o0_2 := HO2.out.cell_ 0 (v := .int .i64 g.count) rfl
 have f0_2 := HO2.out.free 0
 have o1_2 := HO2.out.cell_ 1 (v := .int .i64 g.next) rfl
 have f1_2 := HO2.out.free 1
 have o2_2 := HO2.out.cell_ 2 (v := .int .i64 g.round) rfl
 have f2_2 := HO2.out.free 2
 have o3_2 := HO2.out.cell_ 3 (v := .slice none 0 0) rfl
 have f3_2 := HO2.out.free 3
 have r0_2 := HR2.out.cell_ 0 (v := .int .i64 0) rfl
 have q0_2 := HR2.out.free 0
 have r1_2 := HR2.out.cell_ 1 (v := .int .i64 0) rfl
 have q1_2 := HR2.out.free 1
 have r2_2 := HR2.out.cell_ 2 (v := .int .i64 0) rfl
 have q2_2 := HR2.out.free 2
 have r3_2 := HR2.out.cell_ 3 (v := .slice none 0 0) rfl
 have q3_2 := HR2.out.free 3
 go_wp2
 have o3 := (((((HR2.out.far (p := ⟨w.heap.size + 1 + 1, 3, none⟩) (u := .slice (some ⟨W1.heap.size, 0, none⟩) g.os.length g.os.length) (by simp)).set_ 0 (.int .i64 g.count)).set_ 1 (.int .i64 g.next)).set_ 2 (.int .i64 g.round)).set_ 3 (.slice (some ⟨W1.heap.size, 0, none⟩) g.os.length g.os.length))
 have t0 := o3.cell_ 0 (v := .int .i64 g.count) (by simp)
 have t1 := o3.cell_ 1 (v := .int .i64 g.next) (by simp)
 have t2 := o3.cell_ 2 (v := .int .i64 g.round) (by simp)
 have t3 := o3.cell_ 3 (v := .slice (some ⟨W1.heap.size, 0, none⟩) g.os.length g.os.length) (by simp)
 refine bodyPost_ret (v := .agg #[.int .i64 g.count, .int .i64 g.next, .int .i64 g.round, .slice (some ⟨W1.heap.size, 0, none⟩) g.os.length g.os.length]) (by simp [results, Tryz.results111, go_sem, t0, t1, t2, t3]) rfl ⟨_, rfl, .slice (some ⟨W1.heap.size, 0, none⟩) g.os.length g.os.length, rfl, ?_, ?_⟩
 ·refine SlM.mono (base' := w.heap.size) (base := w.heap.size + 3) ?_ (by omega)
  repeat (refine SlM.far ?_ (by show _ < w.heap.size + 3; simp))
  exact HM0_2.out
 ·repeat (refine bS ?_ (by simp <;> omega))
  exact HB2.out
set_option maxHeartbeats 2000000 in
theorem toTable_any (vb vf : Value) (t : Tab) (w : World) (hT : TaR w vb vf t) (hl : t.bs.length ≤ 1048576) (hl2 : t.fs.length ≤ 1048576) :
  Calls Tryz.prog 109 #[.agg #[vb, vf]] w (Post2 fun v w' => ∃ v1 v2, v = .agg #[v1, v2] ∧ SlM intE 3 w.heap.size w' v1 t.bs ∧ SlM frE 80 w.heap.size w' v2 t.fs ∧ Below w.heap.size w w') := by
 obtain ⟨⟨A0, c0, rfl, _, _, hR0⟩, ⟨A1, c1, rfl, _, _, hR1⟩⟩ := hT
 have hp0 := ((Own.new_ w 57 #[.slice A0 t.bs.length c0, .slice A1 t.fs.length c1]).alloc (o := .cells #[.slice none 0 0, .slice none 0 0] 26)).alloc (o := .cells #[.slice none 0 0, .slice none 0 0] 26)
 have hr0 := (ownAt (W := (w.alloc (.cells #[.slice A0 t.bs.length c0, .slice A1 t.fs.length c1] 57))) (g := w.heap.size + 1) (t := 26) (cs := #[.slice none 0 0, .slice none 0 0]) (by simp)).alloc (o := .cells #[.slice none 0 0, .slice none 0 0] 26)
 have ho0 := ownAt (W := ((w.alloc (.cells #[.slice A0 t.bs.length c0, .slice A1 t.fs.length c1] 57)).alloc (.cells #[.slice none 0 0, .slice none 0 0] 26))) (g := w.heap.size + 1 + 1) (t := 26) (cs := #[.slice none 0 0, .slice none 0 0]) (by simp)
 have hb0 : Below w.heap.size w (((w.alloc (.cells #[.slice A0 t.bs.length c0, .slice A1 t.fs.length c1] 57)).alloc (.cells #[.slice none 0 0, .slice none 0 0] 26)).alloc (.cells #[.slice none 0 0, .slice none 0 0] 26)) := bA (bA (bA bR))
 have hs0 : w.heap.size + 3 ≤ (((w.alloc (.cells #[.slice A0 t.bs.length c0, .slice A1 t.fs.length c1] 57)).alloc (.cells #[.slice none 0 0, .slice none 0 0] 26)).alloc (.cells #[.slice none 0 0, .slice none 0 0] 26)).heap.size := by simp
 generalize hW0 : (((w.alloc (.cells #[.slice A0 t.bs.length c0, .slice A1 t.fs.length c1] 57)).alloc (.cells #[.slice none 0 0, .slice none 0 0] 26)).alloc (.cells #[.slice none 0 0, .slice none 0 0] 26)) = W0 at hp0 hr0 ho0 hb0 hs0
 have HP0 := Hd hp0
 have HR0 := Hd hr0
 have HO0 := Hd ho0
 have HB0 := Hd hb0
 clear hp0 hr0 ho0 hb0
 have p0_0 := HP0.out.cell_ 0 (v := .slice A0 t.bs.length c0) rfl
 have p1_0 := HP0.out.cell_ 1 (v := .slice A1 t.fs.length c1) rfl
 go_enter Tryz.func109, Tryz.ntmps109
 go_wp2_with fail
 refine (toIntS_any A0 c0 t.bs _ (hR0.now (Nat.le_refl _) HB0.out) hl).mono ?_
 rintro e W1 ⟨rfl, he_, hb_⟩
 have hp1 := HP0.out.below hb_
 have hr1 := HR0.out.below hb_
 have ho1 := HO0.out.below hb_
 have hb1 := bT HB0.out hb_
 have hs1 := Nat.le_trans hs0 hb_.size
 have HM0_1 : Hid (SlM intE 3 (w.heap.size + 3) W1 (.slice (some ⟨W0.heap.size, 0, none⟩) t.bs.length t.bs.length) t.bs) := he_.slm hs0 (by unfold maxLen; omega)
 clear hb_ he_ p0_0 p1_0
 have HP1 := Hd hp1
 have HR1 := Hd hr1
 have HO1 := Hd ho1
 have HB1 := Hd hb1
 clear hp1 hr1 ho1 hb1
 have p0_1 := HP1.out.cell_ 0 (v := .slice A0 t.bs.length c0) rfl
 have p1_1 := HP1.out.cell_ 1 (v := .slice A1 t.fs.length c1) rfl
 have o0_1 := HO1.out.cell_ 0 (v := .slice none 0 0) rfl
 have f0_1 := HO1.out.free 0
 have ho2 : Own (W1.setCell ⟨w.heap.size + 1 + 1, 0, none⟩ (.slice (some ⟨W0.heap.size, 0, none⟩) t.bs.length t.bs.length)) (w.heap.size + 1 + 1) 26 #[.slice (some ⟨W0.heap.size, 0, none⟩) t.bs.length t.bs.length, .slice none 0 0] := by simpa using (HO1.out.set_ 0 (.slice (some ⟨W0.heap.size, 0, none⟩) t.bs.length t.bs.length))
 have hp2 := (HP1.out.far (p := ⟨w.heap.size + 1 + 1, 0, none⟩) (u := .slice (some ⟨W0.heap.size, 0, none⟩) t.bs.length t.bs.length) (by show _ ≠ w.heap.size + 1 + 1; omega))
 have hr2 := (HR1.out.far (p := ⟨w.heap.size + 1 + 1, 0, none⟩) (u := .slice (some ⟨W0.heap.size, 0, none⟩) t.bs.length t.bs.length) (by show _ ≠ w.heap.size + 1 + 1; omega))
 have hb2 := (bS (HB1.out) (p := ⟨w.heap.size + 1 + 1, 0, none⟩) (u := .slice (some ⟨W0.heap.size, 0, none⟩) t.bs.length t.bs.length) (by simp <;> omega))
 have hs2 : w.heap.size + 3 ≤ (W1.setCell ⟨w.heap.size + 1 + 1, 0, none⟩ (.slice (some ⟨W0.heap.size, 0, none⟩) t.bs.length t.bs.length)).heap.size := by simpa using hs1
 have hm0_2 := (HM0_1.out.far (p := ⟨w.heap.size + 1 + 1, 0, none⟩) (u := .slice (some ⟨W0.heap.size, 0, none⟩) t.bs.length t.bs.length) (by show w.heap.size + 1 + 1 < w.heap.size + 3; omega))
 generalize hW2 : (W1.setCell ⟨w.heap.size + 1 + 1, 0, none⟩ (.slice (some ⟨W0.heap.size, 0, none⟩) t.bs.length t.bs.length)) = W2 at hp2 hr2 ho2 hb2 hs2 hm0_2
 have HP2 := Hd hp2
 have HR2 := Hd hr2
 have HO2 := Hd ho2
 have HB2 := Hd hb2
 clear hp2 hr2 ho2 hb2
 have HM0_2 := Hd hm0_2
 clear hm0_2
 have p0_2 := HP2.out.cell_ 0 (v := .slice A0 t.bs.length c0) rfl
 have p1_2 := HP2.out.cell_ 1 (v := .slice A1 t.fs.length c1) rfl
 go_wp2_with fail
 refine (toFrameS_any A1 c1 t.fs _ (hR1.now (Nat.le_refl _) HB2.out) hl2).mono ?_
 rintro e W3 ⟨rfl, he_, hb_⟩
 have hp3 := HP2.out.below hb_
 have hr3 := HR2.out.below hb_
 have ho3 := HO2.out.below hb_
 have hb3 := bT HB2.out hb_
 have hs3 := Nat.le_trans hs2 hb_.size
 have HM0_3 := Hd (HM0_2.out.now hb_)
 have HM1_3 : Hid (SlM frE 80 (w.heap.size + 3) W3 (.slice (some ⟨W2.heap.size, 0, none⟩) t.fs.length t.fs.length) t.fs) := he_.slm hs2 (by unfold maxLen; omega)
 clear hb_ he_ p0_1 p1_1 o0_1 f0_1 p0_2 p1_2
 have HP3 := Hd hp3
 have HR3 := Hd hr3
 have HO3 := Hd ho3
 have HB3 := Hd hb3
 clear hp3 hr3 ho3 hb3
 have p0_3 := HP3.out.cell_ 0 (v := .slice A0 t.bs.length c0) rfl
 have p1_3 := HP3.out.cell_ 1 (v := .slice A1 t.fs.length c1) rfl
 have o0_3 := HO3.out.cell_ 0 (v := .slice (some ⟨W0.heap.size, 0, none⟩) t.bs.length t.bs.length) rfl
 have f0_3 := HO3.out.free 0
 have o1_3 := HO3.out.cell_ 1 (v := .slice none 0 0) rfl
 have f1_3 := HO3.out.free 1
 have r0_3 := HR3.out.cell_ 0 (v := .slice none 0 0) rfl
 have q0_3 := HR3.out.free 0
 have r1_3 := HR3.out.cell_ 1 (v := .slice none 0 0) rfl
 have q1_3 := HR3.out.free 1
 go_wp2
 have o3 := (((HR3.out.far (p := ⟨w.heap.size + 1 + 1, 1, none⟩) (u := .slice (some ⟨W2.heap.size, 0, none⟩) t.fs.length t.fs.length) (by simp)).set_ 0 (.slice (some ⟨W0.heap.size, 0, none⟩) t.bs.length t.bs.length)).set_ 1 (.slice (some ⟨W2.heap.size, 0, none⟩) t.fs.length t.fs.length))
 have t0 := o3.cell_ 0 (v := .slice (some ⟨W0.heap.size, 0, none⟩) t.bs.length t.bs.length) (by simp)
 have t1 := o3.cell_ 1 (v := .slice (some ⟨W2.heap.size, 0, none⟩) t.fs.length t.fs.length) (by simp)
 refine bodyPost_ret (v := .agg #[.slice (some ⟨W0.heap.size, 0, none⟩) t.bs.length t.bs.length, .slice (some ⟨W2.heap.size, 0, none⟩) t.fs.length t.fs.length]) (by simp [results, Tryz.results109, go_sem, t0, t1]) rfl ⟨_, rfl, .slice (some ⟨W0.heap.size, 0, none⟩) t.bs.length t.bs.length, .slice (some ⟨W2.heap.size, 0, none⟩) t.fs.length t.fs.length, rfl, ?_, ?_, ?_⟩
 ·refine SlM.mono (base' := w.heap.size) (base := w.heap.size + 3) ?_ (by omega)
  repeat (refine SlM.far ?_ (by show _ < w.heap.size + 3; simp))
  exact HM0_3.out
 ·refine SlM.mono (base' := w.heap.size) (base := w.heap.size + 3) ?_ (by omega)
  repeat (refine SlM.far ?_ (by show _ < w.heap.size + 3; simp))
  exact HM1_3.out
 ·repeat (refine bS ?_ (by simp <;> omega))
  exact HB3.out
set_option maxHeartbeats 2000000 in
theorem toMachine_any (vb vf vl vo : Value) (m : Ma) (w : World) (hM : MaR w vb vf vl vo m) (h1 : m.t.bs.length ≤ 1048576) (h2 : m.t.fs.length ≤ 1048576) (h3 : m.c.ls.length ≤ 1048576) (h4 : m.g.os.length ≤ 1048576) :
  Calls Tryz.prog 62 #[.agg #[vb, vf, vl, .int .i64 m.c.hand, .int .i64 m.g.count, .int .i64 m.g.next, .int .i64 m.g.round, vo, .int .i64 m.sp]] w (Post2 fun v w' => ∃ v1 v2 v3 v4, v = .agg #[v1, v2, v3, .int .i64 m.c.hand, .int .i64 m.g.count, .int .i64 m.g.next, .int .i64 m.g.round, v4, .int .i64 m.sp] ∧ MaM w.heap.size w' v1 v2 v3 v4 m ∧ Below w.heap.size w w') := by
 obtain ⟨⟨⟨A0, c0, rfl, ha0, ha0', hR0⟩, ⟨A1, c1, rfl, ha1, ha1', hR1⟩⟩, ⟨A2, c2, rfl, ha2, ha2', hR2⟩, ⟨A3, c3, rfl, ha3, ha3', hR3⟩⟩ := hM
 have hMt : TaR w (.slice A0 m.t.bs.length c0) (.slice A1 m.t.fs.length c1) m.t := ⟨⟨A0, c0, rfl, ha0, ha0', hR0⟩, ⟨A1, c1, rfl, ha1, ha1', hR1⟩⟩
 have hMl : SlR lnE w (.slice A2 m.c.ls.length c2) m.c.ls := ⟨A2, c2, rfl, ha2, ha2', hR2⟩
 have hMo : SlR owE w (.slice A3 m.g.os.length c3) m.g.os := ⟨A3, c3, rfl, ha3, ha3', hR3⟩
 clear ha0 ha0' hR0 ha1 ha1' hR1 ha2 ha2' hR2 ha3 ha3' hR3
 have hp0 := ((Own.new_ w 65 #[.slice A0 m.t.bs.length c0, .slice A1 m.t.fs.length c1, .slice A2 m.c.ls.length c2, .int .i64 m.c.hand, .int .i64 m.g.count, .int .i64 m.g.next, .int .i64 m.g.round, .slice A3 m.g.os.length c3, .int .i64 m.sp]).alloc (o := .cells #[.slice none 0 0, .slice none 0 0, .slice none 0 0, .int .i64 0, .int .i64 0, .int .i64 0, .int .i64 0, .slice none 0 0, .int .i64 0] 34)).alloc (o := .cells #[.slice none 0 0, .slice none 0 0, .slice none 0 0, .int .i64 0, .int .i64 0, .int .i64 0, .int .i64 0, .slice none 0 0, .int .i64 0] 34)
 have hr0 := (ownAt (W := (w.alloc (.cells #[.slice A0 m.t.bs.length c0, .slice A1 m.t.fs.length c1, .slice A2 m.c.ls.length c2, .int .i64 m.c.hand, .int .i64 m.g.count, .int .i64 m.g.next, .int .i64 m.g.round, .slice A3 m.g.os.length c3, .int .i64 m.sp] 65))) (g := w.heap.size + 1) (t := 34) (cs := #[.slice none 0 0, .slice none 0 0, .slice none 0 0, .int .i64 0, .int .i64 0, .int .i64 0, .int .i64 0, .slice none 0 0, .int .i64 0]) (by simp)).alloc (o := .cells #[.slice none 0 0, .slice none 0 0, .slice none 0 0, .int .i64 0, .int .i64 0, .int .i64 0, .int .i64 0, .slice none 0 0, .int .i64 0] 34)
 have ho0 := ownAt (W := ((w.alloc (.cells #[.slice A0 m.t.bs.length c0, .slice A1 m.t.fs.length c1, .slice A2 m.c.ls.length c2, .int .i64 m.c.hand, .int .i64 m.g.count, .int .i64 m.g.next, .int .i64 m.g.round, .slice A3 m.g.os.length c3, .int .i64 m.sp] 65)).alloc (.cells #[.slice none 0 0, .slice none 0 0, .slice none 0 0, .int .i64 0, .int .i64 0, .int .i64 0, .int .i64 0, .slice none 0 0, .int .i64 0] 34))) (g := w.heap.size + 1 + 1) (t := 34) (cs := #[.slice none 0 0, .slice none 0 0, .slice none 0 0, .int .i64 0, .int .i64 0, .int .i64 0, .int .i64 0, .slice none 0 0, .int .i64 0]) (by simp)
 have hb0 : Below w.heap.size w (((w.alloc (.cells #[.slice A0 m.t.bs.length c0, .slice A1 m.t.fs.length c1, .slice A2 m.c.ls.length c2, .int .i64 m.c.hand, .int .i64 m.g.count, .int .i64 m.g.next, .int .i64 m.g.round, .slice A3 m.g.os.length c3, .int .i64 m.sp] 65)).alloc (.cells #[.slice none 0 0, .slice none 0 0, .slice none 0 0, .int .i64 0, .int .i64 0, .int .i64 0, .int .i64 0, .slice none 0 0, .int .i64 0] 34)).alloc (.cells #[.slice none 0 0, .slice none 0 0, .slice none 0 0, .int .i64 0, .int .i64 0, .int .i64 0, .int .i64 0, .slice none 0 0, .int .i64 0] 34)) := bA (bA (bA bR))
 have hs0 : w.heap.size + 3 ≤ (((w.alloc (.cells #[.slice A0 m.t.bs.length c0, .slice A1 m.t.fs.length c1, .slice A2 m.c.ls.length c2, .int .i64 m.c.hand, .int .i64 m.g.count, .int .i64 m.g.next, .int .i64 m.g.round, .slice A3 m.g.os.length c3, .int .i64 m.sp] 65)).alloc (.cells #[.slice none 0 0, .slice none 0 0, .slice none 0 0, .int .i64 0, .int .i64 0, .int .i64 0, .int .i64 0, .slice none 0 0, .int .i64 0] 34)).alloc (.cells #[.slice none 0 0, .slice none 0 0, .slice none 0 0, .int .i64 0, .int .i64 0, .int .i64 0, .int .i64 0, .slice none 0 0, .int .i64 0] 34)).heap.size := by simp
 generalize hW0 : (((w.alloc (.cells #[.slice A0 m.t.bs.length c0, .slice A1 m.t.fs.length c1, .slice A2 m.c.ls.length c2, .int .i64 m.c.hand, .int .i64 m.g.count, .int .i64 m.g.next, .int .i64 m.g.round, .slice A3 m.g.os.length c3, .int .i64 m.sp] 65)).alloc (.cells #[.slice none 0 0, .slice none 0 0, .slice none 0 0, .int .i64 0, .int .i64 0, .int .i64 0, .int .i64 0, .slice none 0 0, .int .i64 0] 34)).alloc (.cells #[.slice none 0 0, .slice none 0 0, .slice none 0 0, .int .i64 0, .int .i64 0, .int .i64 0, .int .i64 0, .slice none 0 0, .int .i64 0] 34)) = W0 at hp0 hr0 ho0 hb0 hs0
 have HP0 := Hd hp0
 have HR0 := Hd hr0
 have HO0 := Hd ho0
 have HB0 := Hd hb0
 clear hp0 hr0 ho0 hb0
 obtain ⟨p0_0, p1_0, p2_0, p3_0, p4_0, p5_0, p6_0, p7_0, p8_0⟩ := cells9 HP0.out
 go_enter Tryz.func62, Tryz.ntmps62
 go_wp2_with fail
 refine (toTable_any _ _ m.t _ (hMt.now HB0.out) h1 h2).mono ?_
 rintro e W1 ⟨_, rfl, v1, v2, rfl, hT_, he_, hb_⟩
 obtain ⟨B0, d0, rfl, hd0, hd0', he0⟩ := hT_
 obtain ⟨B1, d1, rfl, hd1, hd1', he1⟩ := he_
 have he_ := trivial
 have hp1 := HP0.out.below hb_
 have hr1 := HR0.out.below hb_
 have ho1 := HO0.out.below hb_
 have hb1 := bT HB0.out hb_
 have hs1 := Nat.le_trans hs0 hb_.size
 have HM0_1 : Hid (TaM (w.heap.size + 3) W1 (.slice B0 m.t.bs.length d0) (.slice B1 m.t.fs.length d1) m.t) := ⟨(slm_of rfl hd0 hd0' he0).mono hs0, (slm_of rfl hd1 hd1' he1).mono hs0⟩
 clear hb_ he_ p0_0 p1_0 p2_0 p3_0 p4_0 p5_0 p6_0 p7_0 p8_0
 have HP1 := Hd hp1
 have HR1 := Hd hr1
 have HO1 := Hd ho1
 have HB1 := Hd hb1
 clear hp1 hr1 ho1 hb1
 obtain ⟨p0_1, p1_1, p2_1, p3_1, p4_1, p5_1, p6_1, p7_1, p8_1⟩ := cells9 HP1.out
 have o0_1 := HO1.out.cell_ 0 (v := .slice none 0 0) rfl
 have f0_1 := HO1.out.free 0
 have o1_1 := HO1.out.cell_ 1 (v := .slice none 0 0) rfl
 have f1_1 := HO1.out.free 1
 have ho2 : Own ((W1.setCell ⟨w.heap.size + 1 + 1, 0, none⟩ (.slice B0 m.t.bs.length d0)).setCell ⟨w.heap.size + 1 + 1, 1, none⟩ (.slice B1 m.t.fs.length d1)) (w.heap.size + 1 + 1) 34 #[.slice B0 m.t.bs.length d0, .slice B1 m.t.fs.length d1, .slice none 0 0, .int .i64 0, .int .i64 0, .int .i64 0, .int .i64 0, .slice none 0 0, .int .i64 0] := by simpa using ((HO1.out.set_ 0 (.slice B0 m.t.bs.length d0)).set_ 1 (.slice B1 m.t.fs.length d1))
 have hp2 := ((HP1.out.far (p := ⟨w.heap.size + 1 + 1, 0, none⟩) (u := .slice B0 m.t.bs.length d0) (by show _ ≠ w.heap.size + 1 + 1; omega)).far (p := ⟨w.heap.size + 1 + 1, 1, none⟩) (u := .slice B1 m.t.fs.length d1) (by show _ ≠ w.heap.size + 1 + 1; omega))
 have hr2 := ((HR1.out.far (p := ⟨w.heap.size + 1 + 1, 0, none⟩) (u := .slice B0 m.t.bs.length d0) (by show _ ≠ w.heap.size + 1 + 1; omega)).far (p := ⟨w.heap.size + 1 + 1, 1, none⟩) (u := .slice B1 m.t.fs.length d1) (by show _ ≠ w.heap.size + 1 + 1; omega))
 have hb2 := (bS ((bS (HB1.out) (p := ⟨w.heap.size + 1 + 1, 0, none⟩) (u := .slice B0 m.t.bs.length d0) (by simp <;> omega))) (p := ⟨w.heap.size + 1 + 1, 1, none⟩) (u := .slice B1 m.t.fs.length d1) (by simp <;> omega))
 have hs2 : w.heap.size + 3 ≤ ((W1.setCell ⟨w.heap.size + 1 + 1, 0, none⟩ (.slice B0 m.t.bs.length d0)).setCell ⟨w.heap.size + 1 + 1, 1, none⟩ (.slice B1 m.t.fs.length d1)).heap.size := by simpa using hs1
 have hm0_2 := ((HM0_1.out.far (p := ⟨w.heap.size + 1 + 1, 0, none⟩) (u := .slice B0 m.t.bs.length d0) (by show w.heap.size + 1 + 1 < w.heap.size + 3; omega)).far (p := ⟨w.heap.size + 1 + 1, 1, none⟩) (u := .slice B1 m.t.fs.length d1) (by show w.heap.size + 1 + 1 < w.heap.size + 3; omega))
 generalize hW2 : ((W1.setCell ⟨w.heap.size + 1 + 1, 0, none⟩ (.slice B0 m.t.bs.length d0)).setCell ⟨w.heap.size + 1 + 1, 1, none⟩ (.slice B1 m.t.fs.length d1)) = W2 at hp2 hr2 ho2 hb2 hs2 hm0_2
 have HP2 := Hd hp2
 have HR2 := Hd hr2
 have HO2 := Hd ho2
 have HB2 := Hd hb2
 clear hp2 hr2 ho2 hb2
 have HM0_2 := Hd hm0_2
 clear hm0_2
 obtain ⟨p0_2, p1_2, p2_2, p3_2, p4_2, p5_2, p6_2, p7_2, p8_2⟩ := cells9 HP2.out
 go_wp2_with fail
 refine (toCache_any _ m.c _ (hMl.now HB2.out) h3).mono ?_
 rintro e W3 ⟨_, rfl, v1, rfl, he_, hb_⟩
 obtain ⟨B2, d2, rfl, hd2, hd2', he2⟩ := he_
 have he_ := trivial
 have hp3 := HP2.out.below hb_
 have hr3 := HR2.out.below hb_
 have ho3 := HO2.out.below hb_
 have hb3 := bT HB2.out hb_
 have hs3 := Nat.le_trans hs2 hb_.size
 have HM0_3 := Hd (HM0_2.out.now hb_)
 have HM1_3 : Hid (SlM lnE 50 (w.heap.size + 3) W3 (.slice B2 m.c.ls.length d2) m.c.ls) := (slm_of rfl hd2 hd2' he2).mono hs2
 clear hb_ he_ p0_1 p1_1 p2_1 p3_1 p4_1 p5_1 p6_1 p7_1 p8_1 o0_1 f0_1 o1_1 f1_1 p0_2 p1_2 p2_2 p3_2 p4_2 p5_2 p6_2 p7_2 p8_2
 have HP3 := Hd hp3
 have HR3 := Hd hr3
 have HO3 := Hd ho3
 have HB3 := Hd hb3
 clear hp3 hr3 ho3 hb3
 obtain ⟨p0_3, p1_3, p2_3, p3_3, p4_3, p5_3, p6_3, p7_3, p8_3⟩ := cells9 HP3.out
 have o2_3 := HO3.out.cell_ 2 (v := .slice none 0 0) rfl
 have f2_3 := HO3.out.free 2
 have o3_3 := HO3.out.cell_ 3 (v := .int .i64 0) rfl
 have f3_3 := HO3.out.free 3
 have ho4 : Own ((W3.setCell ⟨w.heap.size + 1 + 1, 2, none⟩ (.slice B2 m.c.ls.length d2)).setCell ⟨w.heap.size + 1 + 1, 3, none⟩ (.int .i64 m.c.hand)) (w.heap.size + 1 + 1) 34 #[.slice B0 m.t.bs.length d0, .slice B1 m.t.fs.length d1, .slice B2 m.c.ls.length d2, .int .i64 m.c.hand, .int .i64 0, .int .i64 0, .int .i64 0, .slice none 0 0, .int .i64 0] := by simpa using ((HO3.out.set_ 2 (.slice B2 m.c.ls.length d2)).set_ 3 (.int .i64 m.c.hand))
 have hp4 := ((HP3.out.far (p := ⟨w.heap.size + 1 + 1, 2, none⟩) (u := .slice B2 m.c.ls.length d2) (by show _ ≠ w.heap.size + 1 + 1; omega)).far (p := ⟨w.heap.size + 1 + 1, 3, none⟩) (u := .int .i64 m.c.hand) (by show _ ≠ w.heap.size + 1 + 1; omega))
 have hr4 := ((HR3.out.far (p := ⟨w.heap.size + 1 + 1, 2, none⟩) (u := .slice B2 m.c.ls.length d2) (by show _ ≠ w.heap.size + 1 + 1; omega)).far (p := ⟨w.heap.size + 1 + 1, 3, none⟩) (u := .int .i64 m.c.hand) (by show _ ≠ w.heap.size + 1 + 1; omega))
 have hb4 := (bS ((bS (HB3.out) (p := ⟨w.heap.size + 1 + 1, 2, none⟩) (u := .slice B2 m.c.ls.length d2) (by simp <;> omega))) (p := ⟨w.heap.size + 1 + 1, 3, none⟩) (u := .int .i64 m.c.hand) (by simp <;> omega))
 have hs4 : w.heap.size + 3 ≤ ((W3.setCell ⟨w.heap.size + 1 + 1, 2, none⟩ (.slice B2 m.c.ls.length d2)).setCell ⟨w.heap.size + 1 + 1, 3, none⟩ (.int .i64 m.c.hand)).heap.size := by simpa using hs3
 have hm0_4 := ((HM0_3.out.far (p := ⟨w.heap.size + 1 + 1, 2, none⟩) (u := .slice B2 m.c.ls.length d2) (by show w.heap.size + 1 + 1 < w.heap.size + 3; omega)).far (p := ⟨w.heap.size + 1 + 1, 3, none⟩) (u := .int .i64 m.c.hand) (by show w.heap.size + 1 + 1 < w.heap.size + 3; omega))
 have hm1_4 := ((HM1_3.out.far (p := ⟨w.heap.size + 1 + 1, 2, none⟩) (u := .slice B2 m.c.ls.length d2) (by show w.heap.size + 1 + 1 < w.heap.size + 3; omega)).far (p := ⟨w.heap.size + 1 + 1, 3, none⟩) (u := .int .i64 m.c.hand) (by show w.heap.size + 1 + 1 < w.heap.size + 3; omega))
 generalize hW4 : ((W3.setCell ⟨w.heap.size + 1 + 1, 2, none⟩ (.slice B2 m.c.ls.length d2)).setCell ⟨w.heap.size + 1 + 1, 3, none⟩ (.int .i64 m.c.hand)) = W4 at hp4 hr4 ho4 hb4 hs4 hm0_4 hm1_4
 have HP4 := Hd hp4
 have HR4 := Hd hr4
 have HO4 := Hd ho4
 have HB4 := Hd hb4
 clear hp4 hr4 ho4 hb4
 have HM0_4 := Hd hm0_4
 clear hm0_4
 have HM1_4 := Hd hm1_4
 clear hm1_4
 obtain ⟨p0_4, p1_4, p2_4, p3_4, p4_4, p5_4, p6_4, p7_4, p8_4⟩ := cells9 HP4.out
 go_wp2_with fail
 refine (toTags_any _ m.g _ (hMo.now HB4.out) h4).mono ?_
 rintro e W5 ⟨_, rfl, v1, rfl, he_, hb_⟩
 obtain ⟨B3, d3, rfl, hd3, hd3', he3⟩ := he_
 have he_ := trivial
 have hp5 := HP4.out.below hb_
 have hr5 := HR4.out.below hb_
 have ho5 := HO4.out.below hb_
 have hb5 := bT HB4.out hb_
 have hs5 := Nat.le_trans hs4 hb_.size
 have HM0_5 := Hd (HM0_4.out.now hb_)
 have HM1_5 := Hd (HM1_4.out.now hb_)
 have HM2_5 : Hid (SlM owE 186 (w.heap.size + 3) W5 (.slice B3 m.g.os.length d3) m.g.os) := (slm_of rfl hd3 hd3' he3).mono hs4
 clear hb_ he_ p0_3 p1_3 p2_3 p3_3 p4_3 p5_3 p6_3 p7_3 p8_3 o2_3 f2_3 o3_3 f3_3 p0_4 p1_4 p2_4 p3_4 p4_4 p5_4 p6_4 p7_4 p8_4
 have HP5 := Hd hp5
 have HR5 := Hd hr5
 have HO5 := Hd ho5
 have HB5 := Hd hb5
 clear hp5 hr5 ho5 hb5
 obtain ⟨p0_5, p1_5, p2_5, p3_5, p4_5, p5_5, p6_5, p7_5, p8_5⟩ := cells9 HP5.out
 have o0_5 := HO5.out.cell_ 0 (v := .slice B0 m.t.bs.length d0) rfl
 have f0_5 := HO5.out.free 0
 have o1_5 := HO5.out.cell_ 1 (v := .slice B1 m.t.fs.length d1) rfl
 have f1_5 := HO5.out.free 1
 have o2_5 := HO5.out.cell_ 2 (v := .slice B2 m.c.ls.length d2) rfl
 have f2_5 := HO5.out.free 2
 have o3_5 := HO5.out.cell_ 3 (v := .int .i64 m.c.hand) rfl
 have f3_5 := HO5.out.free 3
 have o4_5 := HO5.out.cell_ 4 (v := .int .i64 0) rfl
 have f4_5 := HO5.out.free 4
 have o5_5 := HO5.out.cell_ 5 (v := .int .i64 0) rfl
 have f5_5 := HO5.out.free 5
 have o6_5 := HO5.out.cell_ 6 (v := .int .i64 0) rfl
 have f6_5 := HO5.out.free 6
 have o7_5 := HO5.out.cell_ 7 (v := .slice none 0 0) rfl
 have f7_5 := HO5.out.free 7
 have o8_5 := HO5.out.cell_ 8 (v := .int .i64 0) rfl
 have f8_5 := HO5.out.free 8
 have r0_5 := HR5.out.cell_ 0 (v := .slice none 0 0) rfl
 have q0_5 := HR5.out.free 0
 have r1_5 := HR5.out.cell_ 1 (v := .slice none 0 0) rfl
 have q1_5 := HR5.out.free 1
 have r2_5 := HR5.out.cell_ 2 (v := .slice none 0 0) rfl
 have q2_5 := HR5.out.free 2
 have r3_5 := HR5.out.cell_ 3 (v := .int .i64 0) rfl
 have q3_5 := HR5.out.free 3
 have r4_5 := HR5.out.cell_ 4 (v := .int .i64 0) rfl
 have q4_5 := HR5.out.free 4
 have r5_5 := HR5.out.cell_ 5 (v := .int .i64 0) rfl
 have q5_5 := HR5.out.free 5
 have r6_5 := HR5.out.cell_ 6 (v := .int .i64 0) rfl
 have q6_5 := HR5.out.free 6
 have r7_5 := HR5.out.cell_ 7 (v := .slice none 0 0) rfl
 have q7_5 := HR5.out.free 7
 have r8_5 := HR5.out.cell_ 8 (v := .int .i64 0) rfl
 have q8_5 := HR5.out.free 8
 go_wp2
 have o3 := ((((((((((((((HR5.out.far (p := ⟨w.heap.size + 1 + 1, 4, none⟩) (u := .int .i64 m.g.count) (by simp)).far (p := ⟨w.heap.size + 1 + 1, 5, none⟩) (u := .int .i64 m.g.next) (by simp)).far (p := ⟨w.heap.size + 1 + 1, 6, none⟩) (u := .int .i64 m.g.round) (by simp)).far (p := ⟨w.heap.size + 1 + 1, 7, none⟩) (u := .slice B3 m.g.os.length d3) (by simp)).far (p := ⟨w.heap.size + 1 + 1, 8, none⟩) (u := .int .i64 m.sp) (by simp)).set_ 0 (.slice B0 m.t.bs.length d0)).set_ 1 (.slice B1 m.t.fs.length d1)).set_ 2 (.slice B2 m.c.ls.length d2)).set_ 3 (.int .i64 m.c.hand)).set_ 4 (.int .i64 m.g.count)).set_ 5 (.int .i64 m.g.next)).set_ 6 (.int .i64 m.g.round)).set_ 7 (.slice B3 m.g.os.length d3)).set_ 8 (.int .i64 m.sp))
 have t0 := o3.cell_ 0 (v := .slice B0 m.t.bs.length d0) (by simp)
 have t1 := o3.cell_ 1 (v := .slice B1 m.t.fs.length d1) (by simp)
 have t2 := o3.cell_ 2 (v := .slice B2 m.c.ls.length d2) (by simp)
 have t3 := o3.cell_ 3 (v := .int .i64 m.c.hand) (by simp)
 have t4 := o3.cell_ 4 (v := .int .i64 m.g.count) (by simp)
 have t5 := o3.cell_ 5 (v := .int .i64 m.g.next) (by simp)
 have t6 := o3.cell_ 6 (v := .int .i64 m.g.round) (by simp)
 have t7 := o3.cell_ 7 (v := .slice B3 m.g.os.length d3) (by simp)
 have t8 := o3.cell_ 8 (v := .int .i64 m.sp) (by simp)
 refine bodyPost_ret (v := .agg #[.slice B0 m.t.bs.length d0, .slice B1 m.t.fs.length d1, .slice B2 m.c.ls.length d2, .int .i64 m.c.hand, .int .i64 m.g.count, .int .i64 m.g.next, .int .i64 m.g.round, .slice B3 m.g.os.length d3, .int .i64 m.sp]) (by simp [results, Tryz.results62, go_sem, t0, t1, t2, t3, t4, t5, t6, t7, t8]) rfl ⟨_, rfl, .slice B0 m.t.bs.length d0, .slice B1 m.t.fs.length d1, .slice B2 m.c.ls.length d2, .slice B3 m.g.os.length d3, rfl, ⟨?_, ?_, ?_⟩, ?_⟩
 ·refine TaM.mono (B' := w.heap.size) (B := w.heap.size + 3) ?_ (by omega)
  repeat (refine TaM.far ?_ (by show _ < w.heap.size + 3; simp))
  exact HM0_5.out
 ·refine SlM.mono (base' := w.heap.size) (base := w.heap.size + 3) ?_ (by omega)
  repeat (refine SlM.far ?_ (by show _ < w.heap.size + 3; simp))
  exact HM1_5.out
 ·refine SlM.mono (base' := w.heap.size) (base := w.heap.size + 3) ?_ (by omega)
  repeat (refine SlM.far ?_ (by show _ < w.heap.size + 3; simp))
  exact HM2_5.out
 ·repeat (refine bS ?_ (by simp <;> omega))
  exact HB5.out
end Go.Proofs.YtfbnokjdkhcgoaaGreatDoor
