/- A part of the proofs of this seat: Free, GdS, LXuD, Main, MeF, MeQ, OpenM, TkS. -/
import Derived.ChangeSame
import Derived.ChangeVars
import Derived.LaidLaws
import Derived.Handed
import Derived.Test.YtfbnokjdkhcgoaaGreatDoorCards
import Derived.Test.YtfbnokjdkhcgoaaGreatDoorEMeM
import Derived.Test.YtfbnokjdkhcgoaaGreatDoorEUnmS
set_option linter.unusedVariables false
set_option linter.unusedSimpArgs false
set_option maxRecDepth 1000000
namespace Go.Proofs.YtfbnokjdkhcgoaaGreatDoor
open Go.ChangeShapes Go.WideShapes Go.ChangeAt Go.RowKit Go.Joins
theorem free_named : Tryz.prog.globalNamed "loop.example/invertedpages/impl.free" = some 0 := by kernel_rfl
theorem free_type : (Tryz.prog.globals[0]?).map (·.type) = some 80 := by kernel_rfl
theorem ce_keyI : Program.cellsOf Tryz.prog 54 = 2 := by kernel_rfl
theorem ce_frameI : Program.cellsOf Tryz.prog 80 = 5 := by kernel_rfl
def freeCells : Array Value := #[.bool false, .int .i64 0, .int .i64 0, .int .i64 0, .int .i64 (-1)]
section
variable {H : Type} {enc : TypeId × Value → H} {w : World} {base : Nat} {spare : Nat → Bool} {held : Bool}
theorem fldx {fs : Array Field} {t : TypeId} {fuel : Nat} {cs : List Value} {x : DataW H × List MemPlace} (ht : Tryz.prog.underlying t = some (.struct fs)) (h : DataW.trod enc Tryz.prog w base spare held fuel t cs = some x) :
  cs.length = Program.cellsOf Tryz.prog t ∧ ∃ (n : Nat) (xs : List (DataW H × List MemPlace)), xs.length = fs.size ∧ x.1 = .agg (xs.map (·.1)) ∧ ∀ (i : Nat) (f : Field), fs[i]? = some f → ∀ (ty off k : Nat), f.type = ty → f.offset = off → Program.cellsOf Tryz.prog ty = k → DataW.trod enc Tryz.prog w base spare held n ty ((cs.drop off).take k) = xs[i]? := by
 obtain ⟨xs, n, _, rfl, hl, hxl, hf⟩ := DataW.trod_struct ht h
 refine ⟨hl, n, xs, hxl, rfl, fun i f hi ty off k e1 e2 e3 => ?_⟩
 subst e1 e2 e3
 exact hf i f hi
theorem keyd_of {fuel : Nat} {cs : List Value} {x : DataW H × List MemPlace} {a b : Int} (h : DataW.trod enc Tryz.prog w base spare held fuel 54 cs = some x) (hx : x.1 = .agg [.lit (.int .i64 a), .lit (.int .i64 b)]) : cs = [.int .i64 a, .int .i64 b] := by
 obtain ⟨hl, n, xs, hxl, he, hf⟩ := fldx Tryz.underlying54 h
 rw [ce_keyI] at hl
 match cs, hl, xs, hxl with
 | [c0, c1], _, [x0, x1], _ =>
  have h0 := hf 0 _ rfl 3 0 1 rfl rfl ce_int
  have h1 := hf 1 _ rfl 3 1 1 rfl rfl ce_int
  obtain ⟨a0, e0, f0, _⟩ := DataW.trod_int (cs := [c0]) (x := x0) Tryz.underlying3 h0
  obtain ⟨a1, e1, f1, _⟩ := DataW.trod_int (cs := [c1]) (x := x1) Tryz.underlying3 h1
  rw [he] at hx
  subst f0 f1
  simp at hx e0 e1
  obtain ⟨rfl, rfl⟩ := hx
  rw [e0, e1]
theorem free_of {fuel : Nat} {cs : List Value} {x : DataW H × List MemPlace} (h : DataW.trod enc Tryz.prog w base spare held fuel 80 cs = some x) (hx : x.1 = Rows.laid_loop_example_invertedpages_impl_free) : cs = freeCells.toList := by
 obtain ⟨hl, n, xs, hxl, he, hf⟩ := fldx Tryz.underlying80 h
 rw [ce_frameI] at hl
 match cs, hl, xs, hxl with
 | [c0, c1, c2, c3, c4], _, [x0, x1, x2, x3], _ =>
  have h0 := hf 0 _ rfl 4 0 1 rfl rfl ce_bool
  have h1 := hf 1 _ rfl 54 1 2 rfl rfl ce_keyI
  have h2 := hf 2 _ rfl 3 3 1 rfl rfl ce_int
  have h3 := hf 3 _ rfl 3 4 1 rfl rfl ce_int
  obtain ⟨a0, e0, f0⟩ := DataW.trod_bool (cs := [c0]) (x := x0) Tryz.underlying4 h0
  obtain ⟨a2, e2, f2, _⟩ := DataW.trod_int (cs := [c3]) (x := x2) Tryz.underlying3 h2
  obtain ⟨a3, e3, f3, _⟩ := DataW.trod_int (cs := [c4]) (x := x3) Tryz.underlying3 h3
  rw [he] at hx
  subst f0 f2 f3
  simp [Rows.laid_loop_example_invertedpages_impl_free] at hx e0 e2 e3
  obtain ⟨rfl, hk, rfl, rfl⟩ := hx
  have hk2 := keyd_of (cs := [c1, c2]) (x := x1) h1 hk
  simp at hk2
  obtain ⟨rfl, rfl⟩ := hk2
  rw [e0, e2, e3]; rfl
end
theorem free_of_laid {W : World} (h : laidMet Tryz.prog [("loop.example/invertedpages/impl.free", Rows.laid_loop_example_invertedpages_impl_free)] W) : W.var? Tryz.prog "loop.example/invertedpages/impl.free" = some freeCells ∧ Free W := by
 obtain ⟨ps, ⟨g, t, cs, fuel, p, q, hg, ht, hvar, hd, _, _⟩, _⟩ := h
 obtain rfl := Option.some.inj (free_named.symm.trans hg)
 obtain rfl := Option.some.inj (free_type.symm.trans ht)
 obtain ⟨l⟩ := cs
 have hc := free_of hd rfl
 simp only at hc
 subst hc
 have e : ∀ i, W.cell? ⟨0, i, none⟩ = freeCells[i]? := fun i => World.var?_cell hg hvar i
 refine ⟨hvar, World.block_lt_of_cell? W _ (e 0), e 0, e 1, e 2, e 3, e 4⟩
noncomputable def laidWorld (os : Os) : World :=
 { World.holding Tryz.prog os ⟨#[], #[], []⟩ with heap := (World.holding Tryz.prog os ⟨#[], #[], []⟩).heap.modify 0 fun
   | .cells _ t frozen => .cells freeCells t frozen
   | o => o }
theorem laid_met (os : Os) (args : Array Value) : laidMet Tryz.prog [("loop.example/invertedpages/impl.free", Rows.laid_loop_example_invertedpages_impl_free)] ((laidWorld os).forCall (fun _ _ => 0) ⟨#[], args, []⟩).memory :=
 laidMet_of_run (ps := [.cell 0 0, .cell 0 1, .cell 0 2, .cell 0 3, .cell 0 4]) 8 (by kernel_rfl) (by kernel_rfl) (by kernel_rfl)
end Go.Proofs.YtfbnokjdkhcgoaaGreatDoor
namespace Go.Proofs.YtfbnokjdkhcgoaaGreatDoor.lExactUsePage
open Go.ChangeShapes Go.WideShapes Go.ChangeAt Go.RowKit Go.Joins
set_option maxRecDepth 100000 in
theorem closed : joinedFacts Tryz.prog 6 Tryz.f6 Rows.fnExactUsePageSpec Rows.fnExactUsePageRow = true := by
 unfold joinedFacts
 rw [may_enter, lifts_final, make_cut]
 refine Eq.trans ?_ (Eq.refl _)
 kernel_rfl
end Go.Proofs.YtfbnokjdkhcgoaaGreatDoor.lExactUsePage
namespace Go.Proofs.YtfbnokjdkhcgoaaGreatDoor
open Go.RowKit
theorem fOK_page {t : Tab} {s p : Int} (h : fOK t s p = true) : inR p 256 = true := by
 unfold fOK kval at h
 simp only [Bool.and_eq_true] at h
 exact h.1.2.2
set_option maxHeartbeats 4000000 in
theorem sTakePage_any (vb vf vl vo : Value) (m : Ma) (s p  : Int) (w : World) (hM : MaR w vb vf vl vo m) :
  Calls Tryz.prog 96 #[.agg #[vb, vf, vl, .int .i64 m.c.hand, .int .i64 m.g.count, .int .i64 m.g.next, .int .i64 m.g.round, vo, .int .i64 m.sp], .agg #[.int .i64 s, .int .i64 p]] w (Post2 fun v w' => ∃ v1 v2 v3 v4, v = .tuple #[.agg #[v1, v2, v3, .int .i64 (takV m s p).c.hand, .int .i64 (takV m s p).g.count, .int .i64 (takV m s p).g.next, .int .i64 (takV m s p).g.round, v4, .int .i64 (takV m s p).sp], .bool (takO m s p)] ∧ MaM w.heap.size w' v1 v2 v3 v4 (takV m s p) ∧ Below w.heap.size w w') := by
 obtain ⟨W0, hW, hbx, hbk, hbo, hb0, hs0⟩ := box3 w #[vb, vf, vl, .int .i64 m.c.hand, .int .i64 m.g.count, .int .i64 m.g.next, .int .i64 m.g.round, vo, .int .i64 m.sp] 34 #[.int .i64 s, .int .i64 p] 54 #[.slice none 0 0, .slice none 0 0, .slice none 0 0, .int .i64 0, .int .i64 0, .int .i64 0, .int .i64 0, .slice none 0 0, .int .i64 0] 34
 have HX0 := Hd hbx
 have HK0 := Hd hbk
 have HR0 := Hd hbo
 have HB0 := Hd hb0
 have HS0 : Hid (w.heap.size + 3 ≤ W0.heap.size) := Nat.le_of_eq hs0.symm
 clear hbx hbk hbo hb0
 have HM := Hd hM
 clear hM
 obtain ⟨m00, m10, m20, m30, m40, m50, m60, m70, m80⟩ := cells9 HX0.out
 go_enter Tryz.func96, Tryz.ntmps96
 go_wp2_with fail
 refine (sMachineValid_any vb vf vl vo m _ (HM.out.now HB0.out)).mono ?_
 rintro e w1 ⟨rfl, hb1⟩
 have HX1 := Hd (HX0.out.below hb1)
 have HK1 := Hd (HK0.out.below hb1)
 have HR1 := Hd (HR0.out.below hb1)
 have HB1 := Hd (bT HB0.out hb1)
 have HS1 := Hd (Nat.le_trans HS0.out hb1.size)
 clear hb1
 clear m00 m10 m20 m30 m40 m50 m60 m70 m80
 cases h1 : mav m with
 | false =>
  have HA : Hid (takO m s p = false) := by show _ = _; unfold takO; rw [h1]; rfl
  have HV := Hd (takO_false HA.out)
  obtain ⟨r0x, r1x, r2x, r3x, r4x, r5x, r6x, r7x, r8x⟩ := cells9 HR1.out
  obtain ⟨z0x, z1x, z2x, z3x, z4x, z5x, z6x, z7x, z8x⟩ := free9 HR1.out
  go_wp2
  obtain ⟨t0, t1, t2, t3, t4, t5, t6, t7, t8⟩ := cells9 (set9z HR1.out)
  refine bodyPost_ret (v := .tuple #[.agg #[.slice none 0 0, .slice none 0 0, .slice none 0 0, .int .i64 0, .int .i64 0, .int .i64 0, .int .i64 0, .slice none 0 0, .int .i64 0], .bool false]) (by simp [results, Tryz.results96, go_sem, t0, t1, t2, t3, t4, t5, t6, t7, t8]) rfl ⟨_, rfl, _, _, _, _, by rw [HA.out, HV.out]; rfl, by rw [HV.out]; exact mam_z, ?_⟩
  repeat (refine bS ?_ (by simp <;> omega))
  exact HB1.out
 | true =>
  obtain ⟨m01, m11, m21, m31, m41, m51, m61, m71, m81⟩ := cells9 HX1.out
  have k01 := HK1.out.cell_ 0 (v := .int .i64 s) rfl
  have k11 := HK1.out.cell_ 1 (v := .int .i64 p) rfl
  go_wp2_with fail
  refine (sUnmapPage_any vb vf m.t s p _ (HM.out.t.now HB1.out)).mono ?_
  rintro e w2 ⟨_, rfl, v1, v2, rfl, hT2, hb2⟩
  obtain ⟨A1, c1, rfl, _⟩ := hT2.b
  obtain ⟨A2, c2, rfl, _⟩ := hT2.f
  have hs1 := HS1.out
  have HX2 := Hd (HX1.out.below hb2)
  have HK2 := Hd (HK1.out.below hb2)
  have HR2 := Hd (HR1.out.below hb2)
  have HB2 := Hd (bT HB1.out hb2)
  have HS2 := Hd (Nat.le_trans HS1.out hb2.size)
  clear hb2
  clear m01 m11 m21 m31 m41 m51 m61 m71 m81
  clear k01 k11
  have ho5 := Own.new_ w2 26 #[.slice A1 (unmV m.t s p).bs.length c1, .slice A2 (unmV m.t s p).fs.length c2]
  have hb5 : Below w2.heap.size w2 (w2.alloc (.cells #[.slice A1 (unmV m.t s p).bs.length c1, .slice A2 (unmV m.t s p).fs.length c2] 26)) := bA bR
  generalize hW5 : w2.alloc (.cells #[.slice A1 (unmV m.t s p).bs.length c1, .slice A2 (unmV m.t s p).fs.length c2] 26) = w5 at ho5 hb5
  have HT5 := Hd ((hT2.now hb5).mono hs1)
  have HY5 := Hd ho5
  clear hT2 ho5
  have HX5 := Hd (HX2.out.below hb5)
  have HK5 := Hd (HK2.out.below hb5)
  have HR5 := Hd (HR2.out.below hb5)
  have HB5 := Hd (bT HB2.out hb5)
  have HS5 := Hd (Nat.le_trans HS2.out hb5.size)
  clear hb5
  cases h3 : fOK m.t s p with
  | false =>
   have HA : Hid (takO m s p = false) := by show _ = _; unfold takO; rw [h3, Bool.and_false]
   have HV := Hd (takO_false HA.out)
   obtain ⟨r0x, r1x, r2x, r3x, r4x, r5x, r6x, r7x, r8x⟩ := cells9 HR5.out
   obtain ⟨z0x, z1x, z2x, z3x, z4x, z5x, z6x, z7x, z8x⟩ := free9 HR5.out
   go_wp2
   obtain ⟨t0, t1, t2, t3, t4, t5, t6, t7, t8⟩ := cells9 (set9z HR5.out)
   refine bodyPost_ret (v := .tuple #[.agg #[.slice none 0 0, .slice none 0 0, .slice none 0 0, .int .i64 0, .int .i64 0, .int .i64 0, .int .i64 0, .slice none 0 0, .int .i64 0], .bool false]) (by simp [results, Tryz.results96, go_sem, t0, t1, t2, t3, t4, t5, t6, t7, t8]) rfl ⟨_, rfl, _, _, _, _, by rw [HA.out, HV.out]; rfl, by rw [HV.out]; exact mam_z, ?_⟩
   repeat (refine bS ?_ (by simp <;> omega))
   exact HB5.out
  | true =>
   have HA : Hid (takO m s p = true) := by show _ = _; unfold takO; rw [h1, h3]; rfl
   have HV : Hid (takV m s p = drpM m (unmV m.t s p) s p) := by show _ = _; unfold takV; rw [HA.out]; rfl
   obtain ⟨m05, m15, m25, m35, m45, m55, m65, m75, m85⟩ := cells9 HX5.out
   have k05 := HK5.out.cell_ 0 (v := .int .i64 s) rfl
   have k15 := HK5.out.cell_ 1 (v := .int .i64 p) rfl
   have hs5 := HS5.out
   go_wp2_with fail
   refine (l6Forget_any vb vf vl vo m s p _ (HM.out.now HB5.out) h1 (fOK_page h3)).mono ?_
   rintro e w3 ⟨_, rfl, q1, q2, q3, q4, rfl, hM3, hb3⟩
   have HT3 := Hd (HT5.out.now hb3)
   have hy3 := HY5.out.below hb3
   have u0 := hy3.cell_ 0 (v := .slice A1 (unmV m.t s p).bs.length c1) rfl
   have u1 := hy3.cell_ 1 (v := .slice A2 (unmV m.t s p).fs.length c2) rfl
   have hly := hy3.lt
   have HX3 := Hd (HX5.out.below hb3)
   have HK3 := Hd (HK5.out.below hb3)
   have HR3 := Hd (HR5.out.below hb3)
   have HB3 := Hd (bT HB5.out hb3)
   have HS3 := Hd (Nat.le_trans HS5.out hb3.size)
   clear hb3
   clear m05 m15 m25 m35 m45 m55 m65 m75 m85
   clear k05 k15
   obtain ⟨r0x, r1x, r2x, r3x, r4x, r5x, r6x, r7x, r8x⟩ := cells9 HR3.out
   obtain ⟨z0x, z1x, z2x, z3x, z4x, z5x, z6x, z7x, z8x⟩ := free9 HR3.out
   have HM3 := Hd (hM3.mono hs5)
   obtain ⟨B1, d1, rfl, _⟩ := hM3.t.b
   obtain ⟨B2, d2, rfl, _⟩ := hM3.t.f
   obtain ⟨B3, d3, rfl, _⟩ := hM3.l
   obtain ⟨B4, d4, rfl, _⟩ := hM3.o
   clear hM3
   have hl3 := HR3.out.lt
   go_wp2
   have o3 := (HR3.out.set9 (.slice A1 (unmV m.t s p).bs.length c1) (.slice A2 (unmV m.t s p).fs.length c2) (.slice B3 (drpM m m.t s p).c.ls.length d3) (.int .i64 (drpM m m.t s p).c.hand) (.int .i64 (drpM m m.t s p).g.count) (.int .i64 (drpM m m.t s p).g.next) (.int .i64 (drpM m m.t s p).g.round) (.slice B4 (drpM m m.t s p).g.os.length d4) (.int .i64 (drpM m m.t s p).sp)).alloc (o := .cells #[.slice A1 (unmV m.t s p).bs.length c1, .slice A2 (unmV m.t s p).fs.length c2, .slice B3 (drpM m m.t s p).c.ls.length d3, .int .i64 (drpM m m.t s p).c.hand, .int .i64 (drpM m m.t s p).g.count, .int .i64 (drpM m m.t s p).g.next, .int .i64 (drpM m m.t s p).g.round, .slice B4 (drpM m m.t s p).g.os.length d4, .int .i64 (drpM m m.t s p).sp] 34)
   obtain ⟨p0t, p1t, p2t, p3t, p4t, p5t, p6t, p7t, p8t⟩ := cells9 o3
   have hmm : MaM (w.heap.size + 3) w3 (.slice A1 (unmV m.t s p).bs.length c1) (.slice A2 (unmV m.t s p).fs.length c2) (.slice B3 (drpM m m.t s p).c.ls.length d3) (.slice B4 (drpM m m.t s p).g.os.length d4) (drpM m (unmV m.t s p) s p) := ⟨HT3.out, HM3.out.l, HM3.out.o⟩
   refine bodyPost_ret (v := .tuple #[.agg #[.slice A1 (unmV m.t s p).bs.length c1, .slice A2 (unmV m.t s p).fs.length c2, .slice B3 (drpM m m.t s p).c.ls.length d3, .int .i64 (drpM m m.t s p).c.hand, .int .i64 (drpM m m.t s p).g.count, .int .i64 (drpM m m.t s p).g.next, .int .i64 (drpM m m.t s p).g.round, .slice B4 (drpM m m.t s p).g.os.length d4, .int .i64 (drpM m m.t s p).sp], .bool true]) (by simp [results, Tryz.results96, go_sem, p0t, p1t, p2t, p3t, p4t, p5t, p6t, p7t, p8t]) rfl ⟨_, rfl, _, _, _, _, by rw [HA.out, HV.out]; rfl, ?_, ?_⟩
   ·rw [HV.out]
    exact ((hmm.far9 HR3.out _ _ _ _ _ _ _ _ _).now (bA bR)).mono (by omega)
   ·refine bA ?_
    repeat (refine bS ?_ (by simp <;> omega))
    exact HB3.out
theorem mev_use {M : Me} {p n r : Int} (h : useO M p n r = true) : mav (useV M p n r).m = true := by
 obtain ⟨h1, h2, h3, h4, N, e⟩ := useO_parts h
 have V := mev_MEV.1 h1
 obtain ⟨_, hV, _⟩ := useO_some h1 h2 h3 h4 e
 rw [hV]
 exact mav_tch (useN_tch V e h2 h3).1
theorem MV.sp16 {m : Ma} (M : MV m) : inR m.sp 16 = true := by
 obtain ⟨k, o, hk, eo, ho⟩ := ownI_lt M.o
 obtain ⟨_, ht⟩ := tgv_parts M.g
 obtain ⟨o', eo', h1, _⟩ := tok_at ht (List.getElem?_eq_some_iff.1 eo).1
 rw [eo] at eo'
 injection eo' with eo'
 rw [← ho, eo']
 exact h1
end Go.Proofs.YtfbnokjdkhcgoaaGreatDoor
namespace Go.Proofs.YtfbnokjdkhcgoaaGreatDoor
open Go.ChangeShapes Go.WideShapes Go.ChangeAt Go.RowKit Go.Joins
theorem ce_sb : Program.cellsOf Tryz.prog 35 = 1 := by kernel_rfl
theorem ce_memory : Program.cellsOf Tryz.prog 67 = 11 := by kernel_rfl
section
variable {H : Type} {enc : TypeId × Value → H} {w : World} {base : Nat} {spare : Nat → Bool} {held : Bool}
theorem el_bool {n : Nat} {cs : List Value} {y : DataW H × List MemPlace} (h : DataW.trod enc Tryz.prog w base spare held n 4 cs = some y) : ∃ a, cs = boE.cs a := by
 obtain ⟨a, e, _⟩ := DataW.trod_bool Tryz.underlying4 h
 exact ⟨a, e⟩
theorem open_memory {r : Reach} {b0 : Nat} {v : Value} {d : DataW H} {p : List MemPlace} (hv : Value.okWide Tryz.prog w r b0 67 v) (h : DataW.Trod enc Tryz.prog w base spare held 67 v d p) :
  ∃ vb vf vl vo vk M, v = .agg #[vb, vf, vl, .int .i64 M.m.c.hand, .int .i64 M.m.g.count, .int .i64 M.m.g.next, .int .i64 M.m.g.round, vo, .int .i64 M.m.sp, vk, .int .i64 M.h] ∧ MeR w vb vf vl vo vk M := by
 obtain ⟨cs, rfl, hsz⟩ := okWide_struct Tryz.underlying67 hv
 rw [ce_memory] at hsz
 obtain ⟨cs⟩ := cs
 obtain ⟨fuel, hf⟩ := h
 match cs, hsz with
 | [c0, c1, c2, c3, c4, c5, c6, c7, c8, c9, c10], _ =>
  obtain ⟨_, n, hf⟩ := fld Tryz.underlying67 hf
  obtain ⟨y0, h0⟩ := hf 0 _ rfl 65 0 9 rfl rfl ce_machine
  obtain ⟨y1, h1⟩ := hf 1 _ rfl 35 9 1 rfl rfl ce_sb
  obtain ⟨y2, h2⟩ := hf 2 _ rfl 3 10 1 rfl rfl ce_int
  obtain ⟨vb, vf, vl, vo, m, e, hm⟩ := mach_cells (cs := [c0, c1, c2, c3, c4, c5, c6, c7, c8]) rfl h0
  obtain ⟨l1, q1⟩ := open_rows (E := boE) Tryz.underlying35 ce_bool (fun _ _ _ h => el_bool h) (c := c9) h1
  obtain ⟨a10, rfl⟩ := one_int (c := c10) h2
  injection e with e0 e
  injection e with e1 e
  injection e with e2 e
  injection e with e3 e
  injection e with e4 e
  injection e with e5 e
  injection e with e6 e
  injection e with e7 e
  injection e with e8 e
  subst e0 e1 e2 e3 e4 e5 e6 e7 e8
  exact ⟨c0, c1, c2, c7, c9, ⟨m, l1, a10⟩, rfl, ⟨hm, q1⟩⟩
end
end Go.Proofs.YtfbnokjdkhcgoaaGreatDoor
namespace Go.Proofs.YtfbnokjdkhcgoaaGreatDoor
set_option maxRecDepth 100000
theorem main_is : Tryz.prog.mainIs = some (true, ("e3cae85953a1e8594c5d088c2f5802389a863d70d580150e0c190df728174340" : String).toList) := by
 have h := chars_of (s := Tryz.prog.initOrder) rfl
 unfold Program.mainIs
 rw [h]
 refine Eq.trans ?_ (Eq.refl _)
 kernel_rfl
end Go.Proofs.YtfbnokjdkhcgoaaGreatDoor
