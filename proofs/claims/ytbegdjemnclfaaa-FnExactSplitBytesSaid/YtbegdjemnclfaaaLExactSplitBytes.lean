/- Whatever the arguments: FnExactSplitBytes returns true, and changes nothing that was there. No conditions. -/
import Derived.Test.YtbegdjemnclfaaaLaw
import Derived.Test.YtbegdjemnclfaaaPiece
import Derived.Lib.SmallJoins
namespace Go.Proofs.Ytbegdjemnclfaaa.lExactSplitBytes
open Go.ChangeShapes Go.WideShapes Go.ChangeAt Go.RowKit Go.Joins
open Go.ChangeMaps (open_string shut_string)
set_option linter.unusedVariables false

set_option maxRecDepth 100000 in
set_option maxHeartbeats 2000000 in
theorem walk (s q o b : Int) (w : World) : Calls Try.prog 11 #[.agg #[.int .i64 s, .int .i64 q, .int .i64 o], .int .i64 b] w fun e w' => e = .returned (.bool true) ∧ Below w.heap.size w w' := by
  have hR := pcv_le s q o b
  have KI := SplitBytes_mine s q o b
  have KS := sSplitBytes_any s q o b
  have KA := toAddress_any s q o
  have hbox := Own.new_ w 57 #[.int .i64 s, .int .i64 q, .int .i64 o]
  have hbw : Below w.heap.size w (w.alloc (.cells #[.int .i64 s, .int .i64 q, .int .i64 o] 57)) := bA bR
  generalize hW : w.alloc (.cells #[.int .i64 s, .int .i64 q, .int .i64 o] 57) = W1 at hbox hbw
  generalize pcv s q o b = R at *
  generalize pval s q o b = V at *
  have HI := Lib.hid KI
  have HS := Lib.hid KS
  have HA := Lib.hid KA
  have HBOX := Lib.hid hbox
  have hbx := hbox.lt
  have hq2 : ¬ (1 : Int) + 3 * (R.length : Int) < 0 := by omega
  clear KI KS KA hbox
  go_enter Try.func11, Try.ntmps11
  have y0 := HBOX.out.cell_ 0 (v := .int .i64 s) rfl
  have y1 := HBOX.out.cell_ 1 (v := .int .i64 q) rfl
  have y2 := HBOX.out.cell_ 2 (v := .int .i64 o) rfl
  go_wp2_with fail
  refine (HA.out _).mono ?_
  rintro e w2 ⟨rfl, hb2'⟩
  go_wp2_with fail
  refine (HS.out _).mono ?_
  rintro e w3 ⟨A3, c3, rfl, hlc3, hr3, hb3'⟩
  have hb13 := bT hb2' hb3'
  have HR3 := Lib.hid hr3
  have HBOX3 := Lib.hid (HBOX.out.below hb13)
  clear hr3 y0 y1 y2
  have y0 := HBOX3.out.cell_ 0 (v := .int .i64 s) rfl
  have y1 := HBOX3.out.cell_ 1 (v := .int .i64 q) rfl
  have y2 := HBOX3.out.cell_ 2 (v := .int .i64 o) rfl
  go_wp2_with fail
  refine (HA.out _).mono ?_
  rintro e w4 ⟨rfl, hb4'⟩
  go_wp2_with fail
  refine (HI.out _).mono ?_
  rintro e w5 ⟨A5, c5, rfl, hlc5, hm5, hb5'⟩
  have HM5 := Lib.hid hm5
  clear hm5
  have K5 := eqPieceS_same A5 A3 c5 c3 R _ HM5.out.is (HR3.out.now (Nat.le_refl _) (bT hb4' hb5')) (by omega)
  have H5 := Lib.hid K5
  clear K5 y0 y1 y2
  go_wp2_with fail
  refine H5.out.mono ?_
  rintro e w6 ⟨rfl, hb6'⟩
  have HM6 := Lib.hid (HM5.out.below hb6')
  have hb36 := bT hb4' (bT hb5' hb6')
  have h34 := hb4'.size
  have K6 := markPieceS_any w4.heap.size A5 c5 R _ HM6.out (by omega)
  have H6 := Lib.hid K6
  clear K6
  go_wp2_with fail
  refine H6.out.mono ?_
  rintro e w7 ⟨rfl, hmk, hg7⟩
  have hb37 := bG hb36 hg7 (fun k hk => by have := HM6.out.row k hk; omega)
  have HMK := Lib.hid hmk
  have HBOX7 := Lib.hid (HBOX3.out.below hb37)
  clear hmk hg7
  go_wp2_with fail
  refine (heldPieceS_any A5 R.length c5 _ HMK.out (by omega)).mono ?_
  rintro e w8 ⟨rfl, hb8'⟩
  have HBOX8 := Lib.hid (HBOX7.out.below hb8')
  have y0 := HBOX8.out.cell_ 0 (v := .int .i64 s) rfl
  have y1 := HBOX8.out.cell_ 1 (v := .int .i64 q) rfl
  have y2 := HBOX8.out.cell_ 2 (v := .int .i64 o) rfl
  go_wp2_with fail
  refine (HA.out _).mono ?_
  rintro e w9 ⟨rfl, hb9'⟩
  go_wp2_with fail
  refine (HI.out _).mono ?_
  rintro e w10 ⟨A10, c10, rfl, hlc10, hm10, hb10'⟩
  have hb810 := bT hb8' (bT hb9' hb10')
  have K10 := eqPieceS_same A10 A3 c10 c3 R _ hm10.is (HR3.out.now (Nat.le_refl _) (bT hb37 hb810)) (by omega)
  have H10 := Lib.hid K10
  clear K10 hm10 y0 y1 y2
  go_wp2_with fail
  refine H10.out.mono ?_
  rintro e w11 ⟨rfl, hb11'⟩
  go_wp2_with fail
  refine (heldPieceS_any A5 R.length c5 _ (HMK.out.now (bT hb810 hb11')) (by omega)).mono ?_
  rintro e w12 ⟨rfl, hb12'⟩
  go_wp2
  go_ret
  exact ⟨rfl, bT hbw (bT hb13 (bT hb37 (bT hb810 (bT hb11' hb12'))))⟩

set_option maxRecDepth 100000 in
theorem closed : joinedFacts Try.prog 11 Try.f11 Rows.fnExactSplitBytesSpec Rows.fnExactSplitBytesRow = true := by
  unfold joinedFacts
  rw [may_enter, lifts_final, make_cut]
  refine Eq.trans ?_ (Eq.refl _)
  kernel_rfl
theorem adr_cells : Program.cellsOf Try.prog 57 = 3 := by kernel_rfl
set_option maxRecDepth 100000 in
theorem lifted (os : Os) (started : os.Started) (H : Type) (enc : TypeId × Value → H) :
    ReturnsInHanded {} Try.checked os 11 .any (Rows.fnExactSplitBytesSpec.pre6 enc Try.prog Try.f11 Rows.fnExactSplitBytesRow.domain false) (Rows.fnExactSplitBytesSpec.post enc Try.prog Try.f11 false true false false) := by
  refine returnsInHanded_of_change (C := Try.checked) own started (by kernel_rfl) Try.func11
    (ChangeSpec.witness6 (enc := enc) (C := Try.checked) false ⟨#[], #[.agg #[.int .i64 0, .int .i64 0, .int .i64 0], .int .i64 0], []⟩ 8 (by kernel_rfl) (by kernel_rfl) (by kernel_rfl) (by kernel_rfl)) ?_
  intro W base args ds gs before hval0 hW hcnd _
  have hval : ∀ (j : Nat) t v, Try.f11.params[j]? = some t → args[j]? = some v → Value.okWide Try.prog W .any base t v := hval0
  have hW' := hW
  obtain ⟨p, q, hA0, hV, rfl, hfz, hnd⟩ := hW
  have hA : DataW.TrodAll enc Try.prog W 0 (fun _ => true) true Try.f11.params.toList args.toList ds p := hA0
  rw [Try.params11] at hA hval
  obtain ⟨v0, vs0, d0, ds0, p0, q0, hargs, rfl, rfl, h0, r0⟩ := trodAll_cons hA
  obtain ⟨v1, vs1, d1, ds1, p1, q1, rfl, rfl, rfl, h1, r1⟩ := trodAll_cons r0
  obtain ⟨rfl, rfl, rfl⟩ := trodAll_nil r1
  obtain rfl : args = #[v0, v1] := by cases args; simp_all
  obtain ⟨rfl, rfl⟩ := trodVars_none hV
  have k0 := h0
  have lt0 : ∀ x ∈ p0, x.block < W.heap.size := by obtain ⟨m, hm⟩ := k0; exact DataW.trod_lt m _ _ _ hm
  obtain ⟨n1, rfl, rfl, rfl, wn1⟩ := open_int Try.underlying3 (hval 1 3 v1 rfl rfl) h1
  obtain ⟨c0, c1, c2, z0, z1, z2, m, rfl, hd0, hp0, hz0, hz1, hz2⟩ := open_agg3 Try.underlying57 (by kernel_rfl) adr_cells (hval 0 57 v0 rfl rfl) h0
  obtain ⟨x0, e0, _, wx0⟩ := DataW.trod_int Try.underlying3 hz0
  obtain ⟨x1, e1, _, wx1⟩ := DataW.trod_int Try.underlying3 hz1
  obtain ⟨x2, e2, _, wx2⟩ := DataW.trod_int Try.underlying3 hz2
  simp at e0 e1 e2
  subst e0 e1 e2
  clear hA0 hval0
  refine (walk x0 x1 x2 n1 W).mono fun e W' ⟨he, bel⟩ => ?_
  subst he
  exact ⟨_, rfl, _, _, _, [], _, [], hW', trodAll_mk1 (shut_bool Try.underlying4 _), (trodAll_cons_mk (Below.trod laidOut (by kernel_rfl) (of_decide_eq_true (by kernel_rfl)) k0 bel lt0) (trodAll_cons_mk (shut_int Try.underlying3 wn1) trodAll_mk0)), rfl, bel.frame _, fun h => by cases h⟩

theorem over : Rows.fnExactSplitBytesRow.holds Try.pinned (OpenSpec.ofChange Rows.fnExactSplitBytesSpec) :=
  OpenClaim.holds_of_wide 11 Try.f11 rfl rfl rfl rfl rfl rfl rfl ⟨rfl, rfl, rfl, rfl, rfl⟩ rfl rfl rfl rfl rfl (by kernel_rfl) Try.func11 closed
    (of_decide_eq_true (by kernel_rfl)) (by unfold Func.isWrapper; rw [if_neg (of_decide_eq_false (by kernel_rfl))]; exact ⟨rfl, rfl⟩)
    (fun os started H enc _ => lifted os started H enc)

theorem proved : Rows.FnExactSplitBytesSaid := over
#print axioms proved
end Go.Proofs.Ytbegdjemnclfaaa.lExactSplitBytes
