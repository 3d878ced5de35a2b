/- Whatever the bytes: FnLinesCurve returns true, and changes nothing that was there. No conditions. -/
import Derived.Test.YtebodfciiikokaaLaw
import Derived.Test.YtebodfciiikokaaLines
namespace Go.Proofs.Ytebodfciiikokaa.lLinesCurve
open Go.ChangeShapes Go.WideShapes Go.ChangeAt Go.RowKit
open Go.ChangeMaps (open_string shut_string)
set_option linter.unusedVariables false

set_option maxHeartbeats 1000000 in
theorem walk (a0 : Option Addr) (len0 cap0 : Nat) (z0 : List Int) (w : World) (w0 : IsRow .u8 w a0 len0 cap0 z0) :
    Calls Try.prog 3 #[.slice a0 len0 cap0] w fun e w' => e = .returned (.bool true) ∧ Below w.heap.size w w' := by
  by_cases hbig : 1048576 < len0
  · go_enter Try.func3, Try.ntmps3
    go_wp2
    go_ret
    exact ⟨rfl, bR⟩
  have hcap := row_cap w0
  have hby := Lib.hid (row_bytes w0)
  clear w0
  go_enter Try.func3, Try.ntmps3
  go_wp2_with fail
  refine (DrawLinesFor_any a0 len0 cap0 w hby.out hcap (by omega)).mono ?_
  rintro e w1 ⟨A, c, l, n, rfl, hks, hlc, hl, hn1, hn2, hb1⟩
  have HKS := Lib.hid hks
  have HB := Lib.hid hb1
  clear hks hb1
  have K1 := fun W (hw : Below w1.heap.size w1 W) => LinesFor_any A c l n W (HKS.out.now (Nat.le_refl _) hw) (by omega)
  have K2 := fun W (hw : Below w1.heap.size w1 W) => sLinesFor_any A c l n W (HKS.out.now (Nat.le_refl _) hw) (by omega)
  have K3 := fun W (hw : Below w1.heap.size w1 W) => HitCurve_any A c l W (HKS.out.now (Nat.le_refl _) hw) (by omega)
  cases hlf : lf l n with
  | some k =>
    have hlv : lfv l n = (k : Int) + 1 := by unfold lfv; rw [hlf]
    obtain ⟨hv, hk8, hge, hlt⟩ := lf_parts hlf
    have hcv : crvv l = crv l := by unfold crvv; rw [if_pos hv]
    have hcl := crv_length l
    simp only [hlf, hlv, Option.isSome_some] at K1 K2
    simp only [hcv, hv, hcl] at K3
    have hws : IntKind.i64.wrap ((k : Int) + 1 - 1) = (k : Int) := by rw [show (k : Int) + 1 - 1 = k by omega]; exact IntWalk.i64_in _ (by omega)
    have hws2 : IntKind.i64.wrap ((k : Int) + 1 - 2) = (k : Int) - 1 := by rw [show (k : Int) + 1 - 2 = k - 1 by omega]; exact IntWalk.i64_in _ (by omega)
    have H1 := Lib.hid K1
    have H2 := Lib.hid K2
    have H3 := Lib.hid K3
    clear K1 K2 K3 hlf hlv hv hcv
    go_wp2_with fail
    refine (H1.out _ bR).mono ?_
    rintro e w2 ⟨rfl, hb2'⟩
    have hb2 := bT bR hb2'
    go_wp2_with fail
    refine (H2.out _ hb2).mono ?_
    rintro e w3 ⟨rfl, hb3'⟩
    have hb3 := bT hb2 hb3'
    go_wp2_with fail
    refine (H3.out _ hb3).mono ?_
    rintro e w4 ⟨A2, c2, rfl, _, his2, hb4'⟩
    have hb4 := bT hb3 hb4'
    have HIS := Lib.hid his2
    obtain ⟨b, o, v, rfl, hbb, d1, e1⟩ := HIS.out.int (k := k) (by omega)
    rw [crv_get l k hk8] at e1
    injection e1 with e1
    subst e1
    by_cases h0 : k = 0
    · have hq1 : ((k : Int) + 1 == 1) = true := by rw [beq_iff_eq]; omega
      have hq2 : ((k : Int) == 0) = true := by rw [beq_iff_eq]; omega
      generalize Tr.lru l (k + 1) = C1 at *
      clear hlt h0 his2
      go_wp2
      go_ret
      exact ⟨rfl, bT HB.out hb4⟩
    · have hl2 := hlt (k - 1) (by omega)
      obtain ⟨b', o', v, e2, hbb2, d2, e1⟩ := HIS.out.int (k := k - 1) (by omega)
      injection e2 with e2
      injection e2 with e2 e3
      subst e2 e3
      rw [crv_get l (k - 1) (by omega)] at e1
      injection e1 with e1
      subst e1
      have hq1 : ((k : Int) + 1 == 1) = false := by rw [beq_eq_false_iff_ne]; omega
      have hq2 : ((k : Int) == 0) = false := by rw [beq_eq_false_iff_ne]; omega
      generalize Tr.lru l (k + 1) = C1 at *
      generalize Tr.lru l (k - 1 + 1) = C2 at *
      clear hlt his2
      go_wp2
      go_ret
      exact ⟨rfl, bT HB.out hb4⟩
  | none =>
    have hlv : lfv l n = 0 := by unfold lfv; rw [hlf]
    simp only [hlf, hlv, Option.isSome_none] at K1 K2
    by_cases hv : tval l = true
    · have hcv : crvv l = crv l := by unfold crvv; rw [if_pos hv]
      have hcl := crv_length l
      have hlt : ((Tr.lru l (7 + 1) : Nat) : Int) < n := lf_none_parts hv hlf 7 (by omega)
      simp only [hcv, hv, hcl] at K3
      have H1 := Lib.hid K1
      have H2 := Lib.hid K2
      have H3 := Lib.hid K3
      clear K1 K2 K3 hlf hlv hv hcv
      go_wp2_with fail
      refine (H1.out _ bR).mono ?_
      rintro e w2 ⟨rfl, hb2'⟩
      have hb2 := bT bR hb2'
      go_wp2_with fail
      refine (H2.out _ hb2).mono ?_
      rintro e w3 ⟨rfl, hb3'⟩
      have hb3 := bT hb2 hb3'
      go_wp2_with fail
      refine (H3.out _ hb3).mono ?_
      rintro e w4 ⟨A2, c2, rfl, _, his2, hb4'⟩
      have hb4 := bT hb3 hb4'
      obtain ⟨b, o, v, rfl, hbb, d1, e1⟩ := his2.int (k := 7) (by omega)
      rw [crv_get l 7 (by omega)] at e1
      injection e1 with e1
      subst e1
      generalize Tr.lru l (7 + 1) = C1 at *
      clear his2
      go_wp2
      go_ret
      exact ⟨rfl, bT HB.out hb4⟩
    · have hv : tval l = false := by simpa using hv
      have hcv : crvv l = [] := by unfold crvv; rw [hv]; rfl
      simp only [hcv, hv, List.length_nil] at K3
      have H1 := Lib.hid K1
      have H2 := Lib.hid K2
      have H3 := Lib.hid K3
      clear K1 K2 K3 hlf hlv hv hcv
      go_wp2_with fail
      refine (H1.out _ bR).mono ?_
      rintro e w2 ⟨rfl, hb2'⟩
      have hb2 := bT bR hb2'
      go_wp2_with fail
      refine (H2.out _ hb2).mono ?_
      rintro e w3 ⟨rfl, hb3'⟩
      have hb3 := bT hb2 hb3'
      go_wp2_with fail
      refine (H3.out _ hb3).mono ?_
      rintro e w4 ⟨A2, c2, rfl, _, his2, hb4'⟩
      have hb4 := bT hb3 hb4'
      go_wp2
      go_ret
      exact ⟨rfl, bT HB.out hb4⟩

set_option maxRecDepth 100000 in
theorem closed : joinedFacts Try.prog 3 Try.f3 Rows.fnLinesCurveSpec Rows.fnLinesCurveRow = true := by
  unfold joinedFacts
  rw [may_enter, lifts_final, make_cut]
  refine Eq.trans ?_ (Eq.refl _)
  kernel_rfl
set_option maxRecDepth 100000 in
theorem lifted (os : Os) (started : os.Started) (H : Type) (enc : TypeId × Value → H) :
    ReturnsInHanded {} Try.checked os 3 .any (Rows.fnLinesCurveSpec.pre6 enc Try.prog Try.f3 Rows.fnLinesCurveRow.domain false) (Rows.fnLinesCurveSpec.post enc Try.prog Try.f3 false true false false) := by
  refine returnsInHanded_of_change (C := Try.checked) own started (by kernel_rfl) Try.func3
    (ChangeSpec.witness6 (enc := enc) (C := Try.checked) false ⟨#[], #[.slice none 0 0], []⟩ 8 (by kernel_rfl) (by kernel_rfl) (by kernel_rfl) (by kernel_rfl)) ?_
  intro W base args ds gs before hval0 hW hcnd _
  have hval : ∀ (j : Nat) t v, Try.f3.params[j]? = some t → args[j]? = some v → Value.okWide Try.prog W .any base t v := hval0
  have hW' := hW
  obtain ⟨p, q, hA0, hV, rfl, hfz, hnd⟩ := hW
  have hA : DataW.TrodAll enc Try.prog W 0 (fun _ => true) true Try.f3.params.toList args.toList ds p := hA0
  rw [Try.params3] at hA hval
  obtain ⟨v0, vs0, d0, ds0, p0, q0, hargs, rfl, rfl, h0, r0⟩ := trodAll_cons hA
  obtain ⟨rfl, rfl, rfl⟩ := trodAll_nil r0
  obtain rfl : args = #[v0] := by cases args; simp_all
  obtain ⟨rfl, rfl⟩ := trodVars_none hV
  obtain ⟨a0, len0, cap0, rfl⟩ := okWide_slice Try.underlying22 (hval 0 22 v0 rfl rfl)
  have k0 := h0
  have lt0 : ∀ x ∈ p0, x.block < W.heap.size := by obtain ⟨m, hm⟩ := k0; exact DataW.trod_lt m _ _ _ hm
  obtain ⟨z0, w0⟩ : ∃ zs, IsRow .u8 W a0 len0 cap0 zs := by
    obtain ⟨fuel, hf⟩ := h0
    rcases open_ints Try.underlying22 Try.underlying5 (by kernel_rfl) hf with ⟨hcs, _⟩ | ⟨x, l, c, zs, hcs, _, hl, hm, hz, _, hcell, hwz⟩
    · simp [Value.cells] at hcs
      obtain ⟨rfl, rfl, rfl⟩ := hcs
      exact ⟨[], .inl ⟨rfl, rfl, rfl, rfl⟩⟩
    · simp [Value.cells] at hcs
      obtain ⟨rfl, rfl, rfl⟩ := hcs
      exact ⟨zs, .inr ⟨_, rfl, hl, hm, by simpa using hz, hcell, hwz⟩⟩
  clear hA0 hval0
  refine (walk a0 len0 cap0 z0 W w0).mono fun e W' ⟨he, bel⟩ => ?_
  subst he
  exact ⟨_, rfl, _, _, _, [], _, [], hW', trodAll_mk1 (shut_bool Try.underlying4 _), (trodAll_cons_mk (Below.trod laidOut (by kernel_rfl) (of_decide_eq_true (by kernel_rfl)) k0 bel lt0) trodAll_mk0), rfl, bel.frame _, fun h => by cases h⟩

theorem over : Rows.fnLinesCurveRow.holds Try.pinned (OpenSpec.ofChange Rows.fnLinesCurveSpec) :=
  OpenClaim.holds_of_wide 3 Try.f3 rfl rfl rfl rfl rfl rfl rfl ⟨rfl, rfl, rfl, rfl, rfl⟩ rfl rfl rfl rfl rfl (by kernel_rfl) Try.func3 closed
    (of_decide_eq_true (by kernel_rfl)) (by unfold Func.isWrapper; rw [if_neg (of_decide_eq_false (by kernel_rfl))]; exact ⟨rfl, rfl⟩)
    (fun os started H enc _ => lifted os started H enc)

theorem proved : Rows.FnLinesCurveSaid := over
#print axioms proved
end Go.Proofs.Ytebodfciiikokaa.lLinesCurve
