/- Whatever the bytes: FnCurveBest returns true, and changes nothing that was there. No conditions. -/
import Derived.Test.YtebodfciiikokaaLaw
import Derived.Test.YtebodfciiikokaaCurve
import Derived.Test.YtebodfciiikokaaBest
namespace Go.Proofs.Ytebodfciiikokaa.lCurveBest
open Go.ChangeShapes Go.WideShapes Go.ChangeAt Go.RowKit
open Go.ChangeMaps (open_string shut_string)
set_option linter.unusedVariables false

set_option maxHeartbeats 1000000 in
theorem walk (a0 : Option Addr) (len0 cap0 : Nat) (z0 : List Int) (w : World) (w0 : IsRow .u8 w a0 len0 cap0 z0) :
    Calls Try.prog 9 #[.slice a0 len0 cap0] w fun e w' => e = .returned (.bool true) ∧ Below w.heap.size w w' := by
  by_cases hbig : 1048576 < len0
  · go_enter Try.func9, Try.ntmps9
    go_wp2
    go_ret
    exact ⟨rfl, bR⟩
  have hcap := row_cap w0
  have hby := Lib.hid (row_bytes w0)
  clear w0
  go_enter Try.func9, Try.ntmps9
  go_wp2_with fail
  refine (DrawHitCurve_any a0 len0 cap0 w hby.out hcap (by omega)).mono ?_
  rintro e w1 ⟨A, c, l, rfl, hks, hlc, hl, hb1⟩
  have HKS := Lib.hid hks
  have HB := Lib.hid hb1
  clear hks hb1
  have K1 := fun W (hw : Below w1.heap.size w1 W) => HitCurve_any A c l W (HKS.out.now (Nat.le_refl _) hw) (by omega)
  have K2 := fun W (hw : Below w1.heap.size w1 W) => sHitCurve_any A c l W (HKS.out.now (Nat.le_refl _) hw) (by omega)
  by_cases hv : tval l = true
  · have hcv : crvv l = crv l := by unfold crvv; rw [if_pos hv]
    have hcl := crv_length l
    simp only [hcv, hv, hcl] at K1 K2
    have H1 := Lib.hid K1
    have H2 := Lib.hid K2
    clear K1 K2 hcv
    go_wp2_with fail
    refine (H1.out _ bR).mono ?_
    rintro e w2 ⟨A2, c2, rfl, _, his2, hb2'⟩
    have hb2 := bT bR hb2'
    go_wp2_with fail
    refine (H2.out _ hb2).mono ?_
    rintro e w3 ⟨A3, c3, rfl, _, his3, hb3'⟩
    have hb3 := bT hb2 hb3'
    have K3 := fun W (hw : Below w3.heap.size w3 W) => ipInts_same A2 A3 c2 c3 (crv l) W ((his2.now (Nat.le_refl _) hb3').now (Nat.le_refl _) hw) (his3.now (Nat.le_refl _) hw) (by omega)
    rw [hcl] at K3
    have HIS := Lib.hid (his2.now (Nat.le_refl _) hb3')
    have H3 := Lib.hid K3
    clear K3 his2 his3
    go_wp2_with fail
    refine (H3.out _ bR).mono ?_
    rintro e w4 ⟨rfl, hb4⟩
    have hbw4 := bT hb3 hb4
    go_wp2
    go_loopw [8] (fun u wr => ∃ k : Nat, k ≤ 8 ∧ u = .int .i64 k ∧ Below w4.heap.size w4 wr) (fun u _ => 8 - (intOf u).toNat)
    case atStart => exact ⟨0, by omega, rfl, bR⟩
    case round =>
      obtain ⟨k, hk, rfl, hb⟩ := hrel
      by_cases hlt : k < 8
      · have hr : rval l ((k : Int) + 1) = true := by
          unfold rval lval
          rw [hv, Bool.true_and, Bool.and_eq_true, decide_eq_true_eq, decide_eq_true_eq]
          omega
        have hC : cval Tr.best l ((k : Int) + 1) = ((Tr.best l (k + 1) : Nat) : Int) := by
          unfold cval; rw [if_pos hr, show ((k : Int) + 1).toNat = k + 1 by omega]
        have K4 := HitsBest_any A c l ((k : Int) + 1) wr (HKS.out.now (Nat.le_refl _) (bT hbw4 hb)) hlc (by omega)
        rw [hr, hC] at K4
        have hwi : IntKind.i64.wrap ((k : Int) + 1) = (k : Int) + 1 := IntWalk.i64_in _ (by omega)
        have H4 := Lib.hid K4
        have his := HIS.out.now (Nat.le_refl _) (bT hb4 hb)
        obtain ⟨b, o, v, rfl, hbb, d1, e1⟩ := his.int (k := k) (by omega)
        rw [crv_get l k hlt] at e1
        injection e1 with e1
        subst e1
        have hmo : Tr.lru l (k + 1) ≤ Tr.best l (k + 1) := Tr.lru_best _ _ (by omega) (by omega)
        clear K4 his
        go_wp2_with fail
        refine H4.out.mono ?_
        rintro e w5 ⟨rfl, hb5⟩
        have d1' := (hb5.cell (p := ⟨b, o + k, none⟩) hbb).trans d1
        generalize Tr.lru l (k + 1) = C1 at *
        generalize Tr.best l (k + 1) = C2 at *
        have hq : decide ((C1 : Int) > (C2 : Int)) = false := by simpa using hmo
        go_wp2
        go_roundw
        case rel => exact ⟨k + 1, by omega, by go_num, bT hb hb5⟩
        case measure => simp [intOf]; omega
      · go_wp2
        go_ret
        exact ⟨rfl, bT HB.out (bT hbw4 hb)⟩
  · have hv : tval l = false := by simpa using hv
    have hcv : crvv l = [] := by unfold crvv; rw [hv]; rfl
    simp only [hcv, hv, List.length_nil] at K1 K2
    have H1 := Lib.hid K1
    have H2 := Lib.hid K2
    clear K1 K2 hcv
    go_wp2_with fail
    refine (H1.out _ bR).mono ?_
    rintro e w2 ⟨A2, c2, rfl, _, his2, hb2'⟩
    have hb2 := bT bR hb2'
    go_wp2_with fail
    refine (H2.out _ hb2).mono ?_
    rintro e w3 ⟨A3, c3, rfl, _, his3, hb3'⟩
    have hb3 := bT hb2 hb3'
    have K3 := fun W (hw : Below w3.heap.size w3 W) => ipInts_same A2 A3 c2 c3 [] W ((his2.now (Nat.le_refl _) hb3').now (Nat.le_refl _) hw) (his3.now (Nat.le_refl _) hw) (by simp)
    simp only [List.length_nil] at K3
    have H3 := Lib.hid K3
    clear K3 his2 his3
    go_wp2_with fail
    refine (H3.out _ bR).mono ?_
    rintro e w4 ⟨rfl, hb4⟩
    go_wp2_with fail
    refine (H3.out _ hb4).mono ?_
    rintro e w5 ⟨rfl, hb5⟩
    go_wp2
    go_ret
    exact ⟨rfl, bT HB.out (bT hb3 (bT hb4 hb5))⟩

set_option maxRecDepth 100000 in
theorem closed : joinedFacts Try.prog 9 Try.f9 Rows.fnCurveBestSpec Rows.fnCurveBestRow = true := by
  unfold joinedFacts
  rw [may_enter, lifts_final, make_cut]
  refine Eq.trans ?_ (Eq.refl _)
  kernel_rfl
set_option maxRecDepth 100000 in
theorem lifted (os : Os) (started : os.Started) (H : Type) (enc : TypeId × Value → H) :
    ReturnsInHanded {} Try.checked os 9 .any (Rows.fnCurveBestSpec.pre6 enc Try.prog Try.f9 Rows.fnCurveBestRow.domain false) (Rows.fnCurveBestSpec.post enc Try.prog Try.f9 false true false false) := by
  refine returnsInHanded_of_change (C := Try.checked) own started (by kernel_rfl) Try.func9
    (ChangeSpec.witness6 (enc := enc) (C := Try.checked) false ⟨#[], #[.slice none 0 0], []⟩ 8 (by kernel_rfl) (by kernel_rfl) (by kernel_rfl) (by kernel_rfl)) ?_
  intro W base args ds gs before hval0 hW hcnd _
  have hval : ∀ (j : Nat) t v, Try.f9.params[j]? = some t → args[j]? = some v → Value.okWide Try.prog W .any base t v := hval0
  have hW' := hW
  obtain ⟨p, q, hA0, hV, rfl, hfz, hnd⟩ := hW
  have hA : DataW.TrodAll enc Try.prog W 0 (fun _ => true) true Try.f9.params.toList args.toList ds p := hA0
  rw [Try.params9] at hA hval
  obtain ⟨v0, vs0, d0, ds0, p0, q0, hargs, rfl, rfl, h0, r0⟩ := trodAll_cons hA
  obtain ⟨rfl, rfl, rfl⟩ := trodAll_nil r0
  obtain rfl : args = #[v0] := by cases args; simp_all
  obtain ⟨rfl, rfl⟩ := trodVars_none hV
  obtain ⟨a0, len0, cap0, rfl⟩ := okWide_slice Try.underlying22 (hval 0 22 v0 rfl rfl)
  have k0 := h0
  have lt0 : ∀ x ∈ p0, x.block < W.heap.size := by obtain ⟨m, hm⟩ := k0; exact DataW.trod_lt m _ _ _ hm
  obtain ⟨z0, w0⟩ : ∃ zs, IsRow .u8 W a0 len0 cap0 zs := by
    obtain ⟨fuel, hf⟩ := h0
    rcases open_ints Try.underlying22 Try.underlying5 (by kernel_rfl) hf with ⟨hcs, _⟩ | ⟨x, l, c, zs, hcs, _, hl, hm, hz, _, hcell, hwz⟩
    · simp [Value.cells] at hcs
      obtain ⟨rfl, rfl, rfl⟩ := hcs
      exact ⟨[], .inl ⟨rfl, rfl, rfl, rfl⟩⟩
    · simp [Value.cells] at hcs
      obtain ⟨rfl, rfl, rfl⟩ := hcs
      exact ⟨zs, .inr ⟨_, rfl, hl, hm, by simpa using hz, hcell, hwz⟩⟩
  clear hA0 hval0
  refine (walk a0 len0 cap0 z0 W w0).mono fun e W' ⟨he, bel⟩ => ?_
  subst he
  exact ⟨_, rfl, _, _, _, [], _, [], hW', trodAll_mk1 (shut_bool Try.underlying4 _), (trodAll_cons_mk (Below.trod laidOut (by kernel_rfl) (of_decide_eq_true (by kernel_rfl)) k0 bel lt0) trodAll_mk0), rfl, bel.frame _, fun h => by cases h⟩

theorem over : Rows.fnCurveBestRow.holds Try.pinned (OpenSpec.ofChange Rows.fnCurveBestSpec) :=
  OpenClaim.holds_of_wide 9 Try.f9 rfl rfl rfl rfl rfl rfl rfl ⟨rfl, rfl, rfl, rfl, rfl⟩ rfl rfl rfl rfl rfl (by kernel_rfl) Try.func9 closed
    (of_decide_eq_true (by kernel_rfl)) (by unfold Func.isWrapper; rw [if_neg (of_decide_eq_false (by kernel_rfl))]; exact ⟨rfl, rfl⟩)
    (fun os started H enc _ => lifted os started H enc)

theorem proved : Rows.FnCurveBestSaid := over
#print axioms proved
end Go.Proofs.Ytebodfciiikokaa.lCurveBest
